/-
  octavolaw02's helpers sum, alive. No condition beyond sum's: fewer than a million bytes.
-/
import Derived.Test.YtmekoenmaiekfaaCrcSum
import Derived.Lib.SlBytesConst
namespace Go.Proofs.Ytmekoenmaiekfaa
open Go.RowKit

set_option maxHeartbeats 400000 in
set_option maxRecDepth 100000 in
theorem lawsum_ok (A : Option Addr) (c : Nat) (l : List UInt8) (w : World) (hr : RB w w.heap.size A l) (hl : l.length < 1000000) :
    Calls Try.prog 23 #[.slice A l.length c] w fun e w' => e = .returned (.int .u32 ((sm l).toNat : Int)) ∧ Below w.heap.size w w' := by
  go_enter Try.func23, Try.ntmps23
  go_wp2_with fail
  refine (table_ok _).mono ?_
  rintro e w1 ⟨rfl, hb1⟩
  have hr1 : RB w1 w1.heap.size A l := (hr.below hb1).more hb1.size
  go_wp2_with fail
  refine (sum_any tb A c l w1 hr1 hl).mono ?_
  rintro e w2 ⟨rfl, hb2⟩
  go_wp2_with fail
  go_ret
  exact ⟨rfl, fresh hb1 hb2⟩

/-- The same, the length given by another term. -/
theorem lawsum_len (A : Option Addr) (n c : Nat) (l : List UInt8) (w : World) (hr : RB w w.heap.size A l) (hn : l.length = n) (hl : n < 1000000) :
    Calls Try.prog 23 #[.slice A n c] w fun e w' => e = .returned (.int .u32 ((sm l).toNat : Int)) ∧ Below w.heap.size w w' := by
  subst hn
  exact lawsum_ok A c l w hr hl

theorem sum_known : sm [49, 50, 51, 52, 53, 54, 55, 56, 57] = 0xcbf43926#32 := by decide +kernel

set_option maxHeartbeats 400000 in
set_option maxRecDepth 100000 in
theorem crcalive_ok (w : World) : Calls Try.prog 22 #[] w fun e w' => e = .returned (.bool true) ∧ Below w.heap.size w w' := by
  have kc := fun (w : World) (C : Array Value) (n c : Nat) => Lib.run_convert_bytes_const (P := Try.prog) w 23 5 C n c Try.underlying23 Try.underlying5
  go_enter Try.func22, Try.ntmps22
  go_wp2_with fail
  refine (lawsum_ok _ 9 [49, 50, 51, 52, 53, 54, 55, 56, 57] _ (RB.row (heap_alloc_new _ _) rfl) (by simp)).mono ?_
  rintro e w1 ⟨rfl, hb1⟩
  rw [sum_known]
  go_wp2_with fail
  go_ret
  exact ⟨rfl, fresh ((Below.refl _ _).alloc (Nat.le_refl _) _) hb1⟩
end Go.Proofs.Ytmekoenmaiekfaa
