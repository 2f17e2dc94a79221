/-
  CrcSelf: true for every text. No condition.
-/
import Derived.Test.YtmekoenmaiekfaaCrcLaw
import Derived.Test.YtmekoenmaiekfaaAppend
import Derived.Test.YtmekoenmaiekfaaNumPut
namespace Go.Proofs.Ytmekoenmaiekfaa
open Go.RowKit

theorem byte_vals (v : B32) : (v.toNat : Int) % 256 = ((byteOf v 0).toNat : Int) ∧ (v.toNat : Int) / 256 % 256 = ((byteOf v 1).toNat : Int) ∧ (v.toNat : Int) / 65536 % 256 = ((byteOf v 2).toNat : Int) ∧
    (v.toNat : Int) / 16777216 = ((byteOf v 3).toNat : Int) := by
  have hv := v.isLt
  unfold byteOf
  simp only [UInt8.toNat_ofNat']
  refine ⟨?_, ?_, ?_, ?_⟩ <;> omega

set_option maxHeartbeats 400000 in
set_option maxRecDepth 100000 in
theorem crcSelf_walk (A : Option Addr) (c : Nat) (l : List UInt8) (w : World) (hr : RB w w.heap.size A l) :
    Calls Try.prog 7 #[.slice A l.length c] w fun e w' => e = .returned (.bool true) ∧ Below w.heap.size w w' := by
  obtain ⟨i0, hi0, hz0, hz1, hz2⟩ := info_parts u8info
  by_cases hl : (10000 : Int) < (l.length : Int)
  · go_enter Try.func7, Try.ntmps7
    go_wp2_with fail
    refine (crcalive_ok _).mono ?_
    rintro e w1 ⟨rfl, hb1⟩
    go_wp2_with fail
    go_ret
    exact ⟨rfl, hb1⟩
  · have hlt : l.length < 1000000 := by omega
    go_enter Try.func7, Try.ntmps7
    go_wp2_with fail
    refine (crcalive_ok _).mono ?_
    rintro e w1 ⟨rfl, hb1⟩
    have hr1 : RB w1 w1.heap.size A l := (hr.below hb1).more hb1.size
    go_wp2_with fail
    refine (lawsum_ok A c l w1 hr1 hlt).mono ?_
    rintro e w2 ⟨rfl, hb2⟩
    have hr2 : RB w2 w2.heap.size A l := (hr1.below hb2).more hb2.size
    have hb12 := fresh hb1 hb2
    obtain ⟨y0, y1, y2, y3⟩ := byte_vals (sm l)
    have hb3' := (Below.refl w2.heap.size w2).alloc (Nat.le_refl _) (.cells #[] 5)
    go_wp2_with (first
      | (at_builtin; refine wpList_append_src _ rfl (.tmp 13) (.tmp 14) 23 rfl w2.heap.size 5 i0 (.int .u8 0) 1 1 Try.underlying23 hi0 hz0 hz1 hz2 rfl (by decide) _ 0 [] rfl (own_empty w2 _ _ _ (Nat.le_refl _)) w2.heap.size A l.length c (u8s l) rfl (hr2.alloc (Nat.le_refl _) _) (u8s_one l) (by omega) (by decide) (by simp) ?_; intro v3 w3 hown3 hb3; simp only [Nat.zero_add, List.nil_append] at hown3)
      | (at_builtin; refine wpList_append_src _ rfl (.tmp 15) (.tmp 30) 23 rfl w2.heap.size 5 i0 (.int .u8 0) 1 1 Try.underlying23 hi0 hz0 hz1 hz2 rfl (by decide) _ l.length (u8s l) rfl (hown3.alloc _) _ _ 4 4 _ rfl (RB.row (l := [byteOf (sm l) 0, byteOf (sm l) 1, byteOf (sm l) 2, byteOf (sm l) 3]) (heap_alloc_new w3 _) rfl) (u8s_one _) (by omega) (by decide) (by have := hb3.size; simp at this ⊢; omega) ?_; intro v4 w4 hown4 hb4))
    have hb24 : Below w2.heap.size w2 w4 := ((hb3'.trans hb3).alloc (by have := hb3.size; simp at this; omega) _).trans hb4
    have hown5 : w4.ownsRow w2.heap.size 5 1 v4 (l ++ [byteOf (sm l) 0, byteOf (sm l) 1, byteOf (sm l) 2, byteOf (sm l) 3]).length (u8s (l ++ [byteOf (sm l) 0, byteOf (sm l) 1, byteOf (sm l) 2, byteOf (sm l) 3])) := by
      rw [u8s_append, List.length_append]; exact hown4
    clear hown4 hown3 y0 y1 y2 y3
    obtain ⟨A4, c4, rfl, -, -, -⟩ := own_slice hown5
    refine (lawsum_ok A4 c4 _ w4 (RD.of_own hown5) (by simp; omega)).mono ?_
    rintro e w5 ⟨rfl, hb5⟩
    rw [sm_self]
    go_wp2_with fail
    go_ret
    exact ⟨rfl, fresh hb12 (fresh hb24 hb5)⟩
end Go.Proofs.Ytmekoenmaiekfaa
