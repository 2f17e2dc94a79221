/-
  octavolaw03's alive gives true; Wrap and Open with the length beside. Condition: fewer than 100,000 bytes.
-/
import Derived.Test.YtmekoenmaiekfaaFrameOpen
import Derived.Lib.SlBytesConst
namespace Go.Proofs.Ytmekoenmaiekfaa
open Go.RowKit

theorem wrap_len (A : Option Addr) (n c : Nat) (l : List UInt8) (w : World) (hr : RB w w.heap.size A l) (hn : l.length = n) (h : n ≤ 16384) :
    Calls Try.prog 33 #[.slice A n c] w fun e w' => ∃ v, e = .returned (.tuple #[v, .int .i64 0]) ∧ w'.ownsRow w.heap.size 5 1 v (frm l).length (u8s (frm l)) ∧ Below w.heap.size w w' := by
  subst hn
  exact wrap_ok A c l w hr h
theorem open_len (A : Option Addr) (n c : Nat) (l : List UInt8) (w : World) (hr : RB w w.heap.size A l) (hn : l.length = n) (hc : n ≤ c) (hl : n < 100000) :
    Calls Try.prog 34 #[.slice A n c] w fun e w' => opened w w' e l ∧ Below w.heap.size w w' := by
  subst hn
  exact open_any A c l w hr hc hl
theorem one_row (w : World) (cs : Array Value) (e : TypeId) : (w.alloc (.cells cs e)).heap[w.heap.size]? = some (.cells cs e (0, 0)) := by
  show (w.heap.push (.cells cs e))[w.heap.size]? = _
  rw [Array.getElem?_push, if_pos rfl]
theorem below_alloc (w w1 : World) (o : Obj) (h : Below (w.alloc o).heap.size (w.alloc o) w1) : Below w.heap.size w w1 :=
  ((Below.refl w.heap.size w).alloc (Nat.le_refl _) _).trans (h.mono (by rw [World.size_alloc]; exact Nat.le_succ _))
theorem opened_none' {w w' : World} {e : Ending} {l : List UInt8} (h : opn l = none) (ho : opened w w' e l) : e = .returned (.tuple #[.slice none 0 0, .int .i64 30]) := by
  rwa [opened, h] at ho
theorem opened_some' {w w' : World} {e : Ending} {l m : List UInt8} (h : opn l = some m) (ho : opened w w' e l) :
    ∃ v, e = .returned (.tuple #[v, .int .i64 0]) ∧ w'.ownsRow w.heap.size 5 1 v m.length (u8s m) := by
  rwa [opened, h] at ho

theorem frm_ab : (frm [97, 98]).take 4 = [70, 2, 97, 98] := by simp [frm, shut4, head, nb_small (show 2 < 128 by omega)]
theorem frm_ab_len : (frm [97, 98]).length = 8 := by simp [frm, shut4, head, nb_small (show 2 < 128 by omega)]

set_option maxHeartbeats 800000 in
set_option maxRecDepth 100000 in
theorem framealive_ok (w : World) : Calls Try.prog 32 #[] w fun e w' => e = .returned (.bool true) ∧ Below w.heap.size w w' := by
  have kc := fun (w : World) (C : Array Value) (n c : Nat) => Lib.run_convert_bytes_const (P := Try.prog) w 23 5 C n c Try.underlying23 Try.underlying5
  go_enter Try.func32, Try.ntmps32
  go_wp2_with fail
  refine (wrap_len (some ⟨w.heap.size, 0, none⟩) 2 2 [97, 98] _ (RB.row (heap_alloc_new _ _) rfl) rfl (by decide)).mono ?_
  rintro e w1 ⟨v1, rfl, hown1, hb1⟩
  replace hb1 := below_alloc _ _ _ hb1
  clear kc
  obtain ⟨A1, c1, rfl, hc1, -, -⟩ := own_slice hown1
  have hr1 : RB w1 w1.heap.size A1 (frm [97, 98]) := RD.of_own hown1
  rw [frm_ab_len] at hc1
  rw [frm_ab_len]
  clear hown1
  go_wp2_with fail
  refine (open_len A1 8 c1 (frm [97, 98]) w1 hr1 frm_ab_len hc1 (by decide)).mono ?_
  rintro e w2 ⟨ho, hb2⟩
  obtain ⟨v2, rfl, hown2⟩ := opened_some' (opn_frm [97, 98] (by decide)) ho
  obtain ⟨A2, c2, rfl, -, -, -⟩ := own_slice hown2
  have hr2 : RB w2 w2.heap.size A2 [97, 98] := RD.of_own hown2
  have hr12 : RB w2 w2.heap.size A1 ((frm [97, 98]).take 4)   := RB.opening ((RD.below hr1 hb2).more hb2.size) 4 (by rw [frm_ab_len]; decide)
  rw [frm_ab] at hr12
  have k1 := conv_bytes (P := Try.prog) hr12 Try.underlying23 Try.underlying5 Try.underlying9 c1
  have k2 := conv_bytes (P := Try.prog) hr2 Try.underlying23 Try.underlying5 Try.underlying9 c2
  change (convert _ _ (.slice A1 4 c1)).run _ _ = _ at k1
  change (convert _ _ (.slice A2 2 c2)).run _ _ = _ at k2
  have hc4 : (4 : Int) ≤ (c1 : Int) := by omega
  have hc4' : 4 ≤ c1 := by omega
  clear hown2 ho hr1 hr2 hr12
  go_wp2_with fail
  go_ret
  exact ⟨rfl, fresh hb1 hb2⟩
end Go.Proofs.Ytmekoenmaiekfaa
