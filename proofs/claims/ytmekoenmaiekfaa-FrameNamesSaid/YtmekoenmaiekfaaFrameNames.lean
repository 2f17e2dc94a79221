/-
  FrameNames: true. No condition.
-/
import Derived.Test.YtmekoenmaiekfaaFrameAlive
namespace Go.Proofs.Ytmekoenmaiekfaa
open Go.RowKit

theorem frm_nil : (frm []).length = 6 := by simp [frm, shut4, head, nb_small (show 0 < 128 by omega)]
theorem frm_nil2 : ∃ r, frm [] = 70 :: 0 :: r := ⟨_, by simp [frm, shut4, head, nb_small (show 0 < 128 by omega)]; rfl⟩
theorem frm_most (l : List UInt8) (h : l.length = 16384) : (frm l).length = 16392 := by
  rw [frm_len, h, nb_big (by omega), nb_big (by omega), nb_small (by omega)]
  rfl
theorem opn_seven : opn ((frm [97, 98]).take 7) = none := by
  cases ho : opn ((frm [97, 98]).take 7) with
  | none => rfl
  | some m =>
    obtain ⟨h1, h2⟩ := opn_inv ho
    have h3 := frm_prefix (l := [97, 98]) (m := m) (r := []) (r' := (frm [97, 98]).drop 7) (by decide) h2 (by rw [← h1, List.take_append_drop, List.append_nil])
    rw [← h1, List.length_take, frm_ab_len] at h3
    simp at h3
theorem opn_empty : opn [] = none := by simp [opn]

/-- make([]byte, n): n zeroes in a block of the call's own. -/
theorem make_zeros (w : World) (n : Nat) (z : Int) (hz : z = (n : Int)) (h : n < 100000) :
    ∃ w', (Instr.makeSlice 23 (.int .i64 z) (.int .i64 z)).run Try.prog w = .ok (.slice (some ⟨w.heap.size, 0, none⟩) n n) w' ∧ RB w' w'.heap.size (some ⟨w.heap.size, 0, none⟩) (List.replicate n 0) ∧ Below w.heap.size w w' := by
  subst hz
  obtain ⟨i0, hi0, hz0, hz1, hz2⟩ := info_parts u8info
  obtain ⟨w', h1, h2, h3⟩ := run_makeSlice_full (P := Try.prog) w w.heap.size 23 5 i0 (.int .u8 0) 1 Try.underlying23 hi0 hz0 hz1 .i64 .i64 n (by omega) (by rw [hz2]; omega) (by unfold maxLen; omega) (Nat.le_refl _)
  refine ⟨w', h1, ?_, grown_below (World.ownsRow_nil _ _ _ _ : w.ownsRow w.heap.size 5 1 (.slice none 0 0) 0 []) h3 (Nat.le_refl _)⟩
  have e : (madeCells (Value.int .u8 0).cells (n * 1)).toList = u8s (List.replicate n 0) := by
    rw [Nat.mul_one]
    exact (toList_madeCells_one _ n).trans (by simp [u8s])
  rw [e] at h2
  have := RD.of_own h2
  unfold RB
  rw [List.length_replicate]
  exact this
theorem wrap_many_len (A : Option Addr) (n c : Nat) (w : World) (h : (16384 : Int) < (n : Int)) :
    Calls Try.prog 33 #[.slice A n c] w fun e w' => e = .returned (.tuple #[.slice none 0 0, .int .i64 4]) ∧ w = w' := by
  have := wrap_many A c (List.replicate n 0) w (by rw [List.length_replicate]; exact h)
  rwa [List.length_replicate] at this

set_option maxHeartbeats 800000 in
set_option maxRecDepth 100000 in
theorem frameNames_walk (w : World) : Calls Try.prog 14 #[] w fun e w' => e = .returned (.bool true) ∧ Below w.heap.size w w' := by
  have kc := fun (w : World) (C : Array Value) (n c : Nat) => Lib.run_convert_bytes_const (P := Try.prog) w 23 5 C n c Try.underlying23 Try.underlying5
  go_enter Try.func14, Try.ntmps14
  go_wp2_with fail
  refine (framealive_ok _).mono ?_
  rintro e w0 ⟨rfl, hb0⟩
  go_wp2_with fail
  refine (wrap_len (some ⟨w0.heap.size, 0, none⟩) 2 2 [97, 98] _ (RB.row (heap_alloc_new _ _) rfl) rfl (by decide)).mono ?_
  rintro e w1 ⟨v1, rfl, hown1, hb1⟩
  replace hb1 := below_alloc _ _ _ hb1
  obtain ⟨A1, c1, rfl, hc1, -, -⟩ := own_slice hown1
  have hr1 : RB w1 w1.heap.size A1 (frm [97, 98]) := RD.of_own hown1
  rw [frm_ab_len] at hc1
  rw [frm_ab_len]
  clear hown1 kc
  have hb01 := fresh hb0 hb1
  clear hb0 hb1
  go_wp2_with fail
  refine (wrap_len none 0 0 [] w1 RD.nil_ rfl (by decide)).mono ?_
  rintro e w2 ⟨v2, rfl, hown2, hb2⟩
  obtain ⟨A2, c2, rfl, hc2, -, -⟩ := own_slice hown2
  have hr2 : RB w2 w2.heap.size A2 (frm []) := RD.of_own hown2
  rw [frm_nil]
  have hr12 : RB w2 w2.heap.size A1 (frm [97, 98]) := (RD.below hr1 hb2).more hb2.size
  have hb02 := fresh hb01 hb2
  clear hown2 hb01 hb2 hr1
  go_wp2_with fail
  refine (open_len none 0 0 [] w2 RD.nil_ rfl (by decide) (by decide)).mono ?_
  rintro e w3 ⟨ho, hb3⟩
  obtain rfl := opened_none' opn_empty ho
  have hr23 : RB w3 w3.heap.size A2 (frm []) := (RD.below hr2 hb3).more hb3.size
  have hr13 : RB w3 w3.heap.size A1 (frm [97, 98]) := (RD.below hr12 hb3).more hb3.size
  have hb03 := fresh hb02 hb3
  have hc7 : (7 : Int) ≤ (c1 : Int) := by omega
  have hc7' : 7 ≤ c1 := by omega
  clear ho hb02 hb3 hr2 hr12
  go_wp2_with fail
  refine (open_len A1 7 c1 ((frm [97, 98]).take 7) w3 (RB.opening hr13 7 (by rw [frm_ab_len]; decide)) (by rw [List.length_take, frm_ab_len]; rfl) hc7' (by decide)).mono ?_
  rintro e w4 ⟨ho, hb4⟩
  obtain rfl := opened_none' opn_seven ho
  have hr24 : RB w4 w4.heap.size A2 (frm []) := (RD.below hr23 hb4).more hb4.size
  have hb04 := fresh hb03 hb4
  clear ho hb03 hb4 hr23 hr13 hc7 hc7' hc1
  go_wp2_with fail
  obtain ⟨w5, hmk, -, hb5⟩ := make_zeros w4 16385 16385 rfl (by decide)
  have hb05 := fresh hb04 hb5
  have hr25 : RB w5 w5.heap.size A2 (frm []) := (RD.below hr24 hb5).more hb5.size
  clear hb04 hb5 hr24
  rw [hmk]
  go_wp2_with fail
  refine (wrap_many_len _ 16385 16385 w5 (by decide)).mono ?_
  rintro e w6 ⟨rfl, rfl⟩
  clear hmk
  go_wp2_with fail
  obtain ⟨w6, hmk, hr6, hb6⟩ := make_zeros w5 16384 16384 rfl (by decide)
  have hb06 := fresh hb05 hb6
  have hr26 : RB w6 w6.heap.size A2 (frm []) := (RD.below hr25 hb6).more hb6.size
  clear hb05 hb6 hr25
  rw [hmk]
  go_wp2_with fail
  refine (wrap_len _ 16384 16384 _ w6 hr6 (List.length_replicate ..) (by decide)).mono ?_
  rintro e w7 ⟨v7, rfl, hown7, hb7⟩
  obtain ⟨A7, c7, rfl, -, -, -⟩ := own_slice hown7
  rw [frm_most _ (List.length_replicate ..)]
  have hr27 : RB w7 w7.heap.size A2 (frm []) := (RD.below hr26 hb7).more hb7.size
  have hb07 := fresh hb06 hb7
  obtain ⟨b2, o2, rfl, -, hC2⟩ := RB.cell hr27 (by rw [frm_nil]; decide)
  obtain ⟨r, hr⟩ := frm_nil2
  have d0 := hC2 0 (by rw [frm_nil]; decide)
  have d1 := hC2 1 (by rw [frm_nil]; decide)
  simp only [hr, List.getElem_cons_zero, List.getElem_cons_succ] at d0 d1
  rw [Nat.add_zero] at d0
  change w7.cell? _ = some (.int .u8 70) at d0
  change w7.cell? _ = some (.int .u8 0) at d1
  clear hmk hr6 hown7 hb06 hb7 hr26 hr27 hC2 hr hc2
  go_wp2_with fail
  go_ret
  exact ⟨rfl, hb07⟩
end Go.Proofs.Ytmekoenmaiekfaa
