/-
  PointNames: true. No condition.
-/
import Derived.Test.YtllmlnbgfikeaaaPointJoins
namespace Go.Proofs.Ytllmlnbgfikeaaa
open Go.RowKit

/-- make([]byte, n): n zeroes in a block of the call's own. -/
theorem make_bytes (w : World) (n : Nat) (z : Int) (hz : z = (n : Int)) (h : n < 100000) :
    ∃ w', (Instr.makeSlice 46 (.int .i64 z) (.int .i64 z)).run Try.prog w = .ok (.slice (some ⟨w.heap.size, 0, none⟩) n n) w' ∧ RB w' w'.heap.size (some ⟨w.heap.size, 0, none⟩) (List.replicate n 0) ∧ Below w.heap.size w w' := by
  subst hz
  obtain ⟨i0, hi0, hz0, hz1, hz2⟩ := info_parts u8info
  obtain ⟨w', h1, h2, h3⟩ := run_makeSlice_full (P := Try.prog) w w.heap.size 46 5 i0 (.int .u8 0) 1 Try.underlying46 hi0 hz0 hz1 .i64 .i64 n (by omega) (by rw [hz2]; omega) (by unfold maxLen; omega) (Nat.le_refl _)
  refine ⟨w', h1, ?_, grown_below (World.ownsRow_nil _ _ _ _ : w.ownsRow w.heap.size 5 1 (.slice none 0 0) 0 []) h3 (Nat.le_refl _)⟩
  have e : (madeCells (Value.int .u8 0).cells (n * 1)).toList = u8s (List.replicate n 0) := by
    rw [Nat.mul_one]
    exact (toList_madeCells_one _ n).trans (by simp [u8s])
  rw [e] at h2
  have := RD.of_own h2
  unfold RB
  rw [List.length_replicate]
  exact this
theorem make_ints (w : World) (n : Nat) (z : Int) (hz : z = (n : Int)) (h : n < 100000) :
    ∃ w', (Instr.makeSlice 23 (.int .i64 z) (.int .i64 z)).run Try.prog w = .ok (.slice (some ⟨w.heap.size, 0, none⟩) n n) w' ∧ RZ w' w'.heap.size (some ⟨w.heap.size, 0, none⟩) (List.replicate n 0) ∧ Below w.heap.size w w' := by
  subst hz
  obtain ⟨i0, hi0, hz0, hz1, hz2⟩ := info_parts iinfo
  obtain ⟨w', h1, h2, h3⟩ := run_makeSlice_full (P := Try.prog) w w.heap.size 23 3 i0 (.int .i64 0) 1 Try.underlying23 hi0 hz0 hz1 .i64 .i64 n (by omega) (by rw [hz2]; omega) (by unfold maxLen; omega) (Nat.le_refl _)
  refine ⟨w', h1, ?_, grown_below (World.ownsRow_nil _ _ _ _ : w.ownsRow w.heap.size 3 1 (.slice none 0 0) 0 []) h3 (Nat.le_refl _)⟩
  have e : (madeCells (Value.int .i64 0).cells (n * 1)).toList = zints (List.replicate n 0) := by
    rw [Nat.mul_one]
    exact (toList_madeCells_one _ n).trans (by simp [zints])
  rw [e] at h2
  exact RZ.of_zown h2 (by simp)

theorem enc_zero : encP 0 = [0] := by decide
theorem cod_zeros (n : Nat) : Cod (List.replicate n 0) (List.replicate n 0) := by
  refine ⟨fun p hp => by rw [List.mem_replicate] at hp; rw [hp.2]; decide, ?_⟩
  induction n with
  | zero => rfl
  | succ n ih => rw [List.replicate_succ, cat_cons, ih, enc_zero]; rfl
theorem no_cod0 {l : List UInt8} (hm : l ≠ []) (h : fst l = none) (ps : List Nat) : ¬ Cod l ps := no_cod (qs := []) allP_nil rfl hm h ps

set_option maxHeartbeats 1600000 in
set_option maxRecDepth 100000 in
theorem pointNames_walk (w : World) : Calls Try.prog 8 #[] w fun e w' => e = .returned (.bool true) ∧ Below w.heap.size w w' := by
  go_enter Try.func8, Try.ntmps8
  go_wp2_with fail
  refine (text_one _ 1 8364 8364 _ (RZ.new w _ _ [8364] rfl) rfl (by decide)).mono ?_
  rintro e w1 ⟨rfl, hb1⟩
  have hbw1 := fresh (boxed w _) hb1
  clear hb1
  have he1 := hide (show cat [8364] = [226, 130, 172] by decide)
  rw [he1.out]
  go_wp2_with fail
  obtain ⟨w2, hmk, hr2, hb2⟩ := make_bytes w1 1025 1025 rfl (by decide)
  have hbw2 := fresh hbw1 hb2
  have kc := conv_bytes (P := Try.prog) hr2 Try.underlying46 Try.underlying5 Try.underlying9 1025
  rw [List.length_replicate] at kc
  obtain ⟨L, hL⟩ : ∃ L, L = List.replicate 1025 (0 : UInt8) := ⟨_, rfl⟩
  rw [← hL] at kc
  have hLl := hide (show L.length < 268435456 by rw [hL, List.length_replicate]; decide)
  have hLc := hide (show Cod L (List.replicate 1025 0) by rw [hL]; exact cod_zeros 1025)
  clear hL hr2
  rw [hmk]
  go_wp2_with fail
  refine (points_many L (List.replicate 1025 0) w2 hLl.out hLc.out (by rw [List.length_replicate]; decide)).mono ?_
  rintro e w3 ⟨rfl, hb3⟩
  have hbw3 := fresh hbw2 hb3
  clear hmk kc
  go_wp2_with fail
  obtain ⟨w4, hmk, hr4, hb4⟩ := make_ints w3 1025 1025 rfl (by decide)
  have hbw4 := fresh hbw3 hb4
  rw [hmk]
  clear hmk
  go_wp2_with fail
  refine (text_many _ 1025 1025 (List.replicate 1025 0) w4 hr4 (List.length_replicate ..) (by decide) (by decide)).mono ?_
  rintro e w5 ⟨rfl, hb5⟩
  have hbw5 := fresh hbw4 hb5
  clear hr4
  go_wp2_with fail
  refine (none_yes [195] w5 (by decide) (no_cod0 (by decide) (by decide))).mono ?_
  rintro e w6 ⟨rfl, hb6⟩
  have hbw6 := fresh hbw5 hb6
  go_wp2_with fail
  refine (none_yes [192, 128] w6 (by decide) (no_cod0 (by decide) (by decide))).mono ?_
  rintro e w7 ⟨rfl, hb7⟩
  have hbw7 := fresh hbw6 hb7
  go_wp2_with fail
  refine (none_yes [237, 160, 128] w7 (by decide) (no_cod0 (by decide) (by decide))).mono ?_
  rintro e w8 ⟨rfl, hb8⟩
  have hbw8 := fresh hbw7 hb8
  go_wp2_with fail
  refine (none_yes [244, 144, 128, 128] w8 (by decide) (no_cod0 (by decide) (by decide))).mono ?_
  rintro e w9 ⟨rfl, hb9⟩
  have hbw9 := fresh hbw8 hb9
  go_wp2_with fail
  refine (none_yes [97, 128] w9 (by decide) (no_cod (qs := [97]) (m := [128]) (by decide) (by decide) (by decide) (by decide))).mono ?_
  rintro e w10 ⟨rfl, hb10⟩
  have hbw10 := fresh hbw9 hb10
  go_wp2_with fail
  refine (are_yes [] none 0 0 [] w10 (by decide) ⟨by decide, by decide⟩ (by decide) RD.nil_ rfl).mono ?_
  rintro e w11 ⟨rfl, hb11⟩
  have hbw11 := fresh hbw10 hb11
  go_wp2_with fail
  refine (are_yes [239, 191, 189] _ 1 1 [65533] _ (by decide) ⟨by decide, by decide⟩ (by decide) (RZ.new w11 _ _ [65533] rfl) rfl).mono ?_
  rintro e w12 ⟨rfl, hb12⟩
  have hbw12 := fresh hbw11 (fresh (boxed w11 _) hb12)
  clear hb12
  go_wp2_with fail
  refine (check_no 55296 w12 (by decide)).mono ?_
  rintro e w' ⟨rfl, rfl⟩
  go_wp2_with fail
  refine (check_no (-1) w12 (by decide)).mono ?_
  rintro e w' ⟨rfl, rfl⟩
  go_wp2_with fail
  refine (check_no 1114112 w12 (by decide)).mono ?_
  rintro e w' ⟨rfl, rfl⟩
  go_wp2_with fail
  refine (check_yes 57344 w12 (by decide)).mono ?_
  rintro e w' ⟨rfl, rfl⟩
  go_wp2_with fail
  refine (check_yes 1114111 w12 (by decide)).mono ?_
  rintro e w' ⟨rfl, rfl⟩
  go_wp2_with fail
  refine (palive_ok _).mono ?_
  rintro e w13 ⟨rfl, hb13⟩
  go_wp2_with fail
  go_ret
  exact ⟨rfl, fresh hbw12 hb13⟩
end Go.Proofs.Ytllmlnbgfikeaaa
