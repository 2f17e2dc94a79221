/-
  What octavoref04 does: Is, Bytes, first, Points, Text, Check. Condition: the sizes that each line says.
-/
import Derived.Test.YtllmlnbgfikeaaaPointBack
namespace Go.Proofs.Ytllmlnbgfikeaaa
open Go.RowKit

set_option maxHeartbeats 400000 in
set_option maxRecDepth 100000 in
theorem six_zero (z : Int) (w : World) (h0 : 0 ≤ z) (h1 : z ≤ 1114111) :
    Calls Try.prog 41 #[.int .i64 z, .int .i64 0] w fun e w' => e = .returned (.int .u8 (128 + z % 64)) ∧ w = w' := by
  go_enter Try.func41, Try.ntmps41
  go_wp2_with fail
  go_loop [0, 5] (fun a i => i = .int .i64 0 ∧ a = .int .i64 z) (fun _ _ => 0)
  case atStart => exact ⟨rfl, rfl⟩
  case round =>
    obtain ⟨rfl, rfl⟩ := hrel
    go_wp2_with fail
    go_ret
    exact ⟨ret_int (by omega), rfl⟩

set_option maxHeartbeats 400000 in
set_option maxRecDepth 100000 in
theorem six_one (z : Int) (w : World) (h0 : 0 ≤ z) (h1 : z ≤ 1114111) :
    Calls Try.prog 41 #[.int .i64 z, .int .i64 1] w fun e w' => e = .returned (.int .u8 (128 + z / 64 % 64)) ∧ w = w' := by
  go_enter Try.func41, Try.ntmps41
  go_wp2_with fail
  go_loop [0, 5] (fun a i => (i = .int .i64 0 ∧ a = .int .i64 z) ∨ (i = .int .i64 1 ∧ a = .int .i64 (z / 64))) (fun _ i => 1 - (intOf i).toNat)
  case atStart => exact .inl ⟨rfl, rfl⟩
  case round =>
    rcases hrel with ⟨rfl, rfl⟩ | ⟨rfl, rfl⟩
    · go_wp2_with fail
      go_round
      case rel => exact .inr ⟨rfl, rfl⟩
      case measure => simp [intOf]
    · have h2 : 0 ≤ z / 64 := by omega
      have h3 : z / 64 ≤ 1114111 := by omega
      go_wp2_with fail
      go_ret
      exact ⟨ret_int (by omega), rfl⟩

set_option maxHeartbeats 400000 in
set_option maxRecDepth 100000 in
theorem six_two (z : Int) (w : World) (h0 : 0 ≤ z) (h1 : z ≤ 1114111) :
    Calls Try.prog 41 #[.int .i64 z, .int .i64 2] w fun e w' => e = .returned (.int .u8 (128 + z / 4096 % 64)) ∧ w = w' := by
  go_enter Try.func41, Try.ntmps41
  go_wp2_with fail
  go_loop [0, 5] (fun a i => (i = .int .i64 0 ∧ a = .int .i64 z) ∨ (i = .int .i64 1 ∧ a = .int .i64 (z / 64)) ∨ (i = .int .i64 2 ∧ a = .int .i64 (z / 4096))) (fun _ i => 2 - (intOf i).toNat)
  case atStart => exact .inl ⟨rfl, rfl⟩
  case round =>
    rcases hrel with ⟨rfl, rfl⟩ | ⟨rfl, rfl⟩ | ⟨rfl, rfl⟩
    · go_wp2_with fail
      go_round
      case rel => exact .inr (.inl ⟨rfl, rfl⟩)
      case measure => simp [intOf]
    · have h2 : 0 ≤ z / 64 := by omega
      have h3 : z / 64 ≤ 1114111 := by omega
      go_wp2_with fail
      go_round
      case rel => exact .inr (.inr ⟨rfl, ret_val (by omega)⟩)
      case measure => simp [intOf]
    · have h2 : 0 ≤ z / 4096 := by omega
      have h3 : z / 4096 ≤ 1114111 := by omega
      go_wp2_with fail
      go_ret
      exact ⟨ret_int (by omega), rfl⟩

theorem is_yes (z : Int) (p : Nat) (w : World) (hz : z = (p : Int)) (h : isP p) :
    Calls Try.prog 37 #[.int .i64 z] w fun e w' => e = .returned (.bool true) ∧ w = w' := by
  obtain ⟨h1, h2⟩ := h
  have g0 : 0 ≤ z := by omega
  have g1 : z ≤ 1114111 := by omega
  rcases h2 with h2 | h2
  · have g2 : z < 55296 := by omega
    clear h1 h2 hz
    go_enter Try.func37, Try.ntmps37
    go_wp2_with fail
    go_ret
    exact ⟨rfl, rfl⟩
  · have g2 : ¬ z < 55296 := by omega
    have g3 : 57343 < z := by omega
    clear h1 h2 hz
    go_enter Try.func37, Try.ntmps37
    go_wp2_with fail
    go_ret
    exact ⟨rfl, rfl⟩
theorem is_no (z : Int) (w : World) (h : ¬ isZ z) :
    Calls Try.prog 37 #[.int .i64 z] w fun e w' => e = .returned (.bool false) ∧ w = w' := by
  have hc : z < 0 ∨ 1114111 < z ∨ (55296 ≤ z ∧ z ≤ 57343) := by unfold isZ isP at h; omega
  clear h
  rcases hc with h1 | h1 | ⟨h1, h2⟩
  · have g1 : ¬ 0 ≤ z := by omega
    clear h1
    go_enter Try.func37, Try.ntmps37
    go_wp2_with fail
    go_ret
    exact ⟨rfl, rfl⟩
  · have g1 : 0 ≤ z := by omega
    have g2 : ¬ z ≤ 1114111 := by omega
    clear h1
    go_enter Try.func37, Try.ntmps37
    go_wp2_with fail
    go_ret
    exact ⟨rfl, rfl⟩
  · have g1 : 0 ≤ z := by omega
    have g2 : z ≤ 1114111 := by omega
    have g3 : ¬ z < 55296 := by omega
    have g4 : ¬ 57343 < z := by omega
    clear h1 h2
    go_enter Try.func37, Try.ntmps37
    go_wp2_with fail
    go_ret
    exact ⟨rfl, rfl⟩

set_option maxHeartbeats 1000000 in
set_option maxRecDepth 100000 in
theorem refenc_ok (z : Int) (p : Nat) (w : World) (hz : z = (p : Int)) (hp : isP p) :
    Calls Try.prog 38 #[.int .i64 z] w fun e w' => ∃ v, e = .returned v ∧ w'.ownsRow w.heap.size 5 1 v (encP p).length (u8s (encP p)) ∧ Below w.heap.size w w' := by
  obtain ⟨hp1, hp2⟩ := hp
  rw [← u8s_len (encP p)]
  have g0 : 0 ≤ z := by omega
  have g1 : z ≤ 1114111 := by omega
  by_cases h1 : p < 128
  · rw [enc_cells1 h1, ← hz]
    have a1 : z < 128 := by omega
    clear h1 hp1 hp2 hz
    go_enter Try.func38, Try.ntmps38
    go_wp2_with fail
    go_ret
    exact ⟨_, rfl, World.ownsRow_lit w _ 1 (Nat.le_refl _) (by decide) (by simp), boxed w _⟩
  by_cases h2 : p < 2048
  · rw [enc_cells2 (by omega) h2, ← hz]
    have a0 : ¬ z < 128 := by omega
    have a1 : z < 2048 := by omega
    clear h1 h2 hp1 hp2 hz
    go_enter Try.func38, Try.ntmps38
    go_wp2_with fail
    refine (six_zero z w g0 g1).mono ?_
    rintro e w' ⟨rfl, rfl⟩
    go_wp2_with fail
    go_ret
    exact ⟨_, rfl, World.ownsRow_lit w _ 2 (Nat.le_refl _) (by decide) (by simp), boxed w _⟩
  by_cases h3 : p < 65536
  · rw [enc_cells3 (by omega) h3, ← hz]
    have a0 : ¬ z < 128 := by omega
    have a2 : ¬ z < 2048 := by omega
    have a1 : z < 65536 := by omega
    clear h1 h2 h3 hp1 hp2 hz
    go_enter Try.func38, Try.ntmps38
    go_wp2_with fail
    refine (six_one z w g0 g1).mono ?_
    rintro e w' ⟨rfl, rfl⟩
    go_wp2_with fail
    refine (six_zero z w g0 g1).mono ?_
    rintro e w' ⟨rfl, rfl⟩
    go_wp2_with fail
    go_ret
    exact ⟨_, rfl, World.ownsRow_lit w _ 3 (Nat.le_refl _) (by decide) (by simp), boxed w _⟩
  · rw [enc_cells4 (by omega) hp1, ← hz]
    have a0 : ¬ z < 128 := by omega
    have a2 : ¬ z < 2048 := by omega
    have a1 : ¬ z < 65536 := by omega
    clear h1 h2 h3 hp1 hp2 hz
    go_enter Try.func38, Try.ntmps38
    go_wp2_with fail
    refine (six_two z w g0 g1).mono ?_
    rintro e w' ⟨rfl, rfl⟩
    go_wp2_with fail
    refine (six_one z w g0 g1).mono ?_
    rintro e w' ⟨rfl, rfl⟩
    go_wp2_with fail
    refine (six_zero z w g0 g1).mono ?_
    rintro e w' ⟨rfl, rfl⟩
    go_wp2_with fail
    go_ret
    exact ⟨_, rfl, World.ownsRow_lit w _ 4 (Nat.le_refl _) (by decide) (by simp), boxed w _⟩

theorem refcheck_yes (z : Int) (p : Nat) (w : World) (hz : z = (p : Int)) (h : isP p) :
    Calls Try.prog 29 #[.int .i64 z] w fun e w' => e = .returned (.int .i64 0) ∧ w = w' := by
  have Hz := hide hz
  have H := hide h
  clear hz h
  go_enter Try.func29, Try.ntmps29
  go_wp2_with fail
  refine (is_yes z p w Hz.out H.out).mono ?_
  rintro e w' ⟨rfl, rfl⟩
  go_wp2_with fail
  go_ret
  exact ⟨rfl, rfl⟩
theorem refcheck_no (z : Int) (w : World) (h : ¬ isZ z) :
    Calls Try.prog 29 #[.int .i64 z] w fun e w' => e = .returned (.int .i64 40) ∧ w = w' := by
  have H := hide h
  clear h
  go_enter Try.func29, Try.ntmps29
  go_wp2_with fail
  refine (is_no z w H.out).mono ?_
  rintro e w' ⟨rfl, rfl⟩
  go_wp2_with fail
  go_ret
  exact ⟨rfl, rfl⟩
end Go.Proofs.Ytllmlnbgfikeaaa
