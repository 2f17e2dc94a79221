/-
  octavolaw01's helpers is, alive: each gives true. No condition.
-/
import Derived.Test.YtmekoenmaiekfaaNumPut
namespace Go.Proofs.Ytmekoenmaiekfaa
open Go.RowKit

set_option maxHeartbeats 400000 in
theorem is_ok (z : Int) (n : Nat) (s : ByteArray) (w : World) (hz : z = (n : Int)) (h : n ≤ 1099511627776) (hs : (nb n == s.toList) = true) :
    Calls Try.prog 37 #[.int .i64 z, .string s] w fun e w' => e = .returned (.bool true) ∧ Below w.heap.size w w' := by
  subst hz
  have C := hide (put_ok n w h)
  clear h
  go_enter Try.func37, Try.ntmps37
  go_wp2_with fail
  refine (unhide C).mono ?_
  rintro e w1 ⟨v, rfl, hown, hb⟩
  obtain ⟨A, c, rfl, -, -, -⟩ := own_slice hown
  have hr : RB w1 w1.heap.size A (nb n) := RD.of_own hown
  have hc := conv_bytes (P := Try.prog) hr Try.underlying23 Try.underlying5 Try.underlying9 c
  clear hown hr
  go_wp2_with fail
  go_ret
  exact ⟨rfl, hb⟩

theorem nb0 : nb 0 = [0] := by rw [nb_small (by omega)]; rfl
theorem nb127 : nb 127 = [127] := by rw [nb_small (by omega)]; rfl
theorem nb128 : nb 128 = [128, 1] := by rw [nb_big (by omega), nb_small (by omega)]; rfl
theorem nb300 : nb 300 = [172, 2] := by rw [nb_big (by omega), nb_small (by omega)]; rfl

set_option maxHeartbeats 400000 in
theorem alive_ok (w : World) : Calls Try.prog 19 #[] w fun e w' => e = .returned (.bool true) ∧ Below w.heap.size w w' := by
  go_enter Try.func19, Try.ntmps19
  go_wp2_with fail
  refine (is_ok 0 0 _ _ rfl (by omega) (by rw [nb0]; simp)).mono ?_
  rintro e w1 ⟨rfl, hb1⟩
  go_wp2_with fail
  refine (is_ok 127 127 _ _ rfl (by omega) (by rw [nb127]; simp)).mono ?_
  rintro e w2 ⟨rfl, hb2⟩
  go_wp2_with fail
  refine (is_ok 128 128 _ _ rfl (by omega) (by rw [nb128]; simp)).mono ?_
  rintro e w3 ⟨rfl, hb3⟩
  go_wp2_with fail
  refine (is_ok 300 300 _ _ rfl (by omega) (by rw [nb300]; simp)).mono ?_
  rintro e w4 ⟨rfl, hb4⟩
  go_wp2_with fail
  go_ret
  exact ⟨rfl, hb1.trans ((hb2.mono hb1.size).trans ((hb3.mono (Nat.le_trans hb1.size hb2.size)).trans (hb4.mono (Nat.le_trans hb1.size (Nat.le_trans hb2.size hb3.size)))))⟩
end Go.Proofs.Ytmekoenmaiekfaa
