/-
  OpNames: the kinds' numbers, and the chapter's examples. No condition.
-/
import Derived.Test.YtbjfmkdjnglgbaaOpAlive
namespace Go.Proofs.Ytbjfmkdjnglgbaa
open Go.RowKit

set_option maxHeartbeats 800000 in
set_option maxRecDepth 100000 in
theorem content_ok (k t r z : Int) (A : Option Addr) (n c : Nat) (w : World) :
    Calls Try.prog 38 #[opv k t r A n c z] w fun e w' => e = .returned (.bool (decide (k = 1 ∨ k = 3))) ∧ Below w.heap.size w w' := by
  obtain ⟨w1, hw1, c0, c1, c2, c3, c4, hs1, hb1⟩ := five_box w (.int .u8 k) (.int .u32 t) (.int .u8 r) (.slice A n c) (.int .i64 z) 47
  have hc : (k == 1) = true ∨ ((k == 1) = false ∧ (k == 3) = true) ∨ ((k == 1) = false ∧ (k == 3) = false) := by
    cases (k == 1) <;> cases (k == 3) <;> simp
  rcases hc with h | ⟨h, h2⟩ | ⟨h, h2⟩
  all_goals
    go_enter Try.func38, Try.ntmps38
    go_wp2_with fail
    go_ret
    exact ⟨ret_bool (by simp_all), hb1⟩

theorem RR.nil' (w : World) : RR w w.heap.size none [] := ⟨rfl, fun h => absurd h (by decide)⟩
theorem two_five (w : World) (k t r s z k' t' r' s' z' : Value) (T : TypeId) : ∃ w2, (w.alloc (.cells #[k, t, r, s, z] T)).alloc (.cells #[k', t', r', s', z'] T) = w2 ∧ w2.cell? ⟨w.heap.size, 0, none⟩ = some k ∧ w2.cell? ⟨w.heap.size, 1, none⟩ = some t ∧ w2.cell? ⟨w.heap.size, 2, none⟩ = some r ∧ w2.cell? ⟨w.heap.size, 3, none⟩ = some s ∧ w2.cell? ⟨w.heap.size, 4, none⟩ = some z ∧
    w2.cell? ⟨w.heap.size + 1, 0, none⟩ = some k' ∧ w2.cell? ⟨w.heap.size + 1, 1, none⟩ = some t' ∧ w2.cell? ⟨w.heap.size + 1, 2, none⟩ = some r' ∧ w2.cell? ⟨w.heap.size + 1, 3, none⟩ = some s' ∧ w2.cell? ⟨w.heap.size + 1, 4, none⟩ = some z' ∧ w.heap.size + 1 < w2.heap.size ∧ Below w.heap.size w w2 := by
  obtain ⟨w1, hw1, c0, c1, c2, c3, c4, hs1, hb1⟩ := five_box w k t r s z T
  obtain ⟨w2, hw2, d0, d1, d2, d3, d4, hs2, hb2⟩ := five_box w1 k' t' r' s' z' T
  have e : w1.heap.size = w.heap.size + 1 := by rw [← hw1]; simp
  rw [e] at d0 d1 d2 d3 d4 hs2
  exact ⟨w2, by rw [hw1, hw2], keep_cell hb2 hs1 c0, keep_cell hb2 hs1 c1, keep_cell hb2 hs1 c2, keep_cell hb2 hs1 c3, keep_cell hb2 hs1 c4, d0, d1, d2, d3, d4, hs2, fresh hb1 hb2⟩

set_option maxHeartbeats 4000000 in
set_option maxRecDepth 100000 in
theorem opNames_walk (w : World) : Calls Try.prog 5 #[] w fun e w' => e = .returned (.bool true) ∧ Below w.heap.size w w' := by
  obtain ⟨w1, hw1, hb1⟩ : ∃ w1, w.alloc (.cells #[.int .u32 1, .int .u8 0, .int .i64 1] 41) = w1 ∧ Below w.heap.size w w1 := ⟨_, rfl, boxed _ _⟩
  have hr1 : RR w1 w1.heap.size (some ⟨w.heap.size, 0, none⟩) [(1, 0, 1)] := by rw [← hw1]; exact RR.new _ _ _ _ rfl
  obtain ⟨w2, hw2, hb2⟩ : ∃ w2, w1.alloc (.cells #[.int .u32 1, .int .u8 0, .int .i64 2] 41) = w2 ∧ Below w1.heap.size w1 w2 := ⟨_, rfl, boxed _ _⟩
  have hr2 : RR w2 w2.heap.size (some ⟨w1.heap.size, 0, none⟩) [(1, 0, 2)] := by rw [← hw2]; exact RR.new _ _ _ _ rfl
  have hr1' := hr1.below' hb2
  have hb02 := fresh hb1 hb2
  go_enter Try.func5, Try.ntmps5
  go_wp2_with fail
  try rw [hw1]
  try rw [hw2]
  clear hw1 hw2
  have hr1w : ∀ W, Below w2.heap.size w2 W → RR W W.heap.size (some ⟨w.heap.size, 0, none⟩) [(1, 0, 1)] := fun W h => hr1'.below' h
  have hr2w : ∀ W, Below w2.heap.size w2 W → RR W W.heap.size (some ⟨w1.heap.size, 0, none⟩) [(1, 0, 2)] := fun W h => hr2.below' h
  refine (by_ok 1 0 _).mono ?_
  rintro e w3 ⟨rfl, hb3⟩
  go_wp2_with fail
  obtain ⟨w4, hw4, x0, x1, x2, x3, x4, y0, y1, y2, y3, y4, hs4, hb4⟩ := two_five w3 (.int .u8 2) (.int .u32 1) (.int .u8 0) (.slice (some ⟨w.heap.size, 0, none⟩) 1 1) (.int .i64 0) (.int .u8 2) (.int .u32 1) (.int .u8 0) (.slice (some ⟨w.heap.size, 0, none⟩) 1 1) (.int .i64 1) 47
  rw [hw4]
  clear hw4
  have hs4' : w3.heap.size < w4.heap.size := by omega
  have hB4 := fresh hb3 hb4
  obtain ⟨S1, hS1⟩ : ∃ a, a = w.heap.size := ⟨_, rfl⟩
  obtain ⟨S2, hS2⟩ : ∃ a, a = w1.heap.size := ⟨_, rfl⟩
  obtain ⟨g1, hg1⟩ : ∃ a, a = w3.heap.size := ⟨_, rfl⟩
  obtain ⟨g2, hg2⟩ : ∃ a, a = w3.heap.size + 1 := ⟨_, rfl⟩
  rw [← hS1] at hr1w x3 y3
  rw [← hS2] at hr2w
  rw [← hg2] at y0 y1 y2 y3 y4 hs4
  rw [← hg1] at x0 x1 x2 x3 x4 hs4'
  rw [← hg2, ← hg1, ← hS1, ← hS2]
  clear hS1 hS2 hg1 hg2 hr1 hr2 hr1'
  refine (opalive_ok _).mono ?_
  rintro e w5 ⟨rfl, hb5⟩
  have hB5 := fresh hB4 hb5
  have hC5 : Below w4.heap.size w4 w5 := hb5
  have x0_5 := keep_cell hC5 hs4' x0
  have x1_5 := keep_cell hC5 hs4' x1
  have x2_5 := keep_cell hC5 hs4' x2
  have x3_5 := keep_cell hC5 hs4' x3
  have x4_5 := keep_cell hC5 hs4' x4
  go_wp2_with fail
  clear x0_5 x1_5 x2_5 x3_5 x4_5
  have hN := hide (needs_ok 2 1 0 0 (some ⟨S1, 0, none⟩) none 1 1 0 0 [(1, 0, 1)] [] w5 (hr1w _ hB5) rfl (by decide) (okR_dec (by decide)) (by decide) (RI.nil _ _) rfl (by decide))
  rw [show decide (mayO 2 1 0 [(1, 0, 1)] 0 ∧ needsO 2 1 0 [(1, 0, 1)] 0 = []) = true by decide] at hN
  refine (hN.out).mono ?_
  rintro e w6 ⟨rfl, hb6⟩
  have hB6 := fresh hB5 hb6
  have hC6 : Below w4.heap.size w4 w6 := fresh hC5 hb6
  clear hN
  have y0_6 := keep_cell hC6 hs4 y0
  have y1_6 := keep_cell hC6 hs4 y1
  have y2_6 := keep_cell hC6 hs4 y2
  have y3_6 := keep_cell hC6 hs4 y3
  have y4_6 := keep_cell hC6 hs4 y4
  go_wp2_with fail
  clear y0_6 y1_6 y2_6 y3_6 y4_6
  refine (bad_ok 2 1 0 1 (some ⟨S1, 0, none⟩) 1 1 [(1, 0, 1)] _ (hr1w _ hB6) rfl (by decide) (okR_dec (by decide)) (by decide) (by decide)).mono ?_
  rintro e w7 ⟨rfl, hb7⟩
  have hB7 := fresh hB6 hb7
  have hC7 : Below w4.heap.size w4 w7 := fresh hC6 hb7
  go_wp2_with fail
  refine (by_ok 3 0 _).mono ?_
  rintro e w8 ⟨rfl, hb8⟩
  have hB8 := fresh hB7 hb8
  have hC8 : Below w4.heap.size w4 w8 := fresh hC7 hb8
  go_wp2_with fail
  refine (bad_ok 1 3 0 97 (some ⟨S2, 0, none⟩) 1 1 [(1, 0, 2)] _ (hr2w _ hB8) rfl (by decide) (okR_dec (by decide)) (by decide) (by decide)).mono ?_
  rintro e w9 ⟨rfl, hb9⟩
  have hB9 := fresh hB8 hb9
  have hC9 : Below w4.heap.size w4 w9 := fresh hC8 hb9
  go_wp2_with fail
  refine (by_ok 3 1 _).mono ?_
  rintro e w10 ⟨rfl, hb10⟩
  have hB10 := fresh hB9 hb10
  have hC10 : Below w4.heap.size w4 w10 := fresh hC9 hb10
  go_wp2_with fail
  refine (three_ok _).mono ?_
  rintro e w11 ⟨A3, c3, rfl, hA3, hr3, hb11⟩
  have hB11 := fresh hB10 hb11
  have hC11 := fresh hC10 hb11
  go_wp2_with fail
  refine (bad_ok 3 3 1 0 A3 1 c3 [(1, 0, 3)] _ hr3 rfl (by decide) (okR_dec (by decide)) (by decide) (by decide)).mono ?_
  rintro e w12 ⟨rfl, hb12⟩
  have hB12 := fresh hB11 hb12
  have hC12 : Below w4.heap.size w4 w12 := fresh hC11 hb12
  go_wp2_with fail
  refine (by_ok 1 0 _).mono ?_
  rintro e w13 ⟨rfl, hb13⟩
  have hB13 := fresh hB12 hb13
  have hC13 : Below w4.heap.size w4 w13 := fresh hC12 hb13
  go_wp2_with fail
  refine (bad_ok 1 1 0 55296 (some ⟨S1, 0, none⟩) 1 1 [(1, 0, 1)] _ (hr1w _ hB13) rfl (by decide) (okR_dec (by decide)) (by decide) (by decide)).mono ?_
  rintro e w14 ⟨rfl, hb14⟩
  have hB14 := fresh hB13 hb14
  have hC14 : Below w4.heap.size w4 w14 := fresh hC13 hb14
  go_wp2_with fail
  refine (by_ok 1 0 _).mono ?_
  rintro e w15 ⟨rfl, hb15⟩
  have hB15 := fresh hB14 hb15
  have hC15 : Below w4.heap.size w4 w15 := fresh hC14 hb15
  go_wp2_with fail
  refine (bad_ok 5 1 0 0 (some ⟨S1, 0, none⟩) 1 1 [(1, 0, 1)] _ (hr1w _ hB15) rfl (by decide) (okR_dec (by decide)) (by decide) (by decide)).mono ?_
  rintro e w16 ⟨rfl, hb16⟩
  have hB16 := fresh hB15 hb16
  have hC16 : Below w4.heap.size w4 w16 := fresh hC15 hb16
  go_wp2_with fail
  refine (bad_ok 0 0 0 0 none 0 0 [] _ (RR.nil' _) rfl (by decide) (okR_dec (by decide)) (by decide) (by decide)).mono ?_
  rintro e w17 ⟨rfl, hb17⟩
  have hB17 := fresh hB16 hb17
  have hC17 : Below w4.heap.size w4 w17 := fresh hC16 hb17
  go_wp2_with fail
  refine (content_ok 3 0 0 0 none 0 0 _).mono ?_
  rintro e w18 ⟨rfl, hb18⟩
  have hB18 := fresh hB17 hb18
  have hC18 : Below w4.heap.size w4 w18 := fresh hC17 hb18
  have x0_18 := keep_cell hC18 hs4' x0
  have x1_18 := keep_cell hC18 hs4' x1
  have x2_18 := keep_cell hC18 hs4' x2
  have x3_18 := keep_cell hC18 hs4' x3
  have x4_18 := keep_cell hC18 hs4' x4
  go_wp2_with fail
  clear x0_18 x1_18 x2_18 x3_18 x4_18
  refine (content_ok 2 1 0 0 (some ⟨S1, 0, none⟩) 1 1 _).mono ?_
  rintro e w19 ⟨rfl, hb19⟩
  have hB19 := fresh hB18 hb19
  have hC19 : Below w4.heap.size w4 w19 := fresh hC18 hb19
  go_wp2_with fail
  go_ret
  exact ⟨rfl, fresh hb02 hB19⟩
end Go.Proofs.Ytbjfmkdjnglgbaa
