/-
  octavoref09: what an operation is, what it stands on, by the document; the same, copies, of both. Condition: parts of their types.
-/
import Derived.Test.YtbjfmkdjnglgbaaPlaceRefIds
import Derived.Test.YtbjfmkdjnglgbaaOpCheck
namespace Go.Proofs.Ytbjfmkdjnglgbaa
open Go.RowKit

set_option maxHeartbeats 12800000 in
set_option maxRecDepth 100000 in
theorem refown_ok (k t r z : Int) (A : Option Addr) (n c : Nat) (w : World) :
    Calls Try.prog 129 #[opv k t r A n c z] w fun e w' => e = .returned (.bool (decide (k = 1 ∨ k = 2))) ∧ Below w.heap.size w w' := by
  obtain ⟨w1, hw1, c0, c1, c2, c3, c4, hs1, hb1⟩ := five_box w (.int .u8 k) (.int .u32 t) (.int .u8 r) (.slice A n c) (.int .i64 z) 47
  have hc : (k == 1) = true ∨ ((k == 1) = false ∧ (k == 2) = true) ∨ ((k == 1) = false ∧ (k == 2) = false) := by
    cases (k == 1) <;> cases (k == 2) <;> simp
  rcases hc with h | ⟨h, h2⟩ | ⟨h, h2⟩
  all_goals
    go_enter Try.func129, Try.ntmps129
    go_wp2_with fail
    go_ret
    exact ⟨ret_bool (by simp_all), hb1⟩

set_option maxHeartbeats 12800000 in
set_option maxRecDepth 100000 in
theorem refcontent_ok (k t r z : Int) (A : Option Addr) (n c : Nat) (w : World) :
    Calls Try.prog 56 #[opv k t r A n c z] w fun e w' => e = .returned (.bool (decide (k = 1 ∨ k = 3))) ∧ Below w.heap.size w w' := by
  obtain ⟨w1, hw1, c0, c1, c2, c3, c4, hs1, hb1⟩ := five_box w (.int .u8 k) (.int .u32 t) (.int .u8 r) (.slice A n c) (.int .i64 z) 47
  have hc : (k == 1) = true ∨ ((k == 1) = false ∧ (k == 3) = true) ∨ ((k == 1) = false ∧ (k == 3) = false) := by
    cases (k == 1) <;> cases (k == 3) <;> simp
  rcases hc with h | ⟨h, h2⟩ | ⟨h, h2⟩
  all_goals
    go_enter Try.func56, Try.ntmps56
    go_wp2_with fail
    go_ret
    exact ⟨ret_bool (by simp_all), hb1⟩

set_option maxHeartbeats 12800000 in
set_option maxRecDepth 100000 in
theorem refis_ok (z : Int) (w : World) :
    Calls Try.prog 130 #[.int .i64 z] w fun e w' => e = .returned (.bool (decide (isPt z))) ∧ w' = w := by
  have hc : (z < 0 ∧ ¬ isPt z) ∨ (0 ≤ z ∧ ¬ z ≤ 1114111 ∧ ¬ isPt z) ∨ (0 ≤ z ∧ z ≤ 1114111 ∧ z < 55296 ∧ isPt z) ∨ (0 ≤ z ∧ z ≤ 1114111 ∧ ¬ z < 55296 ∧ 57343 < z ∧ isPt z) ∨ (0 ≤ z ∧ z ≤ 1114111 ∧ ¬ z < 55296 ∧ ¬ 57343 < z ∧ ¬ isPt z) := by
    unfold isPt
    omega
  rcases hc with ⟨h, hp⟩ | ⟨h, h2, hp⟩ | ⟨h, h2, h3, hp⟩ | ⟨h, h2, h3, h4, hp⟩ | ⟨h, h2, h3, h4, hp⟩
  all_goals
    have Hp := hide hp
    clear hp
    go_enter Try.func130, Try.ntmps130
    go_wp2_with fail
    go_ret
    exact ⟨ret_bool (by first | (rw [decide_eq_true Hp.out]; done) | (rw [decide_eq_false Hp.out]; done) | (rw [decide_eq_true Hp.out]; simp; done) | (rw [decide_eq_false Hp.out]; simp; done) | (rw [decide_eq_true Hp.out]; simp; omega) | (rw [decide_eq_false Hp.out]; simp; omega)), rfl⟩

set_option maxHeartbeats 12800000 in
set_option maxRecDepth 100000 in
theorem refmayo_any (k t r z : Int) (A : Option Addr) (n c : Nat) (p : List Rn) (w : World) (hr : RR w w.heap.size A p) (hn : p.length = n) (hok : ∀ x ∈ p, okR x) :
    Calls Try.prog 98 #[opv k t r A n c z] w fun e w' => e = .returned (.bool (decide (mayO k t r p z))) ∧ Below w.heap.size w w' := by
  obtain ⟨w1, hw1, c0, c1, c2, c3, c4, hs1, hb1⟩ := five_box w (.int .u8 k) (.int .u32 t) (.int .u8 r) (.slice A n c) (.int .i64 z) 47
  have hM := hide (fun W h => prefmay_any A n c p W h hn hok)
  by_cases h1 : k < 1
  · have hf := hide (show decide (mayO k t r p z) = false from decide_eq_false fun h => by have := h.2.2; unfold rightO at this; omega)
    go_enter Try.func98, Try.ntmps98
    go_wp2_with fail
    go_ret
    exact ⟨ret_bool hf.out.symm, hb1⟩
  by_cases h2 : 4 < k
  · have hf := hide (show decide (mayO k t r p z) = false from decide_eq_false fun h => by have := h.2.2; unfold rightO at this; omega)
    go_enter Try.func98, Try.ntmps98
    go_wp2_with fail
    go_ret
    exact ⟨ret_bool hf.out.symm, hb1⟩
  by_cases h3 : mayI t r
  · have hd3 := hide (decide_eq_true h3)
    by_cases h4 : mayR p
    · rw [decide_eq_true h4] at hM
      have hF := hide (fun W h => reffinal_ok A n c p W h hn h4)
      have hmo := hide (show decide (mayO k t r p z) = decide (rightO k t r p z) from decide_eq_decide.2 ⟨fun h => h.2.2, fun h => ⟨h3, h4, h⟩⟩)
      obtain ⟨lt, hlt⟩ : ∃ x, x = (lastR p).1 := ⟨_, rfl⟩
      obtain ⟨lr, hlr⟩ : ∃ x, x = (lastR p).2 := ⟨_, rfl⟩
      have hpair : lastR p = (lt, lr) := by rw [hlt, hlr]
      rw [← hlt, ← hlr] at hF
      have O1 := hide (fun W => refown_ok k t r z A n c W)
      have hIs := hide (fun W => refis_ok z W)
      have hways : (k = 1 ∧ ((lt == t) = false ∨ ((lt == t) = true ∧ (lr == r) = false))) ∨ (k = 2 ∧ ((lt == t) = false ∨ ((lt == t) = true ∧ (lr == r) = false))) ∨ ((k = 1 ∧ lt = t ∧ lr = r) ∨ (k = 2 ∧ lt = t ∧ lr = r)) ∨ ((k = 3 ∨ k = 4) ∧ t ≤ lt) ∨ ((k = 3 ∨ k = 4) ∧ lt < t) := by
        simp only [beq_iff_eq, beq_eq_false_iff_ne, ne_eq]
        omega
      clear hlt hlr h3 h4 h1 h2
      rcases hways with ⟨rfl, hg⟩ | ⟨rfl, hg⟩ | hg | ⟨hk, hg⟩ | ⟨hk, hg⟩
      · have hf := hide (show decide (mayO 1 t r p z) = false by
          rw [hmo.out]
          refine decide_eq_false fun h => ?_
          unfold rightO at h
          rw [hpair] at h
          simp only [beq_iff_eq, beq_eq_false_iff_ne, ne_eq] at hg
          simp at h
          omega)
        have hown : decide ((1 : Int) = 1 ∨ (1 : Int) = 2) = true := by decide
        clear hpair
        rcases hg with g1 | ⟨g1, g2⟩
        all_goals
          go_enter Try.func98, Try.ntmps98
          go_wp2_with fail
          refine (refmay_any _ _ _).mono ?_
          rintro e w2 ⟨rfl, hb2⟩
          rw [hd3.out]
          have hb02 := fresh hb1 hb2
          replace c0 := keep_cell hb2 hs1 c0
          replace c1 := keep_cell hb2 hs1 c1
          replace c2 := keep_cell hb2 hs1 c2
          replace c3 := keep_cell hb2 hs1 c3
          replace c4 := keep_cell hb2 hs1 c4
          replace hs1 := Nat.lt_of_lt_of_le hs1 hb2.size
          go_wp2_with fail
          refine (unhide hM w2 (hr.below' hb02)).mono ?_
          rintro e w3 ⟨rfl, hb3⟩
          have hb03 := fresh hb02 hb3
          replace c0 := keep_cell hb3 hs1 c0
          replace c1 := keep_cell hb3 hs1 c1
          replace c2 := keep_cell hb3 hs1 c2
          replace c3 := keep_cell hb3 hs1 c3
          replace c4 := keep_cell hb3 hs1 c4
          replace hs1 := Nat.lt_of_lt_of_le hs1 hb3.size
          go_wp2_with fail
          refine (unhide hF w3 (hr.below' hb03)).mono ?_
          rintro e w4 ⟨rfl, hb4⟩
          have hb04 := fresh hb03 hb4
          replace c0 := keep_cell hb4 hs1 c0
          replace c1 := keep_cell hb4 hs1 c1
          replace c2 := keep_cell hb4 hs1 c2
          replace c3 := keep_cell hb4 hs1 c3
          replace c4 := keep_cell hb4 hs1 c4
          replace hs1 := Nat.lt_of_lt_of_le hs1 hb4.size
          go_wp2_with fail
          obtain ⟨w5, hw5, d0, d1, hs5, hb5⟩ := one_box w4 (.int .u32 lt) (.int .u8 lr) 25
          try rw [hw5]
          clear hw5
          have hb05 := fresh hb04 hb5
          replace c0 := keep_cell hb5 hs1 c0
          replace c1 := keep_cell hb5 hs1 c1
          replace c2 := keep_cell hb5 hs1 c2
          replace c3 := keep_cell hb5 hs1 c3
          replace c4 := keep_cell hb5 hs1 c4
          replace hs1 := Nat.lt_of_lt_of_le hs1 hb5.size
          refine (unhide O1 w5).mono ?_
          rintro e w6 ⟨rfl, hb6⟩
          rw [hown]
          have hb06 := fresh hb05 hb6
          replace c0 := keep_cell hb6 hs1 c0
          replace c1 := keep_cell hb6 hs1 c1
          replace c2 := keep_cell hb6 hs1 c2
          replace c3 := keep_cell hb6 hs1 c3
          replace c4 := keep_cell hb6 hs1 c4
          replace hs1 := Nat.lt_of_lt_of_le hs1 hb6.size
          replace d0 := keep_cell hb6 hs5 d0
          replace d1 := keep_cell hb6 hs5 d1
          replace hs5 := Nat.lt_of_lt_of_le hs5 hb6.size
          go_wp2_with fail
          go_ret
          exact ⟨ret_bool hf.out.symm, hb06⟩
      · have hf := hide (show decide (mayO 2 t r p z) = false by
          rw [hmo.out]
          refine decide_eq_false fun h => ?_
          unfold rightO at h
          rw [hpair] at h
          simp only [beq_iff_eq, beq_eq_false_iff_ne, ne_eq] at hg
          simp at h
          omega)
        have hown : decide ((2 : Int) = 1 ∨ (2 : Int) = 2) = true := by decide
        clear hpair
        rcases hg with g1 | ⟨g1, g2⟩
        all_goals
          go_enter Try.func98, Try.ntmps98
          go_wp2_with fail
          refine (refmay_any _ _ _).mono ?_
          rintro e w2 ⟨rfl, hb2⟩
          rw [hd3.out]
          have hb02 := fresh hb1 hb2
          replace c0 := keep_cell hb2 hs1 c0
          replace c1 := keep_cell hb2 hs1 c1
          replace c2 := keep_cell hb2 hs1 c2
          replace c3 := keep_cell hb2 hs1 c3
          replace c4 := keep_cell hb2 hs1 c4
          replace hs1 := Nat.lt_of_lt_of_le hs1 hb2.size
          go_wp2_with fail
          refine (unhide hM w2 (hr.below' hb02)).mono ?_
          rintro e w3 ⟨rfl, hb3⟩
          have hb03 := fresh hb02 hb3
          replace c0 := keep_cell hb3 hs1 c0
          replace c1 := keep_cell hb3 hs1 c1
          replace c2 := keep_cell hb3 hs1 c2
          replace c3 := keep_cell hb3 hs1 c3
          replace c4 := keep_cell hb3 hs1 c4
          replace hs1 := Nat.lt_of_lt_of_le hs1 hb3.size
          go_wp2_with fail
          refine (unhide hF w3 (hr.below' hb03)).mono ?_
          rintro e w4 ⟨rfl, hb4⟩
          have hb04 := fresh hb03 hb4
          replace c0 := keep_cell hb4 hs1 c0
          replace c1 := keep_cell hb4 hs1 c1
          replace c2 := keep_cell hb4 hs1 c2
          replace c3 := keep_cell hb4 hs1 c3
          replace c4 := keep_cell hb4 hs1 c4
          replace hs1 := Nat.lt_of_lt_of_le hs1 hb4.size
          go_wp2_with fail
          obtain ⟨w5, hw5, d0, d1, hs5, hb5⟩ := one_box w4 (.int .u32 lt) (.int .u8 lr) 25
          try rw [hw5]
          clear hw5
          have hb05 := fresh hb04 hb5
          replace c0 := keep_cell hb5 hs1 c0
          replace c1 := keep_cell hb5 hs1 c1
          replace c2 := keep_cell hb5 hs1 c2
          replace c3 := keep_cell hb5 hs1 c3
          replace c4 := keep_cell hb5 hs1 c4
          replace hs1 := Nat.lt_of_lt_of_le hs1 hb5.size
          refine (unhide O1 w5).mono ?_
          rintro e w6 ⟨rfl, hb6⟩
          rw [hown]
          have hb06 := fresh hb05 hb6
          replace c0 := keep_cell hb6 hs1 c0
          replace c1 := keep_cell hb6 hs1 c1
          replace c2 := keep_cell hb6 hs1 c2
          replace c3 := keep_cell hb6 hs1 c3
          replace c4 := keep_cell hb6 hs1 c4
          replace hs1 := Nat.lt_of_lt_of_le hs1 hb6.size
          replace d0 := keep_cell hb6 hs5 d0
          replace d1 := keep_cell hb6 hs5 d1
          replace hs5 := Nat.lt_of_lt_of_le hs5 hb6.size
          go_wp2_with fail
          go_ret
          exact ⟨ret_bool hf.out.symm, hb06⟩
      · rcases hg with ⟨rfl, rfl, rfl⟩ | ⟨rfl, rfl, rfl⟩
        · have hf := hide (show decide (mayO 1 lt lr p z) = decide (isPt z) by
            rw [hmo.out]
            refine decide_eq_decide.2 ?_
            unfold rightO
            rw [hpair]
            simp)
          have hown : decide ((1 : Int) = 1 ∨ (1 : Int) = 2) = true := by decide
          clear hpair
          go_enter Try.func98, Try.ntmps98
          go_wp2_with fail
          refine (refmay_any _ _ _).mono ?_
          rintro e w2 ⟨rfl, hb2⟩
          rw [hd3.out]
          have hb02 := fresh hb1 hb2
          replace c0 := keep_cell hb2 hs1 c0
          replace c1 := keep_cell hb2 hs1 c1
          replace c2 := keep_cell hb2 hs1 c2
          replace c3 := keep_cell hb2 hs1 c3
          replace c4 := keep_cell hb2 hs1 c4
          replace hs1 := Nat.lt_of_lt_of_le hs1 hb2.size
          go_wp2_with fail
          refine (unhide hM w2 (hr.below' hb02)).mono ?_
          rintro e w3 ⟨rfl, hb3⟩
          have hb03 := fresh hb02 hb3
          replace c0 := keep_cell hb3 hs1 c0
          replace c1 := keep_cell hb3 hs1 c1
          replace c2 := keep_cell hb3 hs1 c2
          replace c3 := keep_cell hb3 hs1 c3
          replace c4 := keep_cell hb3 hs1 c4
          replace hs1 := Nat.lt_of_lt_of_le hs1 hb3.size
          go_wp2_with fail
          refine (unhide hF w3 (hr.below' hb03)).mono ?_
          rintro e w4 ⟨rfl, hb4⟩
          have hb04 := fresh hb03 hb4
          replace c0 := keep_cell hb4 hs1 c0
          replace c1 := keep_cell hb4 hs1 c1
          replace c2 := keep_cell hb4 hs1 c2
          replace c3 := keep_cell hb4 hs1 c3
          replace c4 := keep_cell hb4 hs1 c4
          replace hs1 := Nat.lt_of_lt_of_le hs1 hb4.size
          go_wp2_with fail
          obtain ⟨w5, hw5, d0, d1, hs5, hb5⟩ := one_box w4 (.int .u32 lt) (.int .u8 lr) 25
          try rw [hw5]
          clear hw5
          have hb05 := fresh hb04 hb5
          replace c0 := keep_cell hb5 hs1 c0
          replace c1 := keep_cell hb5 hs1 c1
          replace c2 := keep_cell hb5 hs1 c2
          replace c3 := keep_cell hb5 hs1 c3
          replace c4 := keep_cell hb5 hs1 c4
          replace hs1 := Nat.lt_of_lt_of_le hs1 hb5.size
          refine (unhide O1 w5).mono ?_
          rintro e w6 ⟨rfl, hb6⟩
          rw [hown]
          have hb06 := fresh hb05 hb6
          replace c0 := keep_cell hb6 hs1 c0
          replace c1 := keep_cell hb6 hs1 c1
          replace c2 := keep_cell hb6 hs1 c2
          replace c3 := keep_cell hb6 hs1 c3
          replace c4 := keep_cell hb6 hs1 c4
          replace hs1 := Nat.lt_of_lt_of_le hs1 hb6.size
          replace d0 := keep_cell hb6 hs5 d0
          replace d1 := keep_cell hb6 hs5 d1
          replace hs5 := Nat.lt_of_lt_of_le hs5 hb6.size
          go_wp2_with fail
          refine (unhide O1 w6).mono ?_
          rintro e w7 ⟨rfl, hb7⟩
          rw [hown]
          have hb07 := fresh hb06 hb7
          replace c0 := keep_cell hb7 hs1 c0
          replace c1 := keep_cell hb7 hs1 c1
          replace c2 := keep_cell hb7 hs1 c2
          replace c3 := keep_cell hb7 hs1 c3
          replace c4 := keep_cell hb7 hs1 c4
          replace hs1 := Nat.lt_of_lt_of_le hs1 hb7.size
          replace d0 := keep_cell hb7 hs5 d0
          replace d1 := keep_cell hb7 hs5 d1
          replace hs5 := Nat.lt_of_lt_of_le hs5 hb7.size
          go_wp2_with fail
          refine (unhide hIs _).mono ?_
          rintro e w8 ⟨rfl, rfl⟩
          go_wp2_with fail
          go_ret
          exact ⟨ret_bool hf.out.symm, hb07⟩
        · have hf := hide (show decide (mayO 2 lt lr p z) = decide (z = 0) by
            rw [hmo.out]
            refine decide_eq_decide.2 ?_
            unfold rightO
            rw [hpair]
            simp)
          have hown : decide ((2 : Int) = 1 ∨ (2 : Int) = 2) = true := by decide
          clear hpair
          go_enter Try.func98, Try.ntmps98
          go_wp2_with fail
          refine (refmay_any _ _ _).mono ?_
          rintro e w2 ⟨rfl, hb2⟩
          rw [hd3.out]
          have hb02 := fresh hb1 hb2
          replace c0 := keep_cell hb2 hs1 c0
          replace c1 := keep_cell hb2 hs1 c1
          replace c2 := keep_cell hb2 hs1 c2
          replace c3 := keep_cell hb2 hs1 c3
          replace c4 := keep_cell hb2 hs1 c4
          replace hs1 := Nat.lt_of_lt_of_le hs1 hb2.size
          go_wp2_with fail
          refine (unhide hM w2 (hr.below' hb02)).mono ?_
          rintro e w3 ⟨rfl, hb3⟩
          have hb03 := fresh hb02 hb3
          replace c0 := keep_cell hb3 hs1 c0
          replace c1 := keep_cell hb3 hs1 c1
          replace c2 := keep_cell hb3 hs1 c2
          replace c3 := keep_cell hb3 hs1 c3
          replace c4 := keep_cell hb3 hs1 c4
          replace hs1 := Nat.lt_of_lt_of_le hs1 hb3.size
          go_wp2_with fail
          refine (unhide hF w3 (hr.below' hb03)).mono ?_
          rintro e w4 ⟨rfl, hb4⟩
          have hb04 := fresh hb03 hb4
          replace c0 := keep_cell hb4 hs1 c0
          replace c1 := keep_cell hb4 hs1 c1
          replace c2 := keep_cell hb4 hs1 c2
          replace c3 := keep_cell hb4 hs1 c3
          replace c4 := keep_cell hb4 hs1 c4
          replace hs1 := Nat.lt_of_lt_of_le hs1 hb4.size
          go_wp2_with fail
          obtain ⟨w5, hw5, d0, d1, hs5, hb5⟩ := one_box w4 (.int .u32 lt) (.int .u8 lr) 25
          try rw [hw5]
          clear hw5
          have hb05 := fresh hb04 hb5
          replace c0 := keep_cell hb5 hs1 c0
          replace c1 := keep_cell hb5 hs1 c1
          replace c2 := keep_cell hb5 hs1 c2
          replace c3 := keep_cell hb5 hs1 c3
          replace c4 := keep_cell hb5 hs1 c4
          replace hs1 := Nat.lt_of_lt_of_le hs1 hb5.size
          refine (unhide O1 w5).mono ?_
          rintro e w6 ⟨rfl, hb6⟩
          rw [hown]
          have hb06 := fresh hb05 hb6
          replace c0 := keep_cell hb6 hs1 c0
          replace c1 := keep_cell hb6 hs1 c1
          replace c2 := keep_cell hb6 hs1 c2
          replace c3 := keep_cell hb6 hs1 c3
          replace c4 := keep_cell hb6 hs1 c4
          replace hs1 := Nat.lt_of_lt_of_le hs1 hb6.size
          replace d0 := keep_cell hb6 hs5 d0
          replace d1 := keep_cell hb6 hs5 d1
          replace hs5 := Nat.lt_of_lt_of_le hs5 hb6.size
          go_wp2_with fail
          refine (unhide O1 w6).mono ?_
          rintro e w7 ⟨rfl, hb7⟩
          rw [hown]
          have hb07 := fresh hb06 hb7
          replace c0 := keep_cell hb7 hs1 c0
          replace c1 := keep_cell hb7 hs1 c1
          replace c2 := keep_cell hb7 hs1 c2
          replace c3 := keep_cell hb7 hs1 c3
          replace c4 := keep_cell hb7 hs1 c4
          replace hs1 := Nat.lt_of_lt_of_le hs1 hb7.size
          replace d0 := keep_cell hb7 hs5 d0
          replace d1 := keep_cell hb7 hs5 d1
          replace hs5 := Nat.lt_of_lt_of_le hs5 hb7.size
          go_wp2_with fail
          go_ret
          exact ⟨ret_bool (by first | exact hf.out.symm | (rw [hf.out]; first | rfl | simp | (exact (beq_eq_decide ..)))), hb07⟩
      · have hf := hide (show decide (mayO k t r p z) = false by
          rw [hmo.out]
          refine decide_eq_false fun h => ?_
          unfold rightO at h
          rw [hpair] at h
          simp only at h
          omega)
        have hown : decide (k = 1 ∨ k = 2) = false := decide_eq_false (by omega)
        clear hpair
        rcases hk with rfl | rfl
        all_goals
          go_enter Try.func98, Try.ntmps98
          go_wp2_with fail
          refine (refmay_any _ _ _).mono ?_
          rintro e w2 ⟨rfl, hb2⟩
          rw [hd3.out]
          have hb02 := fresh hb1 hb2
          replace c0 := keep_cell hb2 hs1 c0
          replace c1 := keep_cell hb2 hs1 c1
          replace c2 := keep_cell hb2 hs1 c2
          replace c3 := keep_cell hb2 hs1 c3
          replace c4 := keep_cell hb2 hs1 c4
          replace hs1 := Nat.lt_of_lt_of_le hs1 hb2.size
          go_wp2_with fail
          refine (unhide hM w2 (hr.below' hb02)).mono ?_
          rintro e w3 ⟨rfl, hb3⟩
          have hb03 := fresh hb02 hb3
          replace c0 := keep_cell hb3 hs1 c0
          replace c1 := keep_cell hb3 hs1 c1
          replace c2 := keep_cell hb3 hs1 c2
          replace c3 := keep_cell hb3 hs1 c3
          replace c4 := keep_cell hb3 hs1 c4
          replace hs1 := Nat.lt_of_lt_of_le hs1 hb3.size
          go_wp2_with fail
          refine (unhide hF w3 (hr.below' hb03)).mono ?_
          rintro e w4 ⟨rfl, hb4⟩
          have hb04 := fresh hb03 hb4
          replace c0 := keep_cell hb4 hs1 c0
          replace c1 := keep_cell hb4 hs1 c1
          replace c2 := keep_cell hb4 hs1 c2
          replace c3 := keep_cell hb4 hs1 c3
          replace c4 := keep_cell hb4 hs1 c4
          replace hs1 := Nat.lt_of_lt_of_le hs1 hb4.size
          go_wp2_with fail
          obtain ⟨w5, hw5, d0, d1, hs5, hb5⟩ := one_box w4 (.int .u32 lt) (.int .u8 lr) 25
          try rw [hw5]
          clear hw5
          have hb05 := fresh hb04 hb5
          replace c0 := keep_cell hb5 hs1 c0
          replace c1 := keep_cell hb5 hs1 c1
          replace c2 := keep_cell hb5 hs1 c2
          replace c3 := keep_cell hb5 hs1 c3
          replace c4 := keep_cell hb5 hs1 c4
          replace hs1 := Nat.lt_of_lt_of_le hs1 hb5.size
          refine (unhide O1 w5).mono ?_
          rintro e w6 ⟨rfl, hb6⟩
          rw [hown]
          have hb06 := fresh hb05 hb6
          replace c0 := keep_cell hb6 hs1 c0
          replace c1 := keep_cell hb6 hs1 c1
          replace c2 := keep_cell hb6 hs1 c2
          replace c3 := keep_cell hb6 hs1 c3
          replace c4 := keep_cell hb6 hs1 c4
          replace hs1 := Nat.lt_of_lt_of_le hs1 hb6.size
          replace d0 := keep_cell hb6 hs5 d0
          replace d1 := keep_cell hb6 hs5 d1
          replace hs5 := Nat.lt_of_lt_of_le hs5 hb6.size
          go_wp2_with fail
          refine (unhide O1 w6).mono ?_
          rintro e w7 ⟨rfl, hb7⟩
          rw [hown]
          have hb07 := fresh hb06 hb7
          replace c0 := keep_cell hb7 hs1 c0
          replace c1 := keep_cell hb7 hs1 c1
          replace c2 := keep_cell hb7 hs1 c2
          replace c3 := keep_cell hb7 hs1 c3
          replace c4 := keep_cell hb7 hs1 c4
          replace hs1 := Nat.lt_of_lt_of_le hs1 hb7.size
          replace d0 := keep_cell hb7 hs5 d0
          replace d1 := keep_cell hb7 hs5 d1
          replace hs5 := Nat.lt_of_lt_of_le hs5 hb7.size
          go_wp2_with fail
          go_ret
          exact ⟨ret_bool hf.out.symm, hb07⟩
      · have hf := hide (show decide (mayO k t r p z) = decide (z = 0) by
          rw [hmo.out]
          refine decide_eq_decide.2 ?_
          unfold rightO
          rw [hpair]
          simp only
          omega)
        have hown : decide (k = 1 ∨ k = 2) = false := decide_eq_false (by omega)
        clear hpair
        rcases hk with rfl | rfl
        all_goals
          go_enter Try.func98, Try.ntmps98
          go_wp2_with fail
          refine (refmay_any _ _ _).mono ?_
          rintro e w2 ⟨rfl, hb2⟩
          rw [hd3.out]
          have hb02 := fresh hb1 hb2
          replace c0 := keep_cell hb2 hs1 c0
          replace c1 := keep_cell hb2 hs1 c1
          replace c2 := keep_cell hb2 hs1 c2
          replace c3 := keep_cell hb2 hs1 c3
          replace c4 := keep_cell hb2 hs1 c4
          replace hs1 := Nat.lt_of_lt_of_le hs1 hb2.size
          go_wp2_with fail
          refine (unhide hM w2 (hr.below' hb02)).mono ?_
          rintro e w3 ⟨rfl, hb3⟩
          have hb03 := fresh hb02 hb3
          replace c0 := keep_cell hb3 hs1 c0
          replace c1 := keep_cell hb3 hs1 c1
          replace c2 := keep_cell hb3 hs1 c2
          replace c3 := keep_cell hb3 hs1 c3
          replace c4 := keep_cell hb3 hs1 c4
          replace hs1 := Nat.lt_of_lt_of_le hs1 hb3.size
          go_wp2_with fail
          refine (unhide hF w3 (hr.below' hb03)).mono ?_
          rintro e w4 ⟨rfl, hb4⟩
          have hb04 := fresh hb03 hb4
          replace c0 := keep_cell hb4 hs1 c0
          replace c1 := keep_cell hb4 hs1 c1
          replace c2 := keep_cell hb4 hs1 c2
          replace c3 := keep_cell hb4 hs1 c3
          replace c4 := keep_cell hb4 hs1 c4
          replace hs1 := Nat.lt_of_lt_of_le hs1 hb4.size
          go_wp2_with fail
          obtain ⟨w5, hw5, d0, d1, hs5, hb5⟩ := one_box w4 (.int .u32 lt) (.int .u8 lr) 25
          try rw [hw5]
          clear hw5
          have hb05 := fresh hb04 hb5
          replace c0 := keep_cell hb5 hs1 c0
          replace c1 := keep_cell hb5 hs1 c1
          replace c2 := keep_cell hb5 hs1 c2
          replace c3 := keep_cell hb5 hs1 c3
          replace c4 := keep_cell hb5 hs1 c4
          replace hs1 := Nat.lt_of_lt_of_le hs1 hb5.size
          refine (unhide O1 w5).mono ?_
          rintro e w6 ⟨rfl, hb6⟩
          rw [hown]
          have hb06 := fresh hb05 hb6
          replace c0 := keep_cell hb6 hs1 c0
          replace c1 := keep_cell hb6 hs1 c1
          replace c2 := keep_cell hb6 hs1 c2
          replace c3 := keep_cell hb6 hs1 c3
          replace c4 := keep_cell hb6 hs1 c4
          replace hs1 := Nat.lt_of_lt_of_le hs1 hb6.size
          replace d0 := keep_cell hb6 hs5 d0
          replace d1 := keep_cell hb6 hs5 d1
          replace hs5 := Nat.lt_of_lt_of_le hs5 hb6.size
          go_wp2_with fail
          refine (unhide O1 w6).mono ?_
          rintro e w7 ⟨rfl, hb7⟩
          rw [hown]
          have hb07 := fresh hb06 hb7
          replace c0 := keep_cell hb7 hs1 c0
          replace c1 := keep_cell hb7 hs1 c1
          replace c2 := keep_cell hb7 hs1 c2
          replace c3 := keep_cell hb7 hs1 c3
          replace c4 := keep_cell hb7 hs1 c4
          replace hs1 := Nat.lt_of_lt_of_le hs1 hb7.size
          replace d0 := keep_cell hb7 hs5 d0
          replace d1 := keep_cell hb7 hs5 d1
          replace hs5 := Nat.lt_of_lt_of_le hs5 hb7.size
          go_wp2_with fail
          go_ret
          exact ⟨ret_bool (by first | exact hf.out.symm | (rw [hf.out]; first | rfl | simp | (exact (beq_eq_decide ..)))), hb07⟩
    · rw [decide_eq_false h4] at hM
      have hf := hide (show decide (mayO k t r p z) = false from decide_eq_false fun h => h4 h.2.1)
      clear h3 h4
      go_enter Try.func98, Try.ntmps98
      go_wp2_with fail
      refine (refmay_any _ _ _).mono ?_
      rintro e w2 ⟨rfl, hb2⟩
      rw [hd3.out]
      have hb02 := fresh hb1 hb2
      replace c0 := keep_cell hb2 hs1 c0
      replace c1 := keep_cell hb2 hs1 c1
      replace c2 := keep_cell hb2 hs1 c2
      replace c3 := keep_cell hb2 hs1 c3
      replace c4 := keep_cell hb2 hs1 c4
      replace hs1 := Nat.lt_of_lt_of_le hs1 hb2.size
      go_wp2_with fail
      refine (unhide hM w2 (hr.below' hb02)).mono ?_
      rintro e w3 ⟨rfl, hb3⟩
      go_wp2_with fail
      go_ret
      exact ⟨ret_bool hf.out.symm, fresh hb02 hb3⟩
  · have hd3 := hide (decide_eq_false h3)
    have hf := hide (show decide (mayO k t r p z) = false from decide_eq_false fun h => h3 h.1)
    clear h3
    go_enter Try.func98, Try.ntmps98
    go_wp2_with fail
    refine (refmay_any _ _ _).mono ?_
    rintro e w2 ⟨rfl, hb2⟩
    rw [hd3.out]
    have hb02 := fresh hb1 hb2
    replace c0 := keep_cell hb2 hs1 c0
    replace c1 := keep_cell hb2 hs1 c1
    replace c2 := keep_cell hb2 hs1 c2
    replace c3 := keep_cell hb2 hs1 c3
    replace c4 := keep_cell hb2 hs1 c4
    replace hs1 := Nat.lt_of_lt_of_le hs1 hb2.size
    go_wp2_with fail
    go_ret
    exact ⟨ret_bool hf.out.symm, hb02⟩
end Go.Proofs.Ytbjfmkdjnglgbaa
