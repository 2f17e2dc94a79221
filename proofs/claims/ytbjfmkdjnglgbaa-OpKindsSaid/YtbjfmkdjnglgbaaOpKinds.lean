/-
  OpKinds: of one place there is one insert, and one mark, and each younger stamp makes a delete and a join. Condition: parts of their types.
-/
import Derived.Test.YtbjfmkdjnglgbaaOpAlive
namespace Go.Proofs.Ytbjfmkdjnglgbaa
open Go.RowKit

theorem lastR_may {p : List Rn} (h : mayR p) : mayI (lastR p).1 (lastR p).2 := by
  have hl : lastR p = (rend (p.getLastD (0, 0, 0)), (p.getLastD (0, 0, 0)).2.1) := if_pos h
  rw [hl]
  have hne : p ≠ [] := by intro e; rw [e] at h; exact absurd h.1 (by decide)
  have hmem : p.getLastD (0, 0, 0) ∈ p := by
    rw [List.getLastD_eq_getLast?, List.getLast?_eq_some_getLast hne]
    exact List.getLast_mem hne
  obtain ⟨h1, h2, h3, h4, h5, h6⟩ := chainR_mem h.2.2.1 _ hmem
  simp only [rend]
  exact ⟨by omega, h6, h3⟩
theorem chkO_yes {k t r z : Int} {p : List Rn} (h : mayO k t r p z) : chkO k t r p z = 0 := if_pos h
theorem chkO_no {k t r z : Int} {p : List Rn} (h : ¬ mayO k t r p z) : chkO k t r p z = 8 := if_neg h

/-- What the four Checks answer. -/
theorem kinds_chk {p : List Rn} (h : mayR p) (t r : Int) :
    chkO 2 t r p 0 = (if lastR p = (t, r) then 0 else 8) ∧ chkO 1 t r p 65 = (if lastR p = (t, r) then 0 else 8) ∧ chkO 3 t r p 0 = (if (lastR p).1 < t ∧ t ≤ 1073741824 ∧ r < 8 then 0 else 8) ∧ chkO 4 t r p 0 = (if (lastR p).1 < t ∧ t ≤ 1073741824 ∧ r < 8 then 0 else 8) := by
  have hm := lastR_may h
  refine ⟨?_, ?_, ?_, ?_⟩
  · by_cases e : lastR p = (t, r)
    · rw [if_pos e]; exact if_pos ⟨by rw [e] at hm; exact hm, h, .inr (.inl ⟨rfl, e, rfl⟩)⟩
    · rw [if_neg e]; exact if_neg fun g => by have := g.2.2; unfold rightO at this; simp [e] at this
  · by_cases e : lastR p = (t, r)
    · rw [if_pos e]; exact if_pos ⟨by rw [e] at hm; exact hm, h, .inl ⟨rfl, e, by decide⟩⟩
    · rw [if_neg e]; exact if_neg fun g => by have := g.2.2; unfold rightO at this; simp [e] at this
  · by_cases e : (lastR p).1 < t ∧ t ≤ 1073741824 ∧ r < 8
    · rw [if_pos e]; exact if_pos ⟨⟨by have := hm.1; omega, e.2.1, e.2.2⟩, h, .inr (.inr ⟨.inl rfl, rfl, e.1⟩)⟩
    · rw [if_neg e]; exact if_neg fun g => e (by have h1 := g.1; have h2 := g.2.2; unfold rightO at h2; simp at h2; exact ⟨h2, h1.2.1, h1.2.2⟩)
  · by_cases e : (lastR p).1 < t ∧ t ≤ 1073741824 ∧ r < 8
    · rw [if_pos e]; exact if_pos ⟨⟨by have := hm.1; omega, e.2.1, e.2.2⟩, h, .inr (.inr ⟨.inr rfl, rfl, e.1⟩)⟩
    · rw [if_neg e]; exact if_neg fun g => e (by have h1 := g.1; have h2 := g.2.2; unfold rightO at h2; simp at h2; exact ⟨h2, h1.2.1, h1.2.2⟩)

set_option maxHeartbeats 4000000 in
set_option maxRecDepth 100000 in
theorem opKinds_walk (A0 : Option Addr) (c0 : Nat) (l0 : List Rn) (t r : Int) (w : World) (hr0 : RR w w.heap.size A0 l0) (ok0 : ∀ x ∈ l0, okR x) :
    Calls Try.prog 4 #[.slice A0 l0.length c0, .agg #[.int .u32 t, .int .u8 r]] w fun e w' => e = .returned (.bool true) ∧ Below w.heap.size w w' := by
  have Ok0 := hide ok0
  clear ok0
  by_cases hlen : (64 : Int) < l0.length
  · go_enter Try.func4, Try.ntmps4
    go_wp2_with fail
    obtain ⟨w1, hw1, x0, x1, hs1, hb1⟩ := one_box w (.int .u32 t) (.int .u8 r) 25
    try rw [hw1]
    refine (opalive_ok _).mono ?_
    rintro e w2 ⟨rfl, hb2⟩
    go_wp2_with fail
    go_ret
    exact ⟨rfl, fresh hb1 hb2⟩
  have C0 := hide (fun W (h : RR W W.heap.size A0 l0) => pcheck_any A0 l0.length c0 l0 W h rfl (by omega) Ok0.out)
  by_cases hm : mayR l0
  · rw [show chkR l0 = 0 from if_pos hm] at C0
    obtain ⟨q2, q1, q3, q4⟩ := kinds_chk hm t r
    have L0 := hide (fun W (h : RR W W.heap.size A0 l0) => plast_any A0 l0.length c0 l0 W h rfl (by omega) Ok0.out)
    have K2 := hide (fun W (h : RR W W.heap.size A0 l0) => opcheck_any 2 t r 0 A0 l0.length c0 l0 W h rfl (by omega) Ok0.out (by decide))
    have K1 := hide (fun W (h : RR W W.heap.size A0 l0) => opcheck_any 1 t r 65 A0 l0.length c0 l0 W h rfl (by omega) Ok0.out (by decide))
    have K3 := hide (fun W (h : RR W W.heap.size A0 l0) => opcheck_any 3 t r 0 A0 l0.length c0 l0 W h rfl (by omega) Ok0.out (by decide))
    have K4 := hide (fun W (h : RR W W.heap.size A0 l0) => opcheck_any 4 t r 0 A0 l0.length c0 l0 W h rfl (by omega) Ok0.out (by decide))
    rw [q1] at K1
    rw [q2] at K2
    rw [q3] at K3
    rw [q4] at K4
    clear q1 q2 q3 q4 hm
    obtain ⟨lt, hlt⟩ : ∃ a, a = (lastR l0).1 := ⟨_, rfl⟩
    obtain ⟨lr, hlr⟩ : ∃ a, a = (lastR l0).2 := ⟨_, rfl⟩
    have hpair : (lastR l0 = (t, r)) ↔ (t = lt ∧ r = lr) := ⟨fun h => by rw [hlt, hlr, h]; exact ⟨rfl, rfl⟩, fun h => Prod.ext (by rw [h.1, hlt]) (by rw [h.2, hlr])⟩
    rw [← hlt, ← hlr] at L0
    rw [← hlt] at K3 K4
    clear hlt hlr
    have hways : ((t = lt ∧ r = lr) ∧ ¬ lt < t) ∨ ((¬ (t = lt ∧ r = lr)) ∧ ((((t == lt) = true ∧ (r == lr) = false) ∧ ¬ lt < t) ∨ ((t == lt) = false ∧ ¬ lt < t) ∨ ((t == lt) = false ∧ lt < t ∧ ¬ t ≤ 1073741824) ∨ ((t == lt) = false ∧ lt < t ∧ t ≤ 1073741824 ∧ ¬ r < 8) ∨ ((t == lt) = false ∧ lt < t ∧ t ≤ 1073741824 ∧ r < 8))) := by
      simp only [beq_iff_eq, beq_eq_false_iff_ne, ne_eq]
      omega
    rcases hways with ⟨⟨rfl, rfl⟩, g⟩ | ⟨hne, g⟩
    · rw [if_pos (hpair.2 ⟨rfl, rfl⟩)] at K1 K2
      rw [if_neg (fun h => g h.1)] at K3 K4
      clear hpair
      go_enter Try.func4, Try.ntmps4
      go_wp2_with fail
      obtain ⟨w1, hw1, x0, x1, hs1, hb1⟩ := one_box w (.int .u32 t) (.int .u8 r) 25
      try rw [hw1]
      refine (opalive_ok _).mono ?_
      rintro e w2 ⟨rfl, hb2⟩
      have hb02 := fresh hb1 hb2
      have y0 := keep_cell hb2 hs1 x0
      have y1 := keep_cell hb2 hs1 x1
      have hs2 := Nat.lt_of_lt_of_le hs1 hb2.size
      clear x0 x1 hw1
      go_wp2_with fail
      refine (C0.out _ (hr0.below' hb02)).mono ?_
      rintro e w3 ⟨rfl, hb3⟩
      have hb03 := fresh hb02 hb3
      have x0 := keep_cell hb3 hs2 y0
      have x1 := keep_cell hb3 hs2 y1
      have hs3 := Nat.lt_of_lt_of_le hs2 hb3.size
      clear y0 y1
      go_wp2_with fail
      refine (L0.out _ (hr0.below' hb03)).mono ?_
      rintro e w4 ⟨rfl, hb4⟩
      have hb04 := fresh hb03 hb4
      have y0 := keep_cell hb4 hs3 x0
      have y1 := keep_cell hb4 hs3 x1
      have hs4 := Nat.lt_of_lt_of_le hs3 hb4.size
      clear x0 x1
      go_wp2_with fail
      obtain ⟨w5, hw5, u0, u1, hs5, hb5⟩ := one_box w4 (.int .u32 t) (.int .u8 r) 25
      try rw [hw5]
      clear hw5
      have hb05 := fresh hb04 hb5
      have x0 := keep_cell hb5 hs4 y0
      have x1 := keep_cell hb5 hs4 y1
      have hq5 := Nat.lt_of_lt_of_le hs4 hb5.size
      clear y0 y1
      refine (K2.out _ (hr0.below' hb05)).mono ?_
      rintro e w6 ⟨rfl, hb6⟩
      have hb06 := fresh hb05 hb6
      replace x0 := keep_cell hb6 hq5 x0
      replace x1 := keep_cell hb6 hq5 x1
      replace u0 := keep_cell hb6 hs5 u0
      replace u1 := keep_cell hb6 hs5 u1
      have hq6 := Nat.lt_of_lt_of_le hq5 hb6.size
      have hs6 := Nat.lt_of_lt_of_le hs5 hb6.size
      go_wp2_with fail
      refine (K1.out _ (hr0.below' hb06)).mono ?_
      rintro e w7 ⟨rfl, hb7⟩
      have hb07 := fresh hb06 hb7
      replace x0 := keep_cell hb7 hq6 x0
      replace x1 := keep_cell hb7 hq6 x1
      replace u0 := keep_cell hb7 hs6 u0
      replace u1 := keep_cell hb7 hs6 u1
      have hq7 := Nat.lt_of_lt_of_le hq6 hb7.size
      have hs7 := Nat.lt_of_lt_of_le hs6 hb7.size
      go_wp2_with fail
      refine (K3.out _ (hr0.below' hb07)).mono ?_
      rintro e w8 ⟨rfl, hb8⟩
      have hb08 := fresh hb07 hb8
      replace x0 := keep_cell hb8 hq7 x0
      replace x1 := keep_cell hb8 hq7 x1
      replace u0 := keep_cell hb8 hs7 u0
      replace u1 := keep_cell hb8 hs7 u1
      have hq8 := Nat.lt_of_lt_of_le hq7 hb8.size
      have hs8 := Nat.lt_of_lt_of_le hs7 hb8.size
      go_wp2_with fail
      refine (K4.out _ (hr0.below' hb08)).mono ?_
      rintro e w9 ⟨rfl, hb9⟩
      have hb09 := fresh hb08 hb9
      replace x0 := keep_cell hb9 hq8 x0
      replace x1 := keep_cell hb9 hq8 x1
      replace u0 := keep_cell hb9 hs8 u0
      replace u1 := keep_cell hb9 hs8 u1
      have hq9 := Nat.lt_of_lt_of_le hq8 hb9.size
      have hs9 := Nat.lt_of_lt_of_le hs8 hb9.size
      go_wp2_with fail
      go_ret
      exact ⟨ret_bool (by first | (simp; done) | (simp; omega)), hb09⟩
    · rw [if_neg (fun h => hne (hpair.1 h))] at K1 K2
      clear hpair hne
      rcases g with ⟨⟨g1, g2⟩, g⟩ | ⟨g1, g⟩ | ⟨g1, g, g3⟩ | ⟨g1, g, g3, g4⟩ | ⟨g1, g, g3, g4⟩
      · rw [if_neg (fun h => g h.1)] at K3 K4
        go_enter Try.func4, Try.ntmps4
        go_wp2_with fail
        obtain ⟨w1, hw1, x0, x1, hs1, hb1⟩ := one_box w (.int .u32 t) (.int .u8 r) 25
        try rw [hw1]
        refine (opalive_ok _).mono ?_
        rintro e w2 ⟨rfl, hb2⟩
        have hb02 := fresh hb1 hb2
        have y0 := keep_cell hb2 hs1 x0
        have y1 := keep_cell hb2 hs1 x1
        have hs2 := Nat.lt_of_lt_of_le hs1 hb2.size
        clear x0 x1 hw1
        go_wp2_with fail
        refine (C0.out _ (hr0.below' hb02)).mono ?_
        rintro e w3 ⟨rfl, hb3⟩
        have hb03 := fresh hb02 hb3
        have x0 := keep_cell hb3 hs2 y0
        have x1 := keep_cell hb3 hs2 y1
        have hs3 := Nat.lt_of_lt_of_le hs2 hb3.size
        clear y0 y1
        go_wp2_with fail
        refine (L0.out _ (hr0.below' hb03)).mono ?_
        rintro e w4 ⟨rfl, hb4⟩
        have hb04 := fresh hb03 hb4
        have y0 := keep_cell hb4 hs3 x0
        have y1 := keep_cell hb4 hs3 x1
        have hs4 := Nat.lt_of_lt_of_le hs3 hb4.size
        clear x0 x1
        go_wp2_with fail
        obtain ⟨w5, hw5, u0, u1, hs5, hb5⟩ := one_box w4 (.int .u32 lt) (.int .u8 lr) 25
        try rw [hw5]
        clear hw5
        have hb05 := fresh hb04 hb5
        have x0 := keep_cell hb5 hs4 y0
        have x1 := keep_cell hb5 hs4 y1
        have hq5 := Nat.lt_of_lt_of_le hs4 hb5.size
        clear y0 y1
        refine (K2.out _ (hr0.below' hb05)).mono ?_
        rintro e w6 ⟨rfl, hb6⟩
        have hb06 := fresh hb05 hb6
        replace x0 := keep_cell hb6 hq5 x0
        replace x1 := keep_cell hb6 hq5 x1
        replace u0 := keep_cell hb6 hs5 u0
        replace u1 := keep_cell hb6 hs5 u1
        have hq6 := Nat.lt_of_lt_of_le hq5 hb6.size
        have hs6 := Nat.lt_of_lt_of_le hs5 hb6.size
        go_wp2_with fail
        refine (K1.out _ (hr0.below' hb06)).mono ?_
        rintro e w7 ⟨rfl, hb7⟩
        have hb07 := fresh hb06 hb7
        replace x0 := keep_cell hb7 hq6 x0
        replace x1 := keep_cell hb7 hq6 x1
        replace u0 := keep_cell hb7 hs6 u0
        replace u1 := keep_cell hb7 hs6 u1
        have hq7 := Nat.lt_of_lt_of_le hq6 hb7.size
        have hs7 := Nat.lt_of_lt_of_le hs6 hb7.size
        go_wp2_with fail
        refine (K3.out _ (hr0.below' hb07)).mono ?_
        rintro e w8 ⟨rfl, hb8⟩
        have hb08 := fresh hb07 hb8
        replace x0 := keep_cell hb8 hq7 x0
        replace x1 := keep_cell hb8 hq7 x1
        replace u0 := keep_cell hb8 hs7 u0
        replace u1 := keep_cell hb8 hs7 u1
        have hq8 := Nat.lt_of_lt_of_le hq7 hb8.size
        have hs8 := Nat.lt_of_lt_of_le hs7 hb8.size
        go_wp2_with fail
        refine (K4.out _ (hr0.below' hb08)).mono ?_
        rintro e w9 ⟨rfl, hb9⟩
        have hb09 := fresh hb08 hb9
        replace x0 := keep_cell hb9 hq8 x0
        replace x1 := keep_cell hb9 hq8 x1
        replace u0 := keep_cell hb9 hs8 u0
        replace u1 := keep_cell hb9 hs8 u1
        have hq9 := Nat.lt_of_lt_of_le hq8 hb9.size
        have hs9 := Nat.lt_of_lt_of_le hs8 hb9.size
        go_wp2_with fail
        go_ret
        exact ⟨ret_bool (by first | (simp; done) | (simp; omega)), hb09⟩
      · rw [if_neg (fun h => g h.1)] at K3 K4
        go_enter Try.func4, Try.ntmps4
        go_wp2_with fail
        obtain ⟨w1, hw1, x0, x1, hs1, hb1⟩ := one_box w (.int .u32 t) (.int .u8 r) 25
        try rw [hw1]
        refine (opalive_ok _).mono ?_
        rintro e w2 ⟨rfl, hb2⟩
        have hb02 := fresh hb1 hb2
        have y0 := keep_cell hb2 hs1 x0
        have y1 := keep_cell hb2 hs1 x1
        have hs2 := Nat.lt_of_lt_of_le hs1 hb2.size
        clear x0 x1 hw1
        go_wp2_with fail
        refine (C0.out _ (hr0.below' hb02)).mono ?_
        rintro e w3 ⟨rfl, hb3⟩
        have hb03 := fresh hb02 hb3
        have x0 := keep_cell hb3 hs2 y0
        have x1 := keep_cell hb3 hs2 y1
        have hs3 := Nat.lt_of_lt_of_le hs2 hb3.size
        clear y0 y1
        go_wp2_with fail
        refine (L0.out _ (hr0.below' hb03)).mono ?_
        rintro e w4 ⟨rfl, hb4⟩
        have hb04 := fresh hb03 hb4
        have y0 := keep_cell hb4 hs3 x0
        have y1 := keep_cell hb4 hs3 x1
        have hs4 := Nat.lt_of_lt_of_le hs3 hb4.size
        clear x0 x1
        go_wp2_with fail
        obtain ⟨w5, hw5, u0, u1, hs5, hb5⟩ := one_box w4 (.int .u32 lt) (.int .u8 lr) 25
        try rw [hw5]
        clear hw5
        have hb05 := fresh hb04 hb5
        have x0 := keep_cell hb5 hs4 y0
        have x1 := keep_cell hb5 hs4 y1
        have hq5 := Nat.lt_of_lt_of_le hs4 hb5.size
        clear y0 y1
        refine (K2.out _ (hr0.below' hb05)).mono ?_
        rintro e w6 ⟨rfl, hb6⟩
        have hb06 := fresh hb05 hb6
        replace x0 := keep_cell hb6 hq5 x0
        replace x1 := keep_cell hb6 hq5 x1
        replace u0 := keep_cell hb6 hs5 u0
        replace u1 := keep_cell hb6 hs5 u1
        have hq6 := Nat.lt_of_lt_of_le hq5 hb6.size
        have hs6 := Nat.lt_of_lt_of_le hs5 hb6.size
        go_wp2_with fail
        refine (K1.out _ (hr0.below' hb06)).mono ?_
        rintro e w7 ⟨rfl, hb7⟩
        have hb07 := fresh hb06 hb7
        replace x0 := keep_cell hb7 hq6 x0
        replace x1 := keep_cell hb7 hq6 x1
        replace u0 := keep_cell hb7 hs6 u0
        replace u1 := keep_cell hb7 hs6 u1
        have hq7 := Nat.lt_of_lt_of_le hq6 hb7.size
        have hs7 := Nat.lt_of_lt_of_le hs6 hb7.size
        go_wp2_with fail
        refine (K3.out _ (hr0.below' hb07)).mono ?_
        rintro e w8 ⟨rfl, hb8⟩
        have hb08 := fresh hb07 hb8
        replace x0 := keep_cell hb8 hq7 x0
        replace x1 := keep_cell hb8 hq7 x1
        replace u0 := keep_cell hb8 hs7 u0
        replace u1 := keep_cell hb8 hs7 u1
        have hq8 := Nat.lt_of_lt_of_le hq7 hb8.size
        have hs8 := Nat.lt_of_lt_of_le hs7 hb8.size
        go_wp2_with fail
        refine (K4.out _ (hr0.below' hb08)).mono ?_
        rintro e w9 ⟨rfl, hb9⟩
        have hb09 := fresh hb08 hb9
        replace x0 := keep_cell hb9 hq8 x0
        replace x1 := keep_cell hb9 hq8 x1
        replace u0 := keep_cell hb9 hs8 u0
        replace u1 := keep_cell hb9 hs8 u1
        have hq9 := Nat.lt_of_lt_of_le hq8 hb9.size
        have hs9 := Nat.lt_of_lt_of_le hs8 hb9.size
        go_wp2_with fail
        go_ret
        exact ⟨ret_bool (by first | (simp; done) | (simp; omega)), hb09⟩
      · rw [if_neg (fun h => g3 h.2.1)] at K3 K4
        go_enter Try.func4, Try.ntmps4
        go_wp2_with fail
        obtain ⟨w1, hw1, x0, x1, hs1, hb1⟩ := one_box w (.int .u32 t) (.int .u8 r) 25
        try rw [hw1]
        refine (opalive_ok _).mono ?_
        rintro e w2 ⟨rfl, hb2⟩
        have hb02 := fresh hb1 hb2
        have y0 := keep_cell hb2 hs1 x0
        have y1 := keep_cell hb2 hs1 x1
        have hs2 := Nat.lt_of_lt_of_le hs1 hb2.size
        clear x0 x1 hw1
        go_wp2_with fail
        refine (C0.out _ (hr0.below' hb02)).mono ?_
        rintro e w3 ⟨rfl, hb3⟩
        have hb03 := fresh hb02 hb3
        have x0 := keep_cell hb3 hs2 y0
        have x1 := keep_cell hb3 hs2 y1
        have hs3 := Nat.lt_of_lt_of_le hs2 hb3.size
        clear y0 y1
        go_wp2_with fail
        refine (L0.out _ (hr0.below' hb03)).mono ?_
        rintro e w4 ⟨rfl, hb4⟩
        have hb04 := fresh hb03 hb4
        have y0 := keep_cell hb4 hs3 x0
        have y1 := keep_cell hb4 hs3 x1
        have hs4 := Nat.lt_of_lt_of_le hs3 hb4.size
        clear x0 x1
        go_wp2_with fail
        obtain ⟨w5, hw5, u0, u1, hs5, hb5⟩ := one_box w4 (.int .u32 lt) (.int .u8 lr) 25
        try rw [hw5]
        clear hw5
        have hb05 := fresh hb04 hb5
        have x0 := keep_cell hb5 hs4 y0
        have x1 := keep_cell hb5 hs4 y1
        have hq5 := Nat.lt_of_lt_of_le hs4 hb5.size
        clear y0 y1
        refine (K2.out _ (hr0.below' hb05)).mono ?_
        rintro e w6 ⟨rfl, hb6⟩
        have hb06 := fresh hb05 hb6
        replace x0 := keep_cell hb6 hq5 x0
        replace x1 := keep_cell hb6 hq5 x1
        replace u0 := keep_cell hb6 hs5 u0
        replace u1 := keep_cell hb6 hs5 u1
        have hq6 := Nat.lt_of_lt_of_le hq5 hb6.size
        have hs6 := Nat.lt_of_lt_of_le hs5 hb6.size
        go_wp2_with fail
        refine (K1.out _ (hr0.below' hb06)).mono ?_
        rintro e w7 ⟨rfl, hb7⟩
        have hb07 := fresh hb06 hb7
        replace x0 := keep_cell hb7 hq6 x0
        replace x1 := keep_cell hb7 hq6 x1
        replace u0 := keep_cell hb7 hs6 u0
        replace u1 := keep_cell hb7 hs6 u1
        have hq7 := Nat.lt_of_lt_of_le hq6 hb7.size
        have hs7 := Nat.lt_of_lt_of_le hs6 hb7.size
        go_wp2_with fail
        refine (K3.out _ (hr0.below' hb07)).mono ?_
        rintro e w8 ⟨rfl, hb8⟩
        have hb08 := fresh hb07 hb8
        replace x0 := keep_cell hb8 hq7 x0
        replace x1 := keep_cell hb8 hq7 x1
        replace u0 := keep_cell hb8 hs7 u0
        replace u1 := keep_cell hb8 hs7 u1
        have hq8 := Nat.lt_of_lt_of_le hq7 hb8.size
        have hs8 := Nat.lt_of_lt_of_le hs7 hb8.size
        go_wp2_with fail
        refine (K4.out _ (hr0.below' hb08)).mono ?_
        rintro e w9 ⟨rfl, hb9⟩
        have hb09 := fresh hb08 hb9
        replace x0 := keep_cell hb9 hq8 x0
        replace x1 := keep_cell hb9 hq8 x1
        replace u0 := keep_cell hb9 hs8 u0
        replace u1 := keep_cell hb9 hs8 u1
        have hq9 := Nat.lt_of_lt_of_le hq8 hb9.size
        have hs9 := Nat.lt_of_lt_of_le hs8 hb9.size
        go_wp2_with fail
        go_ret
        exact ⟨ret_bool (by first | (simp; done) | (simp; omega)), hb09⟩
      · rw [if_neg (fun h => g4 h.2.2)] at K3 K4
        go_enter Try.func4, Try.ntmps4
        go_wp2_with fail
        obtain ⟨w1, hw1, x0, x1, hs1, hb1⟩ := one_box w (.int .u32 t) (.int .u8 r) 25
        try rw [hw1]
        refine (opalive_ok _).mono ?_
        rintro e w2 ⟨rfl, hb2⟩
        have hb02 := fresh hb1 hb2
        have y0 := keep_cell hb2 hs1 x0
        have y1 := keep_cell hb2 hs1 x1
        have hs2 := Nat.lt_of_lt_of_le hs1 hb2.size
        clear x0 x1 hw1
        go_wp2_with fail
        refine (C0.out _ (hr0.below' hb02)).mono ?_
        rintro e w3 ⟨rfl, hb3⟩
        have hb03 := fresh hb02 hb3
        have x0 := keep_cell hb3 hs2 y0
        have x1 := keep_cell hb3 hs2 y1
        have hs3 := Nat.lt_of_lt_of_le hs2 hb3.size
        clear y0 y1
        go_wp2_with fail
        refine (L0.out _ (hr0.below' hb03)).mono ?_
        rintro e w4 ⟨rfl, hb4⟩
        have hb04 := fresh hb03 hb4
        have y0 := keep_cell hb4 hs3 x0
        have y1 := keep_cell hb4 hs3 x1
        have hs4 := Nat.lt_of_lt_of_le hs3 hb4.size
        clear x0 x1
        go_wp2_with fail
        obtain ⟨w5, hw5, u0, u1, hs5, hb5⟩ := one_box w4 (.int .u32 lt) (.int .u8 lr) 25
        try rw [hw5]
        clear hw5
        have hb05 := fresh hb04 hb5
        have x0 := keep_cell hb5 hs4 y0
        have x1 := keep_cell hb5 hs4 y1
        have hq5 := Nat.lt_of_lt_of_le hs4 hb5.size
        clear y0 y1
        refine (K2.out _ (hr0.below' hb05)).mono ?_
        rintro e w6 ⟨rfl, hb6⟩
        have hb06 := fresh hb05 hb6
        replace x0 := keep_cell hb6 hq5 x0
        replace x1 := keep_cell hb6 hq5 x1
        replace u0 := keep_cell hb6 hs5 u0
        replace u1 := keep_cell hb6 hs5 u1
        have hq6 := Nat.lt_of_lt_of_le hq5 hb6.size
        have hs6 := Nat.lt_of_lt_of_le hs5 hb6.size
        go_wp2_with fail
        refine (K1.out _ (hr0.below' hb06)).mono ?_
        rintro e w7 ⟨rfl, hb7⟩
        have hb07 := fresh hb06 hb7
        replace x0 := keep_cell hb7 hq6 x0
        replace x1 := keep_cell hb7 hq6 x1
        replace u0 := keep_cell hb7 hs6 u0
        replace u1 := keep_cell hb7 hs6 u1
        have hq7 := Nat.lt_of_lt_of_le hq6 hb7.size
        have hs7 := Nat.lt_of_lt_of_le hs6 hb7.size
        go_wp2_with fail
        refine (K3.out _ (hr0.below' hb07)).mono ?_
        rintro e w8 ⟨rfl, hb8⟩
        have hb08 := fresh hb07 hb8
        replace x0 := keep_cell hb8 hq7 x0
        replace x1 := keep_cell hb8 hq7 x1
        replace u0 := keep_cell hb8 hs7 u0
        replace u1 := keep_cell hb8 hs7 u1
        have hq8 := Nat.lt_of_lt_of_le hq7 hb8.size
        have hs8 := Nat.lt_of_lt_of_le hs7 hb8.size
        go_wp2_with fail
        refine (K4.out _ (hr0.below' hb08)).mono ?_
        rintro e w9 ⟨rfl, hb9⟩
        have hb09 := fresh hb08 hb9
        replace x0 := keep_cell hb9 hq8 x0
        replace x1 := keep_cell hb9 hq8 x1
        replace u0 := keep_cell hb9 hs8 u0
        replace u1 := keep_cell hb9 hs8 u1
        have hq9 := Nat.lt_of_lt_of_le hq8 hb9.size
        have hs9 := Nat.lt_of_lt_of_le hs8 hb9.size
        go_wp2_with fail
        go_ret
        exact ⟨ret_bool (by first | (simp; done) | (simp; omega)), hb09⟩
      · rw [if_pos ⟨g, g3, g4⟩] at K3 K4
        go_enter Try.func4, Try.ntmps4
        go_wp2_with fail
        obtain ⟨w1, hw1, x0, x1, hs1, hb1⟩ := one_box w (.int .u32 t) (.int .u8 r) 25
        try rw [hw1]
        refine (opalive_ok _).mono ?_
        rintro e w2 ⟨rfl, hb2⟩
        have hb02 := fresh hb1 hb2
        have y0 := keep_cell hb2 hs1 x0
        have y1 := keep_cell hb2 hs1 x1
        have hs2 := Nat.lt_of_lt_of_le hs1 hb2.size
        clear x0 x1 hw1
        go_wp2_with fail
        refine (C0.out _ (hr0.below' hb02)).mono ?_
        rintro e w3 ⟨rfl, hb3⟩
        have hb03 := fresh hb02 hb3
        have x0 := keep_cell hb3 hs2 y0
        have x1 := keep_cell hb3 hs2 y1
        have hs3 := Nat.lt_of_lt_of_le hs2 hb3.size
        clear y0 y1
        go_wp2_with fail
        refine (L0.out _ (hr0.below' hb03)).mono ?_
        rintro e w4 ⟨rfl, hb4⟩
        have hb04 := fresh hb03 hb4
        have y0 := keep_cell hb4 hs3 x0
        have y1 := keep_cell hb4 hs3 x1
        have hs4 := Nat.lt_of_lt_of_le hs3 hb4.size
        clear x0 x1
        go_wp2_with fail
        obtain ⟨w5, hw5, u0, u1, hs5, hb5⟩ := one_box w4 (.int .u32 lt) (.int .u8 lr) 25
        try rw [hw5]
        clear hw5
        have hb05 := fresh hb04 hb5
        have x0 := keep_cell hb5 hs4 y0
        have x1 := keep_cell hb5 hs4 y1
        have hq5 := Nat.lt_of_lt_of_le hs4 hb5.size
        clear y0 y1
        refine (K2.out _ (hr0.below' hb05)).mono ?_
        rintro e w6 ⟨rfl, hb6⟩
        have hb06 := fresh hb05 hb6
        replace x0 := keep_cell hb6 hq5 x0
        replace x1 := keep_cell hb6 hq5 x1
        replace u0 := keep_cell hb6 hs5 u0
        replace u1 := keep_cell hb6 hs5 u1
        have hq6 := Nat.lt_of_lt_of_le hq5 hb6.size
        have hs6 := Nat.lt_of_lt_of_le hs5 hb6.size
        go_wp2_with fail
        refine (K1.out _ (hr0.below' hb06)).mono ?_
        rintro e w7 ⟨rfl, hb7⟩
        have hb07 := fresh hb06 hb7
        replace x0 := keep_cell hb7 hq6 x0
        replace x1 := keep_cell hb7 hq6 x1
        replace u0 := keep_cell hb7 hs6 u0
        replace u1 := keep_cell hb7 hs6 u1
        have hq7 := Nat.lt_of_lt_of_le hq6 hb7.size
        have hs7 := Nat.lt_of_lt_of_le hs6 hb7.size
        go_wp2_with fail
        refine (K3.out _ (hr0.below' hb07)).mono ?_
        rintro e w8 ⟨rfl, hb8⟩
        have hb08 := fresh hb07 hb8
        replace x0 := keep_cell hb8 hq7 x0
        replace x1 := keep_cell hb8 hq7 x1
        replace u0 := keep_cell hb8 hs7 u0
        replace u1 := keep_cell hb8 hs7 u1
        have hq8 := Nat.lt_of_lt_of_le hq7 hb8.size
        have hs8 := Nat.lt_of_lt_of_le hs7 hb8.size
        go_wp2_with fail
        refine (K4.out _ (hr0.below' hb08)).mono ?_
        rintro e w9 ⟨rfl, hb9⟩
        have hb09 := fresh hb08 hb9
        replace x0 := keep_cell hb9 hq8 x0
        replace x1 := keep_cell hb9 hq8 x1
        replace u0 := keep_cell hb9 hs8 u0
        replace u1 := keep_cell hb9 hs8 u1
        have hq9 := Nat.lt_of_lt_of_le hq8 hb9.size
        have hs9 := Nat.lt_of_lt_of_le hs8 hb9.size
        go_wp2_with fail
        go_ret
        exact ⟨ret_bool (by first | (simp; done) | (simp; omega)), hb09⟩
  · rw [show chkR l0 = 8 from if_neg hm] at C0
    clear hm
    go_enter Try.func4, Try.ntmps4
    go_wp2_with fail
    obtain ⟨w1, hw1, x0, x1, hs1, hb1⟩ := one_box w (.int .u32 t) (.int .u8 r) 25
    try rw [hw1]
    refine (opalive_ok _).mono ?_
    rintro e w2 ⟨rfl, hb2⟩
    have hb02 := fresh hb1 hb2
    have y0 := keep_cell hb2 hs1 x0
    have y1 := keep_cell hb2 hs1 x1
    have hs2 := Nat.lt_of_lt_of_le hs1 hb2.size
    clear x0 x1 hw1
    go_wp2_with fail
    refine (C0.out _ (hr0.below' hb02)).mono ?_
    rintro e w3 ⟨rfl, hb3⟩
    have hb03 := fresh hb02 hb3
    have x0 := keep_cell hb3 hs2 y0
    have x1 := keep_cell hb3 hs2 y1
    have hs3 := Nat.lt_of_lt_of_le hs2 hb3.size
    clear y0 y1
    go_wp2_with fail
    go_ret
    exact ⟨rfl, hb03⟩
end Go.Proofs.Ytbjfmkdjnglgbaa
