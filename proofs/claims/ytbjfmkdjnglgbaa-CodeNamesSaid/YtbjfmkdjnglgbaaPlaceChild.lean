/-
  PlaceChild. No condition.
-/
import Derived.Test.YtbjfmkdjnglgbaaPlaceChildMath
import Derived.IntWalk
namespace Go.Proofs.Ytbjfmkdjnglgbaa
open Go.RowKit

theorem under_cases (p : List Rn) (t r : Int) : (anyR p ∧ mayI t r ∧ mayR (moreR p t r) ∧ underR p t r = (moreR p t r, 0)) ∨ ∃ er, er ≠ 0 ∧ underR p t r = ([], er) := by
  unfold underR
  by_cases h1 : anyR p ∧ mayI t r
  · rw [if_neg (fun h => h h1)]
    by_cases h2 : t ≤ (lastR p).1
    · rw [if_pos h2]
      exact .inr ⟨2, by decide, rfl⟩
    · rw [if_neg h2]
      by_cases h3 : mayR (moreR p t r)
      · rw [if_pos h3]
        exact .inl ⟨h1.1, h1.2, h3, rfl⟩
      · rw [if_neg h3]
        exact .inr ⟨60, by decide, rfl⟩
  · rw [if_pos h1]
    exact .inr ⟨8, by decide, rfl⟩
theorem okR_more {p : List Rn} {t r : Int} (hok : ∀ x ∈ p, okR x) (hi : okI (t, r)) (hm : mayR (moreR p t r)) : ∀ x ∈ moreR p t r, okR x := by
  intro x hx
  have hone := chainR_mem hm.2.2.1 x hx
  obtain ⟨i1, i2, i3, i4⟩ := hi
  simp only at i1 i2 i3 i4
  obtain ⟨o1, o2, o3, o4, o5, o6⟩ := hone
  suffices h : 0 ≤ x.2.1 by exact ⟨by omega, by omega, h, by omega, by omega, by omega⟩
  unfold moreR at hx
  split at hx
  · rename_i hg
    rcases List.mem_append.1 hx with hx | hx
    · exact (hok x ((List.dropLast_sublist p).subset hx)).2.2.1
    · rw [List.mem_singleton.1 hx]
      have hl : p.length - 1 < p.length := by have := List.length_pos_iff.2 hg.1; omega
      rw [lastD_get p hl]
      exact (hok _ (List.getElem_mem hl)).2.2.1
  · rcases List.mem_append.1 hx with hx | hx
    · exact (hok x hx).2.2.1
    · rw [List.mem_singleton.1 hx]
      exact i3
theorem allR_ok {p : List Rn} (hok : ∀ x ∈ p, okR x) (hc : chainR p) : ∀ i ∈ allR p, okI i := by
  intro i hi
  unfold allR at hi
  obtain ⟨x, hx, hi⟩ := List.mem_flatMap.1 hi
  unfold ofR at hi
  obtain ⟨k, hk, rfl⟩ := List.mem_map.1 hi
  have hk := List.mem_range.1 hk
  obtain ⟨o1, o2, o3, o4, o5, o6⟩ := chainR_mem hc x hx
  obtain ⟨q1, q2, q3, q4, q5, q6⟩ := hok x hx
  refine ⟨?_, ?_, q3, q4⟩ <;> simp only <;> omega
/-- How a place, its child and another place stand. -/
def childFacts (p C q : List Rn) (t r : Int) : Prop :=
  (0 ≤ cmpR p q) ∨ (cmpR p q = -1 ∧ begR p q = false ∧ cmpR C q = -1) ∨
  (cmpR p q = -1 ∧ begR p q = true ∧ ∃ j, okI j ∧ (allR q)[(allR C).length - 1]? = some j ∧ 1 ≤ (allR C).length ∧ (allR C).length ≤ (allR q).length ∧ mayR q ∧ (cmpR C q = 1 ↔ ltI (t, r) j))
theorem child_facts {p q : List Rn} {t r : Int} (hp : anyR p) (hq : anyR q) (hm : mayR (moreR p t r)) (hok : ∀ x ∈ q, okR x) : childFacts p (moreR p t r) q t r := by
  have hA := allR_more (t := t) (r := r) hp
  have hC : anyR (moreR p t r) := .inr hm
  unfold childFacts
  rcases cmpR_range p q with h | h | h
  · right
    have h2 := h
    rw [cmpR_any hp hq] at h2
    have hb : begR p q = (allR p).isPrefixOf (allR q) := by
      unfold begR
      cases (allR p).isPrefixOf (allR q) <;> simp [hp, hq]
    cases hpre : (allR p).isPrefixOf (allR q) with
    | false =>
      left
      refine ⟨h, by rw [hb, hpre], ?_⟩
      rw [cmpR_any hC hq, hA]
      exact cmpS_off h2 hpre _
    | true =>
      right
      obtain ⟨j, c, hj⟩ := pre_more h2 hpre
      have hqm : mayR q := by
        rcases hq with rfl | hq
        · have := congrArg List.length hj
          simp [allR] at this
        · exact hq
      refine ⟨h, by rw [hb, hpre], j, allR_ok hok hqm.2.2.1 j (by rw [hj]; simp), ?_, ?_, ?_, hqm, ?_⟩
      · rw [hA, hj]; simp
      · rw [hA]; simp
      · rw [hA, hj]; simp
      · rw [cmpR_any hC hq, hA, hj]
        exact cmpS_young _ _ _ _
  · left; omega
  · left; omega
theorem child_first {p : List Rn} {t r : Int} (hp : anyR p) (hm : mayR (moreR p t r)) : cmpR p (moreR p t r) = -1 ∧ begR p (moreR p t r) = true ∧ begR (moreR p t r) p = false := by
  have hA := allR_more (t := t) (r := r) hp
  have hC : anyR (moreR p t r) := .inr hm
  refine ⟨?_, ?_, ?_⟩
  · rw [cmpR_any hp hC, hA, cmpS_ext]
  · unfold begR
    rw [hA]
    exact decide_eq_true ⟨hp, hC, pre_ext _ _⟩
  · unfold begR
    rw [hA, pre_ext']
    exact decide_eq_false (fun h => by cases h.2.2)
theorem begin_at (A B : Option Addr) (n k c d : Nat) (a b : List Rn) (z : Bool) (w : World) (hr : RR w w.heap.size A a) (hs : RR w w.heap.size B b) (hn : a.length = n) (hk : b.length = k) (hl : n < 1073741824) (hm : k < 1073741824)
    (hA : A = none → c = 0) (hB : B = none → d = 0) (ha : ∀ x ∈ a, okR x) (hb : ∀ x ∈ b, okR x) (hz : begR a b = z) :
    Calls Try.prog 43 #[.slice A n c, .slice B k d] w fun e w' => e = .returned (.bool z) ∧ Below w.heap.size w w' := by
  subst hz
  exact pbegins_any A B n k c d a b w hr hs hn hk hl hm hA hB ha hb
theorem last_at (A : Option Addr) (n c : Nat) (p : List Rn) (t r : Int) (w : World) (hr : RR w w.heap.size A p) (hn : p.length = n) (hl : n < 1073741824) (hok : ∀ x ∈ p, okR x) (hz : lastR p = (t, r)) :
    Calls Try.prog 28 #[.slice A n c] w fun e w' => e = .returned (.agg #[.int .u32 t, .int .u8 r]) ∧ Below w.heap.size w w' := by
  have := plast_any A n c p w hr hn hl hok
  rw [hz] at this
  exact this
theorem check_at (A : Option Addr) (n c : Nat) (p : List Rn) (z : Int) (w : World) (hr : RR w w.heap.size A p) (hn : p.length = n) (hl : n < 1073741824) (hok : ∀ x ∈ p, okR x) (hz : chkR p = z) :
    Calls Try.prog 32 #[.slice A n c] w fun e w' => e = .returned (.int .i64 z) ∧ Below w.heap.size w w' := by
  subst hz
  exact pcheck_any A n c p w hr hn hl hok
theorem ids_at (A : Option Addr) (n c : Nat) (p : List Rn) (w : World) (hr : RR w w.heap.size A p) (hn : p.length = n) (hl : n < 1073741824) (hok : ∀ x ∈ p, okR x) (hm : mayR p) :
    Calls Try.prog 25 #[.slice A n c] w fun e w' => ∃ A' c', e = .returned (.tuple #[.slice A' (allR p).length c', .int .i64 0]) ∧ RI w' w'.heap.size A' (allR p) ∧ Below w.heap.size w w' := by
  have hc : chkR p = 0 := if_pos hm
  have hi : idsR p = allR p := if_pos hm
  refine (pids_any A n c p w hr hn hl hok).mono ?_
  rintro e w' ⟨v, rfl, hown, hb⟩
  rw [hc]
  rw [hi] at hown
  obtain ⟨A', c', rfl, -, -, -⟩ := own_slice hown
  exact ⟨A', c', rfl, RD.of_own hown, hb⟩
theorem RI.below' {w w' : World} {A : Option Addr} {l : List (Int × Int)} (h : RI w w.heap.size A l) (hb : Below w.heap.size w w') : RI w' w'.heap.size A l := (RD.below h hb).more hb.size

set_option maxHeartbeats 12800000 in
set_option maxRecDepth 100000 in
theorem placeChild_walk (A0 : Option Addr) (c0 : Nat) (l0 : List Rn) (t r : Int) (A2 : Option Addr) (c2 : Nat) (l2 : List Rn) (w : World) (hr0 : RR w w.heap.size A0 l0) (hr2 : RR w w.heap.size A2 l2)
    (ok0 : ∀ x ∈ l0, okR x) (hi : okI (t, r)) (ok2 : ∀ x ∈ l2, okR x) (n0 : A0 = none → c0 = 0) (n2 : A2 = none → c2 = 0) :
    Calls Try.prog 9 #[.slice A0 l0.length c0, .agg #[.int .u32 t, .int .u8 r], .slice A2 l2.length c2] w fun e w' => e = .returned (.bool true) ∧ Below w.heap.size w w' := by
  have Ok0 := hide ok0
  have Ok2 := hide ok2
  have N0 := hide n0
  have N2 := hide n2
  have Hi := hide hi
  obtain ⟨i1, i2, i3, i4⟩ := hi
  simp only at i1 i2 i3 i4
  clear ok0 ok2 n0 n2
  by_cases g0 : (100 : Int) < l0.length
  · have b0 := g0
    go_enter Try.func9, Try.ntmps9
    go_wp2_with fail
    obtain ⟨w1, hw1, k0, k1, hs1, hb1⟩ := one_box w (.int .u32 t) (.int .u8 r) 25
    simp only [hw1]
    clear hw1
    replace hr0 := RR.below' hr0 hb1
    replace hr2 := RR.below' hr2 hb1
    have hbw := hb1
    clear hb1
    refine (palive_ok w1).mono ?_
    rintro e w2 ⟨rfl, hb2⟩
    replace hr0 := RR.below' hr0 hb2
    replace hr2 := RR.below' hr2 hb2
    replace k0 := keep_cell hb2 hs1 k0
    replace k1 := keep_cell hb2 hs1 k1
    replace hs1 := Nat.lt_of_lt_of_le hs1 hb2.size
    replace hbw := fresh hbw hb2
    clear hb2
    go_wp2_with fail
    go_ret
    exact ⟨rfl, hbw⟩
  by_cases g2 : (100 : Int) < l2.length
  · have b2 := g2
    go_enter Try.func9, Try.ntmps9
    go_wp2_with fail
    obtain ⟨w1, hw1, k0, k1, hs1, hb1⟩ := one_box w (.int .u32 t) (.int .u8 r) 25
    simp only [hw1]
    clear hw1
    replace hr0 := RR.below' hr0 hb1
    replace hr2 := RR.below' hr2 hb1
    have hbw := hb1
    clear hb1
    refine (palive_ok w1).mono ?_
    rintro e w2 ⟨rfl, hb2⟩
    replace hr0 := RR.below' hr0 hb2
    replace hr2 := RR.below' hr2 hb2
    replace k0 := keep_cell hb2 hs1 k0
    replace k1 := keep_cell hb2 hs1 k1
    replace hs1 := Nat.lt_of_lt_of_le hs1 hb2.size
    replace hbw := fresh hbw hb2
    clear hb2
    go_wp2_with fail
    go_ret
    exact ⟨rfl, hbw⟩
  by_cases m2 : anyR l2
  rotate_left
  · have d2 := hide (decide_eq_false m2)
    clear m2
    go_enter Try.func9, Try.ntmps9
    go_wp2_with fail
    obtain ⟨w1, hw1, k0, k1, hs1, hb1⟩ := one_box w (.int .u32 t) (.int .u8 r) 25
    simp only [hw1]
    clear hw1
    replace hr0 := RR.below' hr0 hb1
    replace hr2 := RR.below' hr2 hb1
    have hbw := hb1
    clear hb1
    refine (palive_ok w1).mono ?_
    rintro e w2 ⟨rfl, hb2⟩
    replace hr0 := RR.below' hr0 hb2
    replace hr2 := RR.below' hr2 hb2
    replace k0 := keep_cell hb2 hs1 k0
    replace k1 := keep_cell hb2 hs1 k1
    replace hs1 := Nat.lt_of_lt_of_le hs1 hb2.size
    replace hbw := fresh hbw hb2
    clear hb2
    go_wp2_with fail
    refine (lmay_at A2 _ c2 l2 _ _ hr2 rfl (by omega) Ok2.out d2.out).mono ?_
    rintro e w3 ⟨rfl, hb3⟩
    replace hr0 := RR.below' hr0 hb3
    replace hr2 := RR.below' hr2 hb3
    replace k0 := keep_cell hb3 hs1 k0
    replace k1 := keep_cell hb3 hs1 k1
    replace hs1 := Nat.lt_of_lt_of_le hs1 hb3.size
    replace hbw := fresh hbw hb3
    clear hb3
    go_wp2_with fail
    go_ret
    exact ⟨rfl, hbw⟩
  have D2 := hide (decide_eq_true m2)
  rcases under_cases l0 t r with ⟨ha, hmi, hm, hu⟩ | ⟨er, her, hu⟩
  rotate_left
  · have HU := hide hu
    clear hu m2
    go_enter Try.func9, Try.ntmps9
    go_wp2_with fail
    obtain ⟨w1, hw1, k0, k1, hs1, hb1⟩ := one_box w (.int .u32 t) (.int .u8 r) 25
    simp only [hw1]
    clear hw1
    replace hr0 := RR.below' hr0 hb1
    replace hr2 := RR.below' hr2 hb1
    have hbw := hb1
    clear hb1
    refine (palive_ok w1).mono ?_
    rintro e w2 ⟨rfl, hb2⟩
    replace hr0 := RR.below' hr0 hb2
    replace hr2 := RR.below' hr2 hb2
    replace k0 := keep_cell hb2 hs1 k0
    replace k1 := keep_cell hb2 hs1 k1
    replace hs1 := Nat.lt_of_lt_of_le hs1 hb2.size
    replace hbw := fresh hbw hb2
    clear hb2
    go_wp2_with fail
    refine (lmay_at A2 _ c2 l2 _ _ hr2 rfl (by omega) Ok2.out D2.out).mono ?_
    rintro e w3 ⟨rfl, hb3⟩
    replace hr0 := RR.below' hr0 hb3
    replace hr2 := RR.below' hr2 hb3
    replace k0 := keep_cell hb3 hs1 k0
    replace k1 := keep_cell hb3 hs1 k1
    replace hs1 := Nat.lt_of_lt_of_le hs1 hb3.size
    replace hbw := fresh hbw hb3
    clear hb3
    go_wp2_with fail
    refine (punder_any A0 _ c0 l0 t r _ hr0 rfl (by omega) N0.out Ok0.out i1 i2 i3 i4).mono ?_
    rw [HU.out]
    rintro e w4 ⟨A4, c4, g4, rfl, S4, hA4, hb4⟩
    replace hr0 := RR.below' hr0 hb4
    replace hr2 := RR.below' hr2 hb4
    replace k0 := keep_cell hb4 hs1 k0
    replace k1 := keep_cell hb4 hs1 k1
    replace hs1 := Nat.lt_of_lt_of_le hs1 hb4.size
    replace hbw := fresh hbw hb4
    clear hb4
    go_wp2_with fail
    go_ret
    exact ⟨rfl, hbw⟩
  have CF := hide (child_facts ha m2 hm Ok2.out)
  obtain ⟨f1, f2, f3⟩ := child_first ha hm
  have f4 := lastR_more ha hm
  have f5 : chkR (moreR l0 t r) = 0 := if_pos hm
  have f6 := okR_more Ok0.out Hi.out hm
  have f7 := hm.2.1
  generalize moreR l0 t r = C at CF f1 f2 f3 f4 f5 f6 f7 hm hu
  have HU := hide hu
  have F1 := hide f1
  have F2 := hide f2
  have F3 := hide f3
  have F4 := hide f4
  have F5 := hide f5
  have F6 := hide f6
  have HM := hide hm
  clear hu f1 f2 f3 f4 f5 f6 hm ha m2 hmi
  go_enter Try.func9, Try.ntmps9
  go_wp2_with fail
  obtain ⟨w1, hw1, k0, k1, hs1, hb1⟩ := one_box w (.int .u32 t) (.int .u8 r) 25
  simp only [hw1]
  clear hw1
  replace hr0 := RR.below' hr0 hb1
  replace hr2 := RR.below' hr2 hb1
  have hbw := hb1
  clear hb1
  refine (palive_ok w1).mono ?_
  rintro e w2 ⟨rfl, hb2⟩
  replace hr0 := RR.below' hr0 hb2
  replace hr2 := RR.below' hr2 hb2
  replace k0 := keep_cell hb2 hs1 k0
  replace k1 := keep_cell hb2 hs1 k1
  replace hs1 := Nat.lt_of_lt_of_le hs1 hb2.size
  replace hbw := fresh hbw hb2
  clear hb2
  go_wp2_with fail
  refine (lmay_at A2 _ c2 l2 _ _ hr2 rfl (by omega) Ok2.out D2.out).mono ?_
  rintro e w3 ⟨rfl, hb3⟩
  replace hr0 := RR.below' hr0 hb3
  replace hr2 := RR.below' hr2 hb3
  replace k0 := keep_cell hb3 hs1 k0
  replace k1 := keep_cell hb3 hs1 k1
  replace hs1 := Nat.lt_of_lt_of_le hs1 hb3.size
  replace hbw := fresh hbw hb3
  clear hb3
  go_wp2_with fail
  refine (punder_any A0 _ c0 l0 t r _ hr0 rfl (by omega) N0.out Ok0.out i1 i2 i3 i4).mono ?_
  rw [HU.out]
  rintro e w4 ⟨Ac, cc, gc, rfl, Sc, hAc, hb4⟩
  replace hr0 := RR.below' hr0 hb4
  replace hr2 := RR.below' hr2 hb4
  replace k0 := keep_cell hb4 hs1 k0
  replace k1 := keep_cell hb4 hs1 k1
  replace hs1 := Nat.lt_of_lt_of_le hs1 hb4.size
  replace hbw := fresh hbw hb4
  clear hb4
  have hrc : RR w4 w4.heap.size Ac C := SB.rr Sc
  have NC := hide hAc
  clear Sc hAc
  have past0 : ∀ W, RR (past w4 W) (past w4 W).heap.size A0 l0 := fun W => RR.below' hr0 (below_past _ W)
  have pastc : ∀ W, RR (past w4 W) (past w4 W).heap.size Ac C := fun W => RR.below' hrc (below_past _ W)
  have D1 := hide (fun W => cmp_at A0 Ac _ _ c0 cc l0 C (-1) (past w4 W) (past0 W) (pastc W) rfl rfl (by omega) (by omega) N0.out NC.out Ok0.out F6.out F1.out)
  have E2 := hide (fun W => begin_at A0 Ac _ _ c0 cc l0 C true (past w4 W) (past0 W) (pastc W) rfl rfl (by omega) (by omega) N0.out NC.out Ok0.out F6.out F2.out)
  have E3 := hide (fun W => begin_at Ac A0 _ _ cc c0 C l0 false (past w4 W) (pastc W) (past0 W) rfl rfl (by omega) (by omega) NC.out N0.out F6.out Ok0.out F3.out)
  have E4 := hide (fun W => last_at Ac _ cc C t r (past w4 W) (pastc W) rfl (by omega) F6.out F4.out)
  have E5 := hide (fun W => check_at Ac _ cc C 0 (past w4 W) (pastc W) rfl (by omega) F6.out F5.out)
  clear past0 pastc
  go_wp2_with fail
  refine wp_region_past (by kernel_rfl) (by kernel_rfl) ?_
  repeat (quiet_step ((first
    | (go_at_call 41; with_reducible exact past_call (unhide D1 _))
    | (go_at_call 43; with_reducible exact past_call (unhide E2 _))
    | (go_at_call 43; with_reducible exact past_call (unhide E3 _))
    | (go_at_call 28; with_reducible exact past_call (unhide E4 _))
    | (go_at_call 32; with_reducible exact past_call (unhide E5 _)))))
  refine wpQuiet_nil ?_
  intro w5 hw5
  obtain ⟨u, rfl⟩ := hw5
  have hbp := below_past w4 u
  replace hr0 := RR.below' hr0 hbp
  replace hr2 := RR.below' hr2 hbp
  replace hrc := RR.below' hrc hbp
  replace k0 := keep_cell hbp hs1 k0
  replace k1 := keep_cell hbp hs1 k1
  replace hs1 := Nat.lt_of_lt_of_le hs1 hbp.size
  replace hbw := fresh hbw hbp
  generalize past w4 u = w5 at hr0 hr2 hrc k0 k1 hs1 hbw ⊢
  clear hbp D1 E2 E3 E4 E5
  rcases CF.out with hz | ⟨hz, hb1, hz2⟩ | ⟨hz, hb1, j, hj, hg, hl1, hl2, hqm, hiff⟩
  · obtain ⟨z, hz1⟩ : ∃ z, cmpR l0 l2 = z := ⟨_, rfl⟩
    have Z := hide hz1
    rw [hz1] at hz
    clear hz1
    go_wp2_with fail
    refine (cmp_at A0 A2 _ _ c0 c2 l0 l2 z _ hr0 hr2 rfl rfl (by omega) (by omega) N0.out N2.out Ok0.out Ok2.out Z.out).mono ?_
    rintro e w6 ⟨rfl, hb6⟩
    replace hr0 := RR.below' hr0 hb6
    replace hr2 := RR.below' hr2 hb6
    replace hrc := RR.below' hrc hb6
    replace k0 := keep_cell hb6 hs1 k0
    replace k1 := keep_cell hb6 hs1 k1
    replace hs1 := Nat.lt_of_lt_of_le hs1 hb6.size
    replace hbw := fresh hbw hb6
    clear hb6
    go_wp2_with fail
    go_ret
    exact ⟨rfl, hbw⟩
  · have Z := hide hz
    have B := hide hb1
    have Z2 := hide hz2
    clear hz hb1 hz2
    go_wp2_with fail
    refine (cmp_at A0 A2 _ _ c0 c2 l0 l2 (-1) _ hr0 hr2 rfl rfl (by omega) (by omega) N0.out N2.out Ok0.out Ok2.out Z.out).mono ?_
    rintro e w6 ⟨rfl, hb6⟩
    replace hr0 := RR.below' hr0 hb6
    replace hr2 := RR.below' hr2 hb6
    replace hrc := RR.below' hrc hb6
    replace k0 := keep_cell hb6 hs1 k0
    replace k1 := keep_cell hb6 hs1 k1
    replace hs1 := Nat.lt_of_lt_of_le hs1 hb6.size
    replace hbw := fresh hbw hb6
    clear hb6
    go_wp2_with fail
    refine (begin_at A0 A2 _ _ c0 c2 l0 l2 false _ hr0 hr2 rfl rfl (by omega) (by omega) N0.out N2.out Ok0.out Ok2.out B.out).mono ?_
    rintro e w7 ⟨rfl, hb7⟩
    replace hr0 := RR.below' hr0 hb7
    replace hr2 := RR.below' hr2 hb7
    replace hrc := RR.below' hrc hb7
    replace k0 := keep_cell hb7 hs1 k0
    replace k1 := keep_cell hb7 hs1 k1
    replace hs1 := Nat.lt_of_lt_of_le hs1 hb7.size
    replace hbw := fresh hbw hb7
    clear hb7
    go_wp2_with fail
    refine (cmp_at Ac A2 _ _ cc c2 C l2 (-1) _ hrc hr2 rfl rfl (by omega) (by omega) NC.out N2.out F6.out Ok2.out Z2.out).mono ?_
    rintro e w8 ⟨rfl, hb8⟩
    replace hr0 := RR.below' hr0 hb8
    replace hr2 := RR.below' hr2 hb8
    replace hrc := RR.below' hrc hb8
    replace k0 := keep_cell hb8 hs1 k0
    replace k1 := keep_cell hb8 hs1 k1
    replace hs1 := Nat.lt_of_lt_of_le hs1 hb8.size
    replace hbw := fresh hbw hb8
    clear hb8
    go_wp2_with fail
    refine (cmp_at A0 A2 _ _ c0 c2 l0 l2 (-1) _ hr0 hr2 rfl rfl (by omega) (by omega) N0.out N2.out Ok0.out Ok2.out Z.out).mono ?_
    rintro e w9 ⟨rfl, hb9⟩
    replace hr0 := RR.below' hr0 hb9
    replace hr2 := RR.below' hr2 hb9
    replace hrc := RR.below' hrc hb9
    replace k0 := keep_cell hb9 hs1 k0
    replace k1 := keep_cell hb9 hs1 k1
    replace hs1 := Nat.lt_of_lt_of_le hs1 hb9.size
    replace hbw := fresh hbw hb9
    clear hb9
    go_wp2_with fail
    go_ret
    exact ⟨rfl, hbw⟩
  · have Z := hide hz
    have B := hide hb1
    have HQ := hide hqm
    have IFF := hide hiff
    clear hz hb1 hqm hiff
    go_wp2_with fail
    refine (cmp_at A0 A2 _ _ c0 c2 l0 l2 (-1) _ hr0 hr2 rfl rfl (by omega) (by omega) N0.out N2.out Ok0.out Ok2.out Z.out).mono ?_
    rintro e w6 ⟨rfl, hb6⟩
    replace hr0 := RR.below' hr0 hb6
    replace hr2 := RR.below' hr2 hb6
    replace hrc := RR.below' hrc hb6
    replace k0 := keep_cell hb6 hs1 k0
    replace k1 := keep_cell hb6 hs1 k1
    replace hs1 := Nat.lt_of_lt_of_le hs1 hb6.size
    replace hbw := fresh hbw hb6
    clear hb6
    go_wp2_with fail
    refine (begin_at A0 A2 _ _ c0 c2 l0 l2 true _ hr0 hr2 rfl rfl (by omega) (by omega) N0.out N2.out Ok0.out Ok2.out B.out).mono ?_
    rintro e w7 ⟨rfl, hb7⟩
    replace hr0 := RR.below' hr0 hb7
    replace hr2 := RR.below' hr2 hb7
    replace hrc := RR.below' hrc hb7
    replace k0 := keep_cell hb7 hs1 k0
    replace k1 := keep_cell hb7 hs1 k1
    replace hs1 := Nat.lt_of_lt_of_le hs1 hb7.size
    replace hbw := fresh hbw hb7
    clear hb7
    go_wp2_with fail
    refine (ids_at A2 _ c2 l2 _ hr2 rfl (by omega) Ok2.out HQ.out).mono ?_
    rintro e w8 ⟨A8, c8, rfl, hi8, hb8⟩
    replace hr0 := RR.below' hr0 hb8
    replace hr2 := RR.below' hr2 hb8
    replace hrc := RR.below' hrc hb8
    replace k0 := keep_cell hb8 hs1 k0
    replace k1 := keep_cell hb8 hs1 k1
    replace hs1 := Nat.lt_of_lt_of_le hs1 hb8.size
    replace hbw := fresh hbw hb8
    clear hb8
    go_wp2_with fail
    refine (ids_at Ac _ cc C _ hrc rfl (by omega) F6.out HM.out).mono ?_
    rintro e w9 ⟨A9, c9, rfl, hi9, hb9⟩
    replace hr0 := RR.below' hr0 hb9
    replace hr2 := RR.below' hr2 hb9
    replace hrc := RR.below' hrc hb9
    replace hi8 := RI.below' hi8 hb9
    replace k0 := keep_cell hb9 hs1 k0
    replace k1 := keep_cell hb9 hs1 k1
    replace hs1 := Nat.lt_of_lt_of_le hs1 hb9.size
    replace hbw := fresh hbw hb9
    clear hb9
    have hlt : (allR C).length - 1 < (allR l2).length := by omega
    obtain ⟨b8, o8, rfl, hB8, hC8⟩ := RI.cell hi8 (by omega)
    obtain ⟨y0, y1⟩ := hC8 _ hlt
    have hjj : (allR l2)[(allR C).length - 1] = j := by rw [List.getElem?_eq_getElem hlt] at hg; exact Option.some.inj hg
    rw [hjj] at y0 y1
    clear hC8 hjj hg hi8 hi9
    obtain ⟨jt, jr⟩ := j
    obtain ⟨j1, j2, j3, j4⟩ := hj
    simp only at j1 j2 j3 j4 y0 y1
    have hnc : ((allR C).length : Int) ≤ 4096 := by
      rw [allR_long (fun x hx => by have := (chainR_mem HM.out.2.2.1 x hx).2.2.2.1; omega)]
      exact HM.out.2.2.2
    generalize (allR C).length = nc at hnc hl1 hl2 hlt y0 y1 ⊢
    generalize (allR l2).length = nq at hl2 hlt ⊢
    have z0 : (0 : Int) ≤ (nc : Int) - 1 := by omega
    have z1 : (nc : Int) - 1 < nq := by omega
    have z2 : ((nc : Int) - 1).toNat = nc - 1 := by omega
    have zw : IntKind.i64.wrap ((nc : Int) - 1) = (nc : Int) - 1 := IntWalk.i64_in _ (by omega)
    have z3 : ¬ (nc : Int) < 1 := by omega
    have z4 : ¬ (nq : Int) < nc := by omega
    obtain ⟨bb, hbb⟩ : ∃ bb, lessB t r jt jr = bb := ⟨_, rfl⟩
    have L := hide (fun w => hbb ▸ less_any t r jt jr w i1 i2 i3 (by omega) j1 j2 j3 (by omega))
    obtain ⟨z, hz⟩ : ∃ z, cmpR C l2 = z := ⟨_, rfl⟩
    have hzb := hide (show (z == 1) = bb by
      rw [← hbb, ← hz]
      unfold lessB
      have := IFF.out
      unfold ltI at this
      simp only at this
      rw [Bool.eq_iff_iff, beq_iff_eq, decide_eq_true_eq]
      exact this)
    have Z2 := hide hz
    clear hbb hz IFF
    go_wp2_with fail
    refine wp_region_past (by kernel_rfl) (by kernel_rfl) ?_
    repeat (quiet_step ((go_at_call 50; exact past_call (unhide L _))))
    refine wpQuiet_nil ?_
    intro w10 hw10
    obtain ⟨u2, rfl⟩ := hw10
    have hbp := below_past w9 u2
    replace hr0 := RR.below' hr0 hbp
    replace hr2 := RR.below' hr2 hbp
    replace hrc := RR.below' hrc hbp
    replace k0 := keep_cell hbp hs1 k0
    replace k1 := keep_cell hbp hs1 k1
    replace hs1 := Nat.lt_of_lt_of_le hs1 hbp.size
    replace hbw := fresh hbw hbp
    generalize past w9 u2 = w10 at hr0 hr2 hrc k0 k1 hs1 hbw ⊢
    clear hbp y0 y1 L z0 z1 z2 z3 z4 zw
    go_wp2_with fail
    refine (cmp_at Ac A2 _ _ cc c2 C l2 z _ hrc hr2 rfl rfl (by omega) (by omega) NC.out N2.out F6.out Ok2.out Z2.out).mono ?_
    rintro e w11 ⟨rfl, hb11⟩
    replace hr0 := RR.below' hr0 hb11
    replace hr2 := RR.below' hr2 hb11
    replace hrc := RR.below' hrc hb11
    replace k0 := keep_cell hb11 hs1 k0
    replace k1 := keep_cell hb11 hs1 k1
    replace hs1 := Nat.lt_of_lt_of_le hs1 hb11.size
    replace hbw := fresh hbw hb11
    clear hb11
    have hzb2 := hzb.out
    go_wp2_with fail
    go_ret
    exact ⟨rfl, hbw⟩
end Go.Proofs.Ytbjfmkdjnglgbaa
