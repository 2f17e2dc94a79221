/-
  PlaceTells: places, and how two are held against each other, are the document's. Condition: parts of their types.
-/
import Derived.Test.YtbjfmkdjnglgbaaPlaceRefHeld
import Derived.Test.YtbjfmkdjnglgbaaPlaceUnderLaw
namespace Go.Proofs.Ytbjfmkdjnglgbaa
open Go.RowKit

theorem any_len {p : List Rn} (h : anyR p) : p.length ≤ 64 := by
  rcases h with rfl | h
  · simp
  · exact h.2.1
theorem any_parts {p : List Rn} (h : anyR p) (ho : ∀ x ∈ p, okR x) : ∀ x ∈ p, oneR x ∧ okR x := fun x hx => ⟨any_one h x hx, ho x hx⟩

set_option maxHeartbeats 1600000 in
set_option maxRecDepth 100000 in
theorem refcompare_any (A B : Option Addr) (n k c d : Nat) (a b : List Rn) (w : World) (hr : RR w w.heap.size A a) (hs : RR w w.heap.size B b) (hn : a.length = n) (hk : b.length = k) (hnc : n ≤ c) (hkd : k ≤ d)
    (ha : ∀ x ∈ a, okR x) (hb : ∀ x ∈ b, okR x) :
    Calls Try.prog 42 #[.slice A n c, .slice B k d] w fun e w' => e = .returned (.int .i64 (cmpR a b)) ∧ Below w.heap.size w w' := by
  have M1 := hide (fun W h => refany_any A n c a W h hn ha)
  have M2 := hide (fun W h => refany_any B k d b W h hk hb)
  by_cases h1 : anyR a
  · rw [decide_eq_true h1] at M1
    by_cases h2 : anyR b
    · rw [decide_eq_true h2] at M2
      have hv := hide (show cmpR a b = cmpS (allR a) (allR b) from if_pos ⟨h1, h2⟩)
      have H := hide (fun W h g => refheld_ok A B n k c d a b W h g hn hk hnc hkd (by have := any_len h1; omega) (by have := any_len h2; omega) (any_parts h1 ha) (any_parts h2 hb))
      clear h1 h2 ha hb
      go_enter Try.func42, Try.ntmps42
      go_wp2_with fail
      refine (unhide M1 w hr).mono ?_
      rintro e w1 ⟨rfl, hb1⟩
      go_wp2_with fail
      refine (unhide M2 w1 (hs.below' hb1)).mono ?_
      rintro e w2 ⟨rfl, hb2⟩
      have hb02 := fresh hb1 hb2
      go_wp2_with fail
      refine (unhide H w2 (hr.below' hb02) (hs.below' hb02)).mono ?_
      rintro e w3 ⟨rfl, hb3⟩
      go_wp2_with fail
      go_ret
      exact ⟨ret_int hv.out.symm, fresh hb02 hb3⟩
    · rw [decide_eq_false h2] at M2
      have hv := hide (show cmpR a b = 0 from if_neg fun h => h2 h.2)
      clear h1 h2 ha hb
      go_enter Try.func42, Try.ntmps42
      go_wp2_with fail
      refine (unhide M1 w hr).mono ?_
      rintro e w1 ⟨rfl, hb1⟩
      go_wp2_with fail
      refine (unhide M2 w1 (hs.below' hb1)).mono ?_
      rintro e w2 ⟨rfl, hb2⟩
      go_wp2_with fail
      go_ret
      exact ⟨ret_int hv.out.symm, fresh hb1 hb2⟩
  · rw [decide_eq_false h1] at M1
    have hv := hide (show cmpR a b = 0 from if_neg fun h => h1 h.1)
    clear h1 ha hb
    go_enter Try.func42, Try.ntmps42
    go_wp2_with fail
    refine (unhide M1 w hr).mono ?_
    rintro e w1 ⟨rfl, hb1⟩
    go_wp2_with fail
    go_ret
    exact ⟨ret_int hv.out.symm, hb1⟩

set_option maxHeartbeats 1600000 in
set_option maxRecDepth 100000 in
theorem refbegins_any (A B : Option Addr) (n k c d : Nat) (a b : List Rn) (w : World) (hr : RR w w.heap.size A a) (hs : RR w w.heap.size B b) (hn : a.length = n) (hk : b.length = k) (hnc : n ≤ c) (hkd : k ≤ d)
    (ha : ∀ x ∈ a, okR x) (hb : ∀ x ∈ b, okR x) :
    Calls Try.prog 44 #[.slice A n c, .slice B k d] w fun e w' => e = .returned (.bool (begR a b)) ∧ Below w.heap.size w w' := by
  have M1 := hide (fun W h => refany_any A n c a W h hn ha)
  have M2 := hide (fun W h => refany_any B k d b W h hk hb)
  by_cases h1 : anyR a
  · rw [decide_eq_true h1] at M1
    by_cases h2 : anyR b
    · rw [decide_eq_true h2] at M2
      have hv := hide (show begR a b = (allR a).isPrefixOf (allR b) by
        unfold begR
        cases hx : (allR a).isPrefixOf (allR b)
        · exact decide_eq_false fun h => by simp at h
        · exact decide_eq_true ⟨h1, h2, rfl⟩)
      have H := hide (fun W h g => reffirst_ok A B n k c d a b W h g hn hk hnc hkd (by have := any_len h1; omega) (by have := any_len h2; omega) (any_parts h1 ha) (any_parts h2 hb))
      clear h1 h2 ha hb
      go_enter Try.func44, Try.ntmps44
      go_wp2_with fail
      refine (unhide M1 w hr).mono ?_
      rintro e w1 ⟨rfl, hb1⟩
      go_wp2_with fail
      refine (unhide M2 w1 (hs.below' hb1)).mono ?_
      rintro e w2 ⟨rfl, hb2⟩
      have hb02 := fresh hb1 hb2
      go_wp2_with fail
      refine (unhide H w2 (hr.below' hb02) (hs.below' hb02)).mono ?_
      rintro e w3 ⟨rfl, hb3⟩
      go_wp2_with fail
      go_ret
      exact ⟨ret_bool hv.out.symm, fresh hb02 hb3⟩
    · rw [decide_eq_false h2] at M2
      have hv := hide (show begR a b = false from decide_eq_false fun h => h2 h.2.1)
      clear h1 h2 ha hb
      go_enter Try.func44, Try.ntmps44
      go_wp2_with fail
      refine (unhide M1 w hr).mono ?_
      rintro e w1 ⟨rfl, hb1⟩
      go_wp2_with fail
      refine (unhide M2 w1 (hs.below' hb1)).mono ?_
      rintro e w2 ⟨rfl, hb2⟩
      go_wp2_with fail
      go_ret
      exact ⟨ret_bool hv.out.symm, fresh hb1 hb2⟩
  · rw [decide_eq_false h1] at M1
    have hv := hide (show begR a b = false from decide_eq_false fun h => h1 h.1)
    clear h1 ha hb
    go_enter Try.func44, Try.ntmps44
    go_wp2_with fail
    refine (unhide M1 w hr).mono ?_
    rintro e w1 ⟨rfl, hb1⟩
    go_wp2_with fail
    go_ret
    exact ⟨ret_bool hv.out.symm, hb1⟩

set_option maxHeartbeats 6400000 in
set_option maxRecDepth 100000 in
theorem placeTells_walk (A0 A1 : Option Addr) (c0 c1 : Nat) (l0 l1 : List Rn) (w : World) (hr0 : RR w w.heap.size A0 l0) (hr1 : RR w w.heap.size A1 l1) (hc0 : l0.length ≤ c0) (hc1 : l1.length ≤ c1) (ok0 : ∀ x ∈ l0, okR x) (ok1 : ∀ x ∈ l1, okR x) :
    Calls Try.prog 6 #[.slice A0 l0.length c0, .slice A1 l1.length c1] w fun e w' => e = .returned (.bool true) ∧ Below w.heap.size w w' := by
  by_cases hl0 : (300 : Int) < l0.length
  · go_enter Try.func6, Try.ntmps6
    go_wp2_with fail
    go_ret
    exact ⟨rfl, Below.refl _ _⟩
  by_cases hl1 : (300 : Int) < l1.length
  · go_enter Try.func6, Try.ntmps6
    go_wp2_with fail
    go_ret
    exact ⟨rfl, Below.refl _ _⟩
  have T0 := hide (reftwin_any A0 l0.length c0 l0 w hr0 rfl (by omega))
  have T1 := hide (fun W h => reftwin_any A1 l1.length c1 l1 W h rfl (by omega))
  have K0 := hide (fun W h => refcheck_any A0 l0.length c0 l0 W h rfl ok0)
  have CC := hide (fun W h g => refcompare_any A0 A1 l0.length l1.length c0 c1 l0 l1 W h g rfl rfl hc0 hc1 ok0 ok1)
  have BB := hide (fun W h g => refbegins_any A0 A1 l0.length l1.length c0 c1 l0 l1 W h g rfl rfl hc0 hc1 ok0 ok1)
  have SS := hide (fun W h g => refsame_any A0 A1 c0 c1 l0.length l1.length l0 l1 W h g rfl rfl (by omega) (by omega))
  have Ok0 := hide ok0
  have Ok1 := hide ok1
  clear ok0 ok1
  go_enter Try.func6, Try.ntmps6
  go_wp2_with fail
  refine T0.out.mono ?_
  rintro e w1 ⟨v5, rfl, hown5, hb1⟩
  have hr5 : ∃ A5 c5, v5 = .slice A5 l0.length c5 ∧ (A5 = none → c5 = 0) ∧ RR w1 w1.heap.size A5 l0 := by
    obtain ⟨A5, c5, rfl, -, -, -⟩ := own_slice hown5
    exact ⟨A5, c5, rfl, own_nil hown5, RR.of_own hown5 rfl⟩
  obtain ⟨A5, c5, rfl, hn5, hr5⟩ := hr5
  clear hown5
  go_wp2_with fail
  refine (unhide T1 w1 (hr1.below' hb1)).mono ?_
  rintro e w2 ⟨v6, rfl, hown6, hb2⟩
  have hb02 := fresh hb1 hb2
  have hr6 : ∃ A6 c6, v6 = .slice A6 l1.length c6 ∧ (A6 = none → c6 = 0) ∧ RR w2 w2.heap.size A6 l1 := by
    obtain ⟨A5, c5, rfl, -, -, -⟩ := own_slice hown6
    exact ⟨A5, c5, rfl, own_nil hown6, RR.of_own hown6 rfl⟩
  obtain ⟨A6, c6, rfl, hn6, hr6⟩ := hr6
  clear hown6
  have hr52 := hr5.below' hb2
  have T7 := hide (ptwin_any A5 l0.length c5 l0 w2 hr52 rfl (by omega) hn5)
  go_wp2_with fail
  refine T7.out.mono ?_
  rintro e w3 ⟨v7, rfl, hown7, hb3⟩
  have hb03 := fresh hb02 hb3
  obtain ⟨A7, c7, rfl, hc7, -, -⟩ := own_slice hown7
  obtain ⟨g7, S7, -⟩ := own_SB hown7 rfl hc7
  clear hown7
  -- the comparisons
  have P1 := hide (fun W h => pcheck_any A5 l0.length c5 l0 W h rfl (by omega) Ok0.out)
  have P2 := hide (fun W h g => pcompare_any A5 A6 l0.length l1.length c5 c6 l0 l1 W h g rfl rfl (by omega) (by omega) hn5 hn6 Ok0.out Ok1.out)
  have P3 := hide (fun W h g => pbegins_any A5 A6 l0.length l1.length c5 c6 l0 l1 W h g rfl rfl (by omega) (by omega) hn5 hn6 Ok0.out Ok1.out)
  have P4 := hide (fun W h g => psame_any A5 A6 c5 c6 l0.length l1.length l0 l1 W h g rfl rfl (by omega) (by omega))
  have P5 := hide (fun W h g => psame_any A5 A0 c5 c0 l0.length l0.length l0 l0 W h g rfl rfl (by omega) (by omega))
  have P6 := hide (fun W h g => refsame_any A7 A0 c7 c0 l0.length l0.length l0 l0 W h g rfl rfl (by omega) (by omega))
  rw [decide_eq_true rfl] at P5 P6
  have R0 : ∀ W, Below w3.heap.size w3 W → RR W W.heap.size A0 l0 := fun W h => hr0.below' (fresh hb03 h)
  have R1 : ∀ W, Below w3.heap.size w3 W → RR W W.heap.size A1 l1 := fun W h => hr1.below' (fresh hb03 h)
  have R5 : ∀ W, Below w3.heap.size w3 W → RR W W.heap.size A5 l0 := fun W h => hr52.below' (fresh hb3 h)
  have R6 : ∀ W, Below w3.heap.size w3 W → RR W W.heap.size A6 l1 := fun W h => hr6.below' (fresh hb3 h)
  have HR := hide (And.intro R0 (And.intro R1 (And.intro R5 R6)))
  clear R0 R1 R5 R6 hn5 hn6
  have hq3 := Below.refl w3.heap.size w3
  go_wp2_with fail
  refine (unhide P1 w3 (HR.out.2.2.1 _ hq3)).mono ?_
  rintro e w4 ⟨rfl, hb4⟩
  replace hq3 := fresh hq3 hb4
  go_wp2_with fail
  refine (unhide K0 w4 (HR.out.1 _ hq3)).mono ?_
  rintro e w5 ⟨rfl, hb5⟩
  replace hq3 := fresh hq3 hb5
  go_wp2_with fail
  refine (unhide P2 w5 (HR.out.2.2.1 _ hq3) (HR.out.2.2.2 _ hq3)).mono ?_
  rintro e w6 ⟨rfl, hb6⟩
  replace hq3 := fresh hq3 hb6
  go_wp2_with fail
  refine (unhide CC w6 (HR.out.1 _ hq3) (HR.out.2.1 _ hq3)).mono ?_
  rintro e w7 ⟨rfl, hb7⟩
  replace hq3 := fresh hq3 hb7
  go_wp2_with fail
  refine (unhide P3 w7 (HR.out.2.2.1 _ hq3) (HR.out.2.2.2 _ hq3)).mono ?_
  rintro e w8 ⟨rfl, hb8⟩
  replace hq3 := fresh hq3 hb8
  go_wp2_with fail
  refine (unhide BB w8 (HR.out.1 _ hq3) (HR.out.2.1 _ hq3)).mono ?_
  rintro e w9 ⟨rfl, hb9⟩
  replace hq3 := fresh hq3 hb9
  go_wp2_with fail
  refine (unhide P4 w9 (HR.out.2.2.1 _ hq3) (HR.out.2.2.2 _ hq3)).mono ?_
  rintro e w10 ⟨rfl, hb10⟩
  replace hq3 := fresh hq3 hb10
  go_wp2_with fail
  refine (unhide SS w10 (HR.out.1 _ hq3) (HR.out.2.1 _ hq3)).mono ?_
  rintro e w11 ⟨rfl, hb11⟩
  replace hq3 := fresh hq3 hb11
  go_wp2_with fail
  refine (unhide P5 w11 (HR.out.2.2.1 _ hq3) (HR.out.1 _ hq3)).mono ?_
  rintro e w12 ⟨rfl, hb12⟩
  replace hq3 := fresh hq3 hb12
  go_wp2_with fail
  have S12 := S7.below hq3
  refine (unhide P6 w12 S12.rr (HR.out.1 _ hq3)).mono ?_
  rintro e w13 ⟨rfl, hb13⟩
  replace hq3 := fresh hq3 hb13
  have S13 := S12.below hb13
  have hb23 := fresh hb3 hq3
  clear S7 S12 hb4 hb5 hb6 hb7 hb8 hb9 hb10 hb11 hb12 hb13
  go_wp2_with fail
  obtain ⟨n7, hn7⟩ : ∃ n, n = l0.length := ⟨_, rfl⟩
  go_loopw [9] (fun i wr => ∃ (k : Nat) (L : List Rn), k ≤ l0.length ∧ i = .int .i64 (k : Int) ∧ L.length = n7 ∧ SB wr g7 w2.heap.size A7 L c7 ∧ Below w2.heap.size w2 wr) (fun i _ => l0.length - (intOf i).toNat)
  case atStart => exact ⟨0, l0, by omega, rfl, hn7.symm, S13, hb23⟩
  case round =>
    obtain ⟨k, L, hk, rfl, hL, S, hb⟩ := hrel
    clear S13
    by_cases hlt : k < l0.length
    · obtain ⟨hbg, off, cur, rfl, hgc, hcc⟩ := S.2 (by intro e; rw [e] at hL; simp at hL; omega)
      have hkL : k < L.length := by omega
      have z0 : (k : Int) < l0.length := by omega
      obtain ⟨m, hm⟩ : ∃ m, m = L[k].2.2 := ⟨_, rfl⟩
      have hx2 : wr.cell? ⟨g7, off + k * 3 + 2, none⟩ = some (.int .i64 m) := by
        rw [Nat.add_assoc, cell_of_row _ _ _ _ _ _ hgc, hm]
        exact hcc _ _ (rns_get L k hkL).2.2
      have hz := frozen_of_row wr g7 (off + k * 3 + 2) cur _ hgc
      have S' := hide (S.many k hkL (-7))
      have hb' := hb.setCell (p := ⟨g7, off + k * 3 + 2, none⟩) hbg (.int .i64 (-7))
      have hL' := hide (show (L.set k (L[k].1, L[k].2.1, -7)).length = n7 by simpa using hL)
      clear hcc hgc hm S hL
      go_wp2_with fail
      go_roundw
      case rel => exact ⟨k + 1, _, by omega, by go_num, hL'.out, S'.out, hb'⟩
      case measure => simp [intOf]; omega
    · have hz : ¬ (k : Int) < l0.length := by omega
      have hb0 : Below w.heap.size w wr := hb02.trans (hb.mono hb02.size)
      have E3 := hide (refsame_any A5 A0 c5 c0 l0.length l0.length l0 l0 wr (hr52.below' hb) (hr0.below' hb0) rfl rfl (by omega) (by omega))
      have E4 := hide (fun W h g => refsame_any A6 A1 c6 c1 l1.length l1.length l1 l1 W h g rfl rfl (by omega) (by omega))
      rw [decide_eq_true rfl] at E3 E4
      clear S
      go_wp2_with fail
      refine (unhide E3).mono ?_
      rintro e w14 ⟨rfl, hb14⟩
      go_wp2_with fail
      refine (unhide E4 w14 (hr6.below' (fresh hb hb14)) (hr1.below' (fresh hb0 hb14))).mono ?_
      rintro e w15 ⟨rfl, hb15⟩
      go_wp2_with fail
      go_ret
      exact ⟨rfl, fresh (fresh hb0 hb14) hb15⟩
end Go.Proofs.Ytbjfmkdjnglgbaa
