/-
  OpNeeds: operations that may not be. Condition: parts of their types.
-/
import Derived.Test.YtbjfmkdjnglgbaaOpNeedsMath
import Derived.Test.YtbjfmkdjnglgbaaOpAlive
import Derived.Test.YtbjfmkdjnglgbaaOpTwin
import Derived.Test.YtbjfmkdjnglgbaaPlaceIdsLaw
namespace Go.Proofs.Ytbjfmkdjnglgbaa
open Go.RowKit

set_option maxHeartbeats 1600000 in
set_option maxRecDepth 100000 in
theorem opneeds_cap (k t r z : Int) (A : Option Addr) (n c : Nat) (p : List Rn) (w : World) (hr : RR w w.heap.size A p) (hn : p.length = n) (hl : n < 1073741824) (hok : ∀ x ∈ p, okR x) (k0 : 0 ≤ k) :
    Calls Try.prog 52 #[opv k t r A n c z] w fun e w' => ∃ A' c', e = .returned (.tuple #[.slice A' (needsO k t r p z).length c', .int .i64 (chkO k t r p z)]) ∧ RI w' w'.heap.size A' (needsO k t r p z) ∧ (needsO k t r p z).length ≤ c' ∧ Below w.heap.size w w' := by
  obtain ⟨w1, hw1, c0, c1, c2, c3, c4, hs1, hb1⟩ := five_box w (.int .u8 k) (.int .u32 t) (.int .u8 r) (.slice A n c) (.int .i64 z) 47
  have hE := hide (opcheck_any k t r z A n c p w1 (hr.below' hb1) hn hl hok k0)
  by_cases hm : mayO k t r p z
  · rw [show chkO k t r p z = 0 from if_pos hm] at hE
    have hN : needsO k t r p z = if k = 1 ∨ k = 2 then (allR p).dropLast else allR p := if_pos hm
    have hC : chkO k t r p z = 0 := if_pos hm
    rw [hC]
    have hmp := hm.2.1
    have hI : idsR p = allR p := if_pos hmp
    have hK : chkR p = 0 := if_pos hmp
    have hlong := allR_long (p := p) (fun x hx => by have := (chainR_mem hmp.2.2.1 x hx).2.2.2.1; omega)
    have hle := hmp.2.2.2
    have hpos : 1 ≤ (allR p).length := by
      obtain ⟨x, q, hxq⟩ : ∃ x q, p = x :: q := by
        cases p with
        | nil => have := hmp.1; simp at this
        | cons x q => exact ⟨x, q, rfl⟩
      rw [hxq, allR_cons, List.length_append, ofR_len]
      have := (chainR_mem hmp.2.2.1 x (by rw [hxq]; exact List.mem_cons_self)).2.2.2.1
      omega
    have Hm := hide (And.intro hN (And.intro hlong (And.intro hle hpos)))
    clear hm hN hlong hle hpos hmp
    go_enter Try.func52, Try.ntmps52
    go_wp2_with fail
    refine hE.out.mono ?_
    rintro e w2 ⟨rfl, hb2⟩
    have hb := fresh hb1 hb2
    have d0 := keep_cell hb2 hs1 c0
    have d3 := keep_cell hb2 hs1 c3
    have hsz2 := Nat.lt_of_lt_of_le hs1 hb2.size
    clear c0 c1 c2 c3 c4 hE
    have hP := hide (pids_any A n c p w2 (hr.below' hb) hn hl hok)
    rw [hI, hK] at hP
    go_wp2_with fail
    refine hP.out.mono ?_
    rintro e w3 ⟨v, rfl, hown, hb3⟩
    have hbb := fresh hb hb3
    have e0 := keep_cell hb3 hsz2 d0
    clear d0 d3
    obtain ⟨g, cap, cur, rfl, hbg, hg, hncap, hcap, hcs, htk⟩ : ∃ g cap cur, v = .slice (some ⟨g, 0, none⟩) (allR p).length cap ∧ w2.heap.size ≤ g ∧ w3.heap[g]? = some (.cells cur 25 (0, 0)) ∧ (allR p).length ≤ cap ∧ cap ≤ maxLen ∧ cur.size = cap * 2 ∧ cur.toList.take ((allR p).length * 2) = ids (allR p) := by
      rcases hown.2 with ⟨-, h0⟩ | h
      · have := Hm.out.2.2.2; omega
      · exact h
    have hri : RI w3 w3.heap.size (some ⟨g, 0, none⟩) (allR p) := RI.of_own hown rfl
    have z1 : (1 : Int) ≤ (allR p).length := by have := Hm.out.2.2.2; omega
    have z2 : ((allR p).length : Int) ≤ 4096 := by have := Hm.out.2.1; have := Hm.out.2.2.1; omega
    have z3 : (0 : Int) ≤ ((allR p).length : Int) - 1 := by omega
    have z4 : ((allR p).length : Int) - 1 ≤ cap := by omega
    have z5 : (((allR p).length : Int) - 1).toNat = (allR p).length - 1 := by omega
    by_cases hk : k = 1 ∨ k = 2
    · have hN' : needsO k t r p z = (allR p).dropLast := by rw [Hm.out.1, if_pos hk]
      have hdl : (allR p).dropLast = (allR p).take ((allR p).length - 1) := List.dropLast_eq_take
      have hlen : ((allR p).dropLast).length = (allR p).length - 1 := by simp
      rcases hk with rfl | rfl
      all_goals
        go_wp2_with fail
        refine bodyPost_ret (v := .tuple #[.slice (some ⟨g, 0, none⟩) ((allR p).length - 1) cap, .int .i64 0]) (by simp [results, Try.results52, go_sem]) rfl ?_
        exact ⟨_, cap, by rw [hN', hlen], by rw [hN', hdl]; exact hri.take _, by rw [hN', hlen]; omega, hbb⟩
    · have hN' : needsO k t r p z = allR p := by rw [Hm.out.1, if_neg hk]
      have hk1 : (k == 1) = false := beq_false_of_ne fun h => hk (.inl h)
      have hk2 : (k == 2) = false := beq_false_of_ne fun h => hk (.inr h)
      clear hk
      go_wp2_with fail
      refine bodyPost_ret (v := .tuple #[.slice (some ⟨g, 0, none⟩) (allR p).length cap, .int .i64 0]) (by simp [results, Try.results52, go_sem]) rfl ?_
      exact ⟨_, cap, by rw [hN'], by rw [hN']; exact hri, by rw [hN']; exact hncap, hbb⟩
  · rw [show chkO k t r p z = 8 from if_neg hm] at hE
    have hN : needsO k t r p z = [] := if_neg hm
    have hC : chkO k t r p z = 8 := if_neg hm
    rw [hC, hN]
    clear hm
    go_enter Try.func52, Try.ntmps52
    go_wp2_with fail
    refine hE.out.mono ?_
    rintro e w2 ⟨rfl, hb2⟩
    have hb := fresh hb1 hb2
    go_wp2_with fail
    refine bodyPost_ret (v := .tuple #[.slice none 0 0, .int .i64 8]) (by simp [results, Try.results52, go_sem]) rfl ?_
    exact ⟨none, 0, rfl, RI.nil _ _, Nat.le_refl _, hb⟩

theorem rightV_fn (k : Int) (g : Nat) (hk : k = 1 ∨ k = 2 ∨ k = 3 ∨ k = 4) : ∃ f b, rightV k g = .func (.func f) #[] b := by
  rcases hk with rfl | rfl | rfl | rfl
  all_goals exact ⟨_, _, rfl⟩

set_option maxHeartbeats 800000 in
set_option maxRecDepth 100000 in
theorem opcheck_big (k t r z : Int) (A : Option Addr) (n c : Nat) (w : World) (h : 64 < n) (k0 : 0 ≤ k) :
    Calls Try.prog 33 #[opv k t r A n c z] w fun e w' => e = .returned (.int .i64 8) ∧ Below w.heap.size w w' := by
  obtain ⟨w1, hw1, c0, c1, c2, c3, c4, hs1, hb1⟩ := five_box w (.int .u8 k) (.int .u32 t) (.int .u8 r) (.slice A n c) (.int .i64 z) 47
  have fq := feq_nil
  have fq2 := feq_fn
  have hP := hide (fun W => pcheck_big A n c W h)
  clear h
  by_cases hk : 5 ≤ k
  · have hE := hide (right_none w1 k hk)
    go_enter Try.func33, Try.ntmps33
    go_wp2_with fail
    refine hE.out.mono ?_
    rintro e w2 ⟨rfl, rfl⟩
    go_wp2_with fail
    go_ret
    exact ⟨rfl, hb1⟩
  have hE := hide (right_some w1 k (by omega))
  by_cases hk0 : k = 0
  · subst hk0
    go_enter Try.func33, Try.ntmps33
    go_wp2_with fail
    refine hE.out.mono ?_
    rintro e w2 ⟨rfl, cf, hs2, hb2⟩
    simp only [rightV, Int.reduceEq, if_false, or_self]
    have hb := fresh hb1 hb2
    go_wp2_with fail
    go_ret
    exact ⟨rfl, hb⟩
  obtain ⟨f, b, hv⟩ := rightV_fn k w1.heap.size (by omega)
  go_enter Try.func33, Try.ntmps33
  go_wp2_with fail
  refine hE.out.mono ?_
  rintro e w2 ⟨rfl, cf, hs2, hb2⟩
  rw [hv]
  have hb := fresh hb1 hb2
  have d0 := keep_cell hb2 hs1 c0
  have d1 := keep_cell hb2 hs1 c1
  have d2 := keep_cell hb2 hs1 c2
  have d3 := keep_cell hb2 hs1 c3
  have d4 := keep_cell hb2 hs1 c4
  have hsz2 := Nat.lt_of_lt_of_le hs1 hb2.size
  clear c0 c1 c2 c3 c4 hv hE fq
  by_cases h1 : mayI t r
  · go_wp2_with fail
    refine (scheck_yes t r _ h1).mono ?_
    rintro e w3 ⟨rfl, hb3⟩
    have hbb := fresh hb hb3
    have e0 := keep_cell hb3 hsz2 d0
    have e1 := keep_cell hb3 hsz2 d1
    have e2 := keep_cell hb3 hsz2 d2
    have e3 := keep_cell hb3 hsz2 d3
    have e4 := keep_cell hb3 hsz2 d4
    clear d0 d1 d2 d3 d4
    go_wp2_with fail
    refine (unhide hP w3).mono ?_
    rintro e w4 ⟨rfl, hb4⟩
    have hb5 := fresh hbb hb4
    go_wp2_with fail
    go_ret
    exact ⟨rfl, hb5⟩
  · go_wp2_with fail
    refine (scheck_no t r _ h1).mono ?_
    rintro e w3 ⟨rfl, hb3⟩
    have hbb := fresh hb hb3
    go_wp2_with fail
    go_ret
    exact ⟨rfl, hbb⟩

set_option maxHeartbeats 800000 in
set_option maxRecDepth 100000 in
theorem opneeds_big (k t r z : Int) (A : Option Addr) (n c : Nat) (w : World) (h : 64 < n) (k0 : 0 ≤ k) :
    Calls Try.prog 52 #[opv k t r A n c z] w fun e w' => e = .returned (.tuple #[.slice none 0 0, .int .i64 8]) ∧ Below w.heap.size w w' := by
  obtain ⟨w1, hw1, c0, c1, c2, c3, c4, hs1, hb1⟩ := five_box w (.int .u8 k) (.int .u32 t) (.int .u8 r) (.slice A n c) (.int .i64 z) 47
  have hE := hide (opcheck_big k t r z A n c w1 h k0)
  clear h
  go_enter Try.func52, Try.ntmps52
  go_wp2_with fail
  refine hE.out.mono ?_
  rintro e w2 ⟨rfl, hb2⟩
  have hb := fresh hb1 hb2
  go_wp2_with fail
  exact bodyPost_ret (v := .tuple #[.slice none 0 0, .int .i64 8]) (by simp [results, Try.results52, go_sem]) rfl ⟨rfl, hb⟩

set_option maxHeartbeats 1600000 in
set_option maxRecDepth 100000 in
theorem opNeeds_bad (k t r z : Int) (A0 : Option Addr) (c0 : Nat) (l0 : List Rn) (w : World) (hr0 : RR w w.heap.size A0 l0) (ok0 : ∀ x ∈ l0, okR x) (k0 : 0 ≤ k) (hm : ¬ mayO k t r l0 z) :
    Calls Try.prog 12 #[opv k t r A0 l0.length c0 z] w fun e w' => e = .returned (.bool true) ∧ Below w.heap.size w w' := by
  have hN : ∀ W, RR W W.heap.size A0 l0 → Calls Try.prog 52 #[opv k t r A0 l0.length c0 z] W fun e w' => (∃ A' c', e = .returned (.tuple #[.slice A' 0 c', .int .i64 8])) ∧ Below W.heap.size W w' := by
    intro W h
    by_cases hl : l0.length < 1073741824
    · refine (opneeds_cap k t r z A0 l0.length c0 l0 W h rfl hl ok0 k0).mono ?_
      rintro e w' ⟨A', c', rfl, -, -, hb⟩
      rw [show needsO k t r l0 z = [] from if_neg hm, show chkO k t r l0 z = 8 from if_neg hm]
      exact ⟨⟨A', c', rfl⟩, hb⟩
    · refine (opneeds_big k t r z A0 l0.length c0 W (by omega) k0).mono ?_
      rintro e w' ⟨rfl, hb⟩
      exact ⟨⟨none, 0, rfl⟩, hb⟩
  have hK : ∀ W, RR W W.heap.size A0 l0 → Calls Try.prog 33 #[opv k t r A0 l0.length c0 z] W fun e w' => e = .returned (.int .i64 8) ∧ Below W.heap.size W w' := by
    intro W h
    by_cases hl : l0.length < 1073741824
    · have := opcheck_any k t r z A0 l0.length c0 l0 W h rfl hl ok0 k0
      rw [show chkO k t r l0 z = 8 from if_neg hm] at this
      exact this
    · exact opcheck_big k t r z A0 l0.length c0 W (by omega) k0
  have HN := hide hN
  have HK := hide hK
  clear hN hK hm ok0
  obtain ⟨w1, hw1, F1, hs1, hb1⟩ := five_fb w (.int .u8 k) (.int .u32 t) (.int .u8 r) (.slice A0 l0.length c0) (.int .i64 z)
  obtain ⟨x0, x1, x2, x3, x4⟩ := F1.cells
  go_enter Try.func12, Try.ntmps12
  go_wp2_with fail
  refine (opalive_ok _).mono ?_
  rintro e w2 ⟨rfl, hb2⟩
  have hb02 := fresh hb1 hb2
  replace F1 := F1.below hb2
  clear x0 x1 x2 x3 x4 hw1
  obtain ⟨x0, x1, x2, x3, x4⟩ := F1.cells
  have HF := hide F1
  clear F1
  go_wp2_with fail
  refine (unhide HN w2 (hr0.below' hb02)).mono ?_
  rintro e w3 ⟨⟨A', c', rfl⟩, hb3⟩
  have hb03 := fresh hb02 hb3
  clear x0 x1 x2 x3 x4
  obtain ⟨x0, x1, x2, x3, x4⟩ := (HF.out.below hb3).cells
  go_wp2_with fail
  refine (unhide HK w3 (hr0.below' hb03)).mono ?_
  rintro e w4 ⟨rfl, hb4⟩
  go_wp2_with fail
  go_ret
  exact ⟨rfl, fresh hb03 hb4⟩

end Go.Proofs.Ytbjfmkdjnglgbaa
