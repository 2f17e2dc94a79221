/-
  What octavoref06.SameIds, op.Needs, op.Content do. Condition: parts of their types.
-/
import Derived.Test.YtbjfmkdjnglgbaaOpCheck
import Derived.Test.YtbjfmkdjnglgbaaPlaceIds
namespace Go.Proofs.Ytbjfmkdjnglgbaa
open Go.RowKit

set_option maxHeartbeats 1600000 in
set_option maxRecDepth 100000 in
/-- octavoref06.SameIds: the same stamps. -/
theorem sameids_any (A B : Option Addr) (c d n k : Nat) (l m : List Id2) (w : World) (hr : RI w w.heap.size A l) (hs : RI w w.heap.size B m) (hn : l.length = n) (hk : m.length = k) (hl : n < 1073741824) (hm : k < 1073741824) :
    Calls Try.prog 30 #[.slice A n c, .slice B k d] w fun e w' => e = .returned (.bool (decide (l = m))) ∧ Below w.heap.size w w' := by
  subst hn hk
  by_cases hne : (l.length : Int) = (m.length : Int)
  · have hll : l.length = m.length := by omega
    have E := hide hll
    have hbe : ((l.length : Int) == (m.length : Int)) = true := by simpa using hne
    have hbn : ((l.length : Int) != (m.length : Int)) = false := by simpa using hne
    clear hne
    go_enter Try.func30, Try.ntmps30
    clear hll
    go_wp2_with fail
    go_loopw [5] (fun i wr => ∃ k : Nat, k ≤ l.length ∧ i = .int .i64 (k : Int) ∧ Hid (l.take k = m.take k) ∧ Below w.heap.size w wr) (fun i _ => l.length - (intOf i).toNat)
    case atStart => exact ⟨0, by omega, rfl, hide rfl, Below.refl _ _⟩
    case round =>
      obtain ⟨k, hk, rfl, hT, hb⟩ := hrel
      by_cases hlt : k < l.length
      · have hltm : k < m.length := by have := E.out; omega
        obtain ⟨b0, o0, rfl, hB0, hC0⟩ := RI.cell (RD.below hr hb) (by omega)
        obtain ⟨b1, o1, rfl, hB1, hC1⟩ := RI.cell (RD.below hs hb) (by omega)
        obtain ⟨d0, d1⟩ := hC0 k hlt
        obtain ⟨e0, e1⟩ := hC1 k hltm
        clear hC0 hC1
        have z0 : (k : Int) < l.length := by omega
        have z1 : (k : Int) < m.length := by omega
        have z4 : (0 : Int) ≤ k := by omega
        obtain ⟨x0, hx0⟩ : ∃ x, x = l[k].1 := ⟨_, rfl⟩
        obtain ⟨x1, hx1⟩ : ∃ x, x = l[k].2 := ⟨_, rfl⟩
        obtain ⟨y0, hy0⟩ : ∃ x, x = m[k].1 := ⟨_, rfl⟩
        obtain ⟨y1, hy1⟩ : ∃ x, x = m[k].2 := ⟨_, rfl⟩
        rw [← hx0] at d0
        rw [← hx1] at d1
        rw [← hy0] at e0
        rw [← hy1] at e1
        have hX := hide (show l[k] = (x0, x1) by rw [hx0, hx1])
        have hY := hide (show m[k] = (y0, y1) by rw [hy0, hy1])
        clear hx0 hx1 hy0 hy1
        by_cases hxy : x0 = y0 ∧ x1 = y1
        · obtain ⟨rfl, rfl⟩ := hxy
          go_wp2_with fail
          go_quiet (fail)
          go_wp2_with fail
          go_roundw
          case rel =>
            refine ⟨k + 1, by omega, by go_num, hide ?_, below_drewN hb _⟩
            rw [List.take_succ_eq_append_getElem hlt, List.take_succ_eq_append_getElem hltm, hT.out, hX.out, hY.out]
          case measure => simp [intOf]; omega
        · have hcs : (¬ x0 = y0) ∨ (x0 = y0 ∧ ¬ x1 = y1) := by
            by_cases h0 : x0 = y0
            · exact .inr ⟨h0, fun h1 => hxy ⟨h0, h1⟩⟩
            · exact .inl h0
          have hf := hide (show decide (l = m) = false by
            rw [decide_eq_false_iff_not]
            intro e
            subst e
            have := hX.out.symm.trans hY.out
            simp only [Prod.mk.injEq] at this
            exact hxy this)
          clear hxy
          rcases hcs with h0 | ⟨rfl, h1⟩
          all_goals
            go_wp2_with fail
            go_quiet (fail)
            go_wp2_with fail
            go_ret
            exact ⟨ret_bool hf.out.symm, below_drewN hb _⟩
      · have hkl : ¬ (k : Int) < l.length := by omega
        have fin := hide (show decide (l = m) = true by
          have h1 := hT.out
          rw [List.take_of_length_le (by omega), List.take_of_length_le (by have := E.out; omega)] at h1
          exact decide_eq_true h1)
        go_wp2_with fail
        go_ret
        exact ⟨ret_bool fin.out.symm, hb⟩
  · have hbe : ((l.length : Int) == (m.length : Int)) = false := by simpa using hne
    have hbn : ((l.length : Int) != (m.length : Int)) = true := by simpa using hne
    have fin := hide (show decide (l = m) = false by
      rw [decide_eq_false_iff_not]
      intro e
      exact hne (by rw [e]))
    clear hne
    go_enter Try.func30, Try.ntmps30
    go_wp2_with fail
    go_ret
    exact ⟨ret_bool fin.out.symm, Below.refl _ _⟩

/-- What an operation stands on. -/
def needsO (k t r : Int) (p : List Rn) (z : Int) : List Id2 := if mayO k t r p z then (if k = 1 ∨ k = 2 then (allR p).dropLast else allR p) else []

theorem RI.nil (w : World) (B : Nat) : RI w B none [] := ⟨rfl, fun h => absurd h (by decide)⟩
theorem RI.take {w : World} {B : Nat} {A : Option Addr} {l : List Id2} (h : RI w B A l) (k : Nat) : RI w B A (l.take k) := by
  refine ⟨ids_len _, fun hn => ?_⟩
  have hl : 0 < l.length := by rw [List.length_take] at hn; omega
  obtain ⟨b, off, e, hb, hc⟩ := h.2 hl
  refine ⟨b, off, e, hb, fun j u hu => hc j u ?_⟩
  have : ids l = ids (l.take k) ++ ids (l.drop k) := by rw [← ids_append, List.take_append_drop]
  rw [this, List.getElem?_append_left (List.getElem?_eq_some_iff.1 hu).1]
  exact hu
theorem RI.of_own {w : World} {base : Nat} {e : TypeId} {c n : Nat} {A : Option Addr} {l : List Id2} (h : w.ownsRow base e 2 (.slice A n c) n (ids l)) (hn : l.length = n) : RI w w.heap.size A l := by
  subst hn
  exact RD.of_own h

set_option maxHeartbeats 800000 in
set_option maxRecDepth 100000 in
theorem opneeds_any (k t r z : Int) (A : Option Addr) (n c : Nat) (p : List Rn) (w : World) (hr : RR w w.heap.size A p) (hn : p.length = n) (hl : n < 1073741824) (hok : ∀ x ∈ p, okR x) (k0 : 0 ≤ k) :
    Calls Try.prog 52 #[opv k t r A n c z] w fun e w' => ∃ A' c', e = .returned (.tuple #[.slice A' (needsO k t r p z).length c', .int .i64 (chkO k t r p z)]) ∧ RI w' w'.heap.size A' (needsO k t r p z) ∧ Below w.heap.size w w' := by
  obtain ⟨w1, hw1, c0, c1, c2, c3, c4, hs1, hb1⟩ := five_box w (.int .u8 k) (.int .u32 t) (.int .u8 r) (.slice A n c) (.int .i64 z) 47
  have hE := hide (opcheck_any k t r z A n c p w1 (hr.below' hb1) hn hl hok k0)
  by_cases hm : mayO k t r p z
  · rw [show chkO k t r p z = 0 from if_pos hm] at hE
    have hN : needsO k t r p z = if k = 1 ∨ k = 2 then (allR p).dropLast else allR p := if_pos hm
    have hC : chkO k t r p z = 0 := if_pos hm
    rw [hC]
    have hmp := hm.2.1
    have hI : idsR p = allR p := if_pos hmp
    have hK : chkR p = 0 := if_pos hmp
    have hlong := allR_long (p := p) (fun x hx => by have := (chainR_mem hmp.2.2.1 x hx).2.2.2.1; omega)
    have hle := hmp.2.2.2
    have hpos : 1 ≤ (allR p).length := by
      obtain ⟨x, q, hxq⟩ : ∃ x q, p = x :: q := by
        cases p with
        | nil => have := hmp.1; simp at this
        | cons x q => exact ⟨x, q, rfl⟩
      rw [hxq, allR_cons, List.length_append, ofR_len]
      have := (chainR_mem hmp.2.2.1 x (by rw [hxq]; exact List.mem_cons_self)).2.2.2.1
      omega
    have Hm := hide (And.intro hN (And.intro hlong (And.intro hle hpos)))
    clear hm hN hlong hle hpos hmp
    go_enter Try.func52, Try.ntmps52
    go_wp2_with fail
    refine hE.out.mono ?_
    rintro e w2 ⟨rfl, hb2⟩
    have hb := fresh hb1 hb2
    have d0 := keep_cell hb2 hs1 c0
    have d3 := keep_cell hb2 hs1 c3
    have hsz2 := Nat.lt_of_lt_of_le hs1 hb2.size
    clear c0 c1 c2 c3 c4 hE
    have hP := hide (pids_any A n c p w2 (hr.below' hb) hn hl hok)
    rw [hI, hK] at hP
    go_wp2_with fail
    refine hP.out.mono ?_
    rintro e w3 ⟨v, rfl, hown, hb3⟩
    have hbb := fresh hb hb3
    have e0 := keep_cell hb3 hsz2 d0
    clear d0 d3
    obtain ⟨g, cap, cur, rfl, hbg, hg, hncap, hcap, hcs, htk⟩ : ∃ g cap cur, v = .slice (some ⟨g, 0, none⟩) (allR p).length cap ∧ w2.heap.size ≤ g ∧ w3.heap[g]? = some (.cells cur 25 (0, 0)) ∧ (allR p).length ≤ cap ∧ cap ≤ maxLen ∧ cur.size = cap * 2 ∧ cur.toList.take ((allR p).length * 2) = ids (allR p) := by
      rcases hown.2 with ⟨-, h0⟩ | h
      · have := Hm.out.2.2.2; omega
      · exact h
    have hri : RI w3 w3.heap.size (some ⟨g, 0, none⟩) (allR p) := RI.of_own hown rfl
    have z1 : (1 : Int) ≤ (allR p).length := by have := Hm.out.2.2.2; omega
    have z2 : ((allR p).length : Int) ≤ 4096 := by have := Hm.out.2.1; have := Hm.out.2.2.1; omega
    have z3 : (0 : Int) ≤ ((allR p).length : Int) - 1 := by omega
    have z4 : ((allR p).length : Int) - 1 ≤ cap := by omega
    have z5 : (((allR p).length : Int) - 1).toNat = (allR p).length - 1 := by omega
    by_cases hk : k = 1 ∨ k = 2
    · have hN' : needsO k t r p z = (allR p).dropLast := by rw [Hm.out.1, if_pos hk]
      have hdl : (allR p).dropLast = (allR p).take ((allR p).length - 1) := List.dropLast_eq_take
      have hlen : ((allR p).dropLast).length = (allR p).length - 1 := by simp
      rcases hk with rfl | rfl
      all_goals
        go_wp2_with fail
        refine bodyPost_ret (v := .tuple #[.slice (some ⟨g, 0, none⟩) ((allR p).length - 1) cap, .int .i64 0]) (by simp [results, Try.results52, go_sem]) rfl ?_
        exact ⟨_, cap, by rw [hN', hlen], by rw [hN', hdl]; exact hri.take _, hbb⟩
    · have hN' : needsO k t r p z = allR p := by rw [Hm.out.1, if_neg hk]
      have hk1 : (k == 1) = false := beq_false_of_ne fun h => hk (.inl h)
      have hk2 : (k == 2) = false := beq_false_of_ne fun h => hk (.inr h)
      clear hk
      go_wp2_with fail
      refine bodyPost_ret (v := .tuple #[.slice (some ⟨g, 0, none⟩) (allR p).length cap, .int .i64 0]) (by simp [results, Try.results52, go_sem]) rfl ?_
      exact ⟨_, cap, by rw [hN'], by rw [hN']; exact hri, hbb⟩
  · rw [show chkO k t r p z = 8 from if_neg hm] at hE
    have hN : needsO k t r p z = [] := if_neg hm
    have hC : chkO k t r p z = 8 := if_neg hm
    rw [hC, hN]
    clear hm
    go_enter Try.func52, Try.ntmps52
    go_wp2_with fail
    refine hE.out.mono ?_
    rintro e w2 ⟨rfl, hb2⟩
    have hb := fresh hb1 hb2
    go_wp2_with fail
    refine bodyPost_ret (v := .tuple #[.slice none 0 0, .int .i64 8]) (by simp [results, Try.results52, go_sem]) rfl ?_
    exact ⟨none, 0, rfl, RI.nil _ _, hb⟩
end Go.Proofs.Ytbjfmkdjnglgbaa
