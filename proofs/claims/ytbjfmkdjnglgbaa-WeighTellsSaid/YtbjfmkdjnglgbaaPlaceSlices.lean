/-
  What slices.Clone, slices.Equal do to runs; place.Twin, Same; octavoref06.Twin, Same; place.may, place.Last. Condition: fewer than 2^30 runs, whose parts are of their types.
-/
import Derived.Test.YtbjfmkdjnglgbaaPlaceBase
import Derived.Test.YtbjfmkdjnglgbaaAppend
namespace Go.Proofs.Ytbjfmkdjnglgbaa
open Go.RowKit

theorem rinfo : (Try.prog.info? 41).map (fun i => (i.zero, i.size, i.bytes)) = some (some (.agg #[.int .u32 0, .int .u8 0, .int .i64 0]), 3, 16) := by kernel_rfl
theorem reql_nil (w : World) (a : Option Addr) (n c : Nat) : (binOp .eql 22 (.slice a n c) (.slice none 0 0)).run Try.prog w = .ok (.bool a.isNone) w := by
  simp only [binOp]
  simp [run_equal_slice_nil w 22 41 a n c Try.underlying22]
theorem RR.none_nil {w : World} {B : Nat} {l : List Rn} (h : RR w B none l) : l = [] := by
  rcases Nat.eq_zero_or_pos l.length with h0 | h0
  · exact List.eq_nil_of_length_eq_zero h0
  · obtain ⟨b, off, h, _⟩ := h.2 h0
    cases h

set_option maxHeartbeats 400000 in
set_option maxRecDepth 100000 in
/-- slices.Clone: the same runs in new memory. -/
theorem rclone_any (A : Option Addr) (n c : Nat) (l : List Rn) (w : World) (hr : RR w w.heap.size A l) (hn : l.length = n) (hl : n < 1073741824) (hnil : A = none → c = 0) :
    Calls Try.prog 92 #[.slice A n c] w fun e w' => ∃ v, e = .returned v ∧ w'.ownsRow w.heap.size 41 3 v l.length (rns l) ∧ Below w.heap.size w w' := by
  subst hn
  obtain ⟨i0, hi0, hz0, hz1, hz2⟩ := info_parts rinfo
  rcases A with _ | a
  · obtain rfl := hr.none_nil
    obtain rfl := hnil rfl
    clear hnil
    have heq := fun w : World => reql_nil w none 0 0
    go_enter Try.func92, Try.ntmps92
    go_wp2_with fail
    go_ret
    exact ⟨_, rfl, World.ownsRow_nil _ _ _ _, Below.refl _ _⟩
  · clear hnil
    have heq := fun w : World => reql_nil w (some a) l.length c
    go_enter Try.func92, Try.ntmps92
    go_wp2_with (at_builtin; refine wpList_append_src _ rfl (.tmp 5) (.tmp 6) 22 rfl w.heap.size 41 i0 (.agg #[.int .u32 0, .int .u8 0, .int .i64 0]) 3 16 Try.underlying22 hi0 hz0 hz1 hz2 rfl (by decide) _ 0 [] rfl (own_empty w _ _ _ (Nat.le_refl _)) w.heap.size (some a) l.length c (rns l) rfl (RD.alloc hr (Nat.le_refl _) _) (rns_one _) (by omega) (by decide) (by simp) ?_; intro v1 w1 hown1 hb1; simp only [Nat.zero_add, List.nil_append] at hown1)
    go_ret
    exact ⟨_, rfl, hown1, (boxed w _).trans hb1⟩

theorem ptwin_any (A : Option Addr) (n c : Nat) (l : List Rn) (w : World) (hr : RR w w.heap.size A l) (hn : l.length = n) (hl : n < 1073741824) (hnil : A = none → c = 0) :
    Calls Try.prog 39 #[.slice A n c] w fun e w' => ∃ v, e = .returned v ∧ w'.ownsRow w.heap.size 41 3 v l.length (rns l) ∧ Below w.heap.size w w' := by
  have C := hide (rclone_any A n c l w hr hn hl hnil)
  clear hnil hn
  go_enter Try.func39, Try.ntmps39
  go_wp2_with fail
  refine (unhide C).mono ?_
  rintro e w1 ⟨v1, rfl, hown1, hb1⟩
  go_wp2_with fail
  go_ret
  exact ⟨_, rfl, hown1, hb1⟩

set_option maxHeartbeats 400000 in
set_option maxRecDepth 100000 in
theorem reftwin_any (A : Option Addr) (n c : Nat) (l : List Rn) (w : World) (hr : RR w w.heap.size A l) (hn : l.length = n) (hl : n < 1073741824) :
    Calls Try.prog 22 #[.slice A n c] w fun e w' => ∃ v, e = .returned v ∧ w'.ownsRow w.heap.size 41 3 v l.length (rns l) ∧ Below w.heap.size w w' := by
  subst hn
  obtain ⟨i0, hi0, hz0, hz1, hz2⟩ := info_parts rinfo
  go_enter Try.func22, Try.ntmps22
  go_wp2_with (at_builtin; refine wpList_append_src _ rfl (.tmp 4) (.tmp 5) 22 rfl w.heap.size 41 i0 (.agg #[.int .u32 0, .int .u8 0, .int .i64 0]) 3 16 Try.underlying22 hi0 hz0 hz1 hz2 rfl (by decide) _ 0 [] rfl (World.ownsRow_nil _ _ _ _) w.heap.size A l.length c (rns l) rfl hr (rns_one _) (by omega) (by decide) (Nat.le_refl _) ?_; intro v1 w1 hown1 hb1; simp only [Nat.zero_add, List.nil_append] at hown1)
  go_ret
  exact ⟨_, rfl, hown1, hb1⟩

set_option maxHeartbeats 1600000 in
set_option maxRecDepth 100000 in
/-- octavoref06.Same: the same runs. -/
theorem refsame_any (A B : Option Addr) (c d n k : Nat) (l m : List Rn) (w : World) (hr : RR w w.heap.size A l) (hs : RR w w.heap.size B m) (hn : l.length = n) (hk : m.length = k) (hl : n < 1073741824) (hm : k < 1073741824) :
    Calls Try.prog 27 #[.slice A n c, .slice B k d] w fun e w' => e = .returned (.bool (decide (l = m))) ∧ Below w.heap.size w w' := by
  subst hn hk
  by_cases hne : (l.length : Int) = (m.length : Int)
  · have hll : l.length = m.length := by omega
    have E := hide hll
    have hbe : ((l.length : Int) == (m.length : Int)) = true := by simpa using hne
    have hbn : ((l.length : Int) != (m.length : Int)) = false := by simpa using hne
    clear hne
    go_enter Try.func27, Try.ntmps27
    clear hll
    go_wp2_with fail
    go_loopw [5] (fun i wr => ∃ k : Nat, k ≤ l.length ∧ i = .int .i64 (k : Int) ∧ Hid (l.take k = m.take k) ∧ Below w.heap.size w wr) (fun i _ => l.length - (intOf i).toNat)
    case atStart => exact ⟨0, by omega, rfl, hide rfl, Below.refl _ _⟩
    case round =>
      obtain ⟨k, hk, rfl, hT, hb⟩ := hrel
      by_cases hlt : k < l.length
      · have hltm : k < m.length := by have := E.out; omega
        obtain ⟨b0, o0, rfl, hB0, hC0⟩ := RR.cell (RD.below hr hb) (by omega)
        obtain ⟨b1, o1, rfl, hB1, hC1⟩ := RR.cell (RD.below hs hb) (by omega)
        obtain ⟨d0, d1, d2⟩ := hC0 k hlt
        obtain ⟨e0, e1, e2⟩ := hC1 k hltm
        clear hC0 hC1
        have z0 : (k : Int) < l.length := by omega
        have z1 : (k : Int) < m.length := by omega
        have z4 : (0 : Int) ≤ k := by omega
        obtain ⟨x0, hx0⟩ : ∃ x, x = l[k].1 := ⟨_, rfl⟩
        obtain ⟨x1, hx1⟩ : ∃ x, x = l[k].2.1 := ⟨_, rfl⟩
        obtain ⟨x2, hx2⟩ : ∃ x, x = l[k].2.2 := ⟨_, rfl⟩
        obtain ⟨y0, hy0⟩ : ∃ x, x = m[k].1 := ⟨_, rfl⟩
        obtain ⟨y1, hy1⟩ : ∃ x, x = m[k].2.1 := ⟨_, rfl⟩
        obtain ⟨y2, hy2⟩ : ∃ x, x = m[k].2.2 := ⟨_, rfl⟩
        rw [← hx0] at d0
        rw [← hx1] at d1
        rw [← hx2] at d2
        rw [← hy0] at e0
        rw [← hy1] at e1
        rw [← hy2] at e2
        have hX := hide (show l[k] = (x0, x1, x2) by rw [hx0, hx1, hx2])
        have hY := hide (show m[k] = (y0, y1, y2) by rw [hy0, hy1, hy2])
        clear hx0 hx1 hx2 hy0 hy1 hy2
        by_cases hxy : x0 = y0 ∧ x1 = y1 ∧ x2 = y2
        · obtain ⟨rfl, rfl, rfl⟩ := hxy
          go_wp2_with fail
          go_quiet (fail)
          go_wp2_with fail
          go_roundw
          case rel =>
            refine ⟨k + 1, by omega, by go_num, hide ?_, below_drewN hb _⟩
            rw [List.take_succ_eq_append_getElem hlt, List.take_succ_eq_append_getElem hltm, hT.out, hX.out, hY.out]
          case measure => simp [intOf]; omega
        · have hcs : (¬ x0 = y0) ∨ (x0 = y0 ∧ ¬ x1 = y1) ∨ (x0 = y0 ∧ x1 = y1 ∧ ¬ x2 = y2) := by
            by_cases h0 : x0 = y0
            · by_cases h1 : x1 = y1
              · exact .inr (.inr ⟨h0, h1, fun h2 => hxy ⟨h0, h1, h2⟩⟩)
              · exact .inr (.inl ⟨h0, h1⟩)
            · exact .inl h0
          have hf := hide (show decide (l = m) = false by
            rw [decide_eq_false_iff_not]
            intro e
            subst e
            have := hX.out.symm.trans hY.out
            simp only [Prod.mk.injEq] at this
            exact hxy this)
          clear hxy
          rcases hcs with h0 | ⟨rfl, h1⟩ | ⟨rfl, rfl, h2⟩
          all_goals
            go_wp2_with fail
            go_quiet (fail)
            go_wp2_with fail
            go_ret
            exact ⟨ret_bool hf.out.symm, below_drewN hb _⟩
      · have hkl : ¬ (k : Int) < l.length := by omega
        have fin := hide (show decide (l = m) = true by
          have h1 := hT.out
          rw [List.take_of_length_le (by omega), List.take_of_length_le (by have := E.out; omega)] at h1
          exact decide_eq_true h1)
        go_wp2_with fail
        go_ret
        exact ⟨ret_bool fin.out.symm, hb⟩
  · have hbe : ((l.length : Int) == (m.length : Int)) = false := by simpa using hne
    have hbn : ((l.length : Int) != (m.length : Int)) = true := by simpa using hne
    have fin := hide (show decide (l = m) = false by
      rw [decide_eq_false_iff_not]
      intro e
      exact hne (by rw [e]))
    clear hne
    go_enter Try.func27, Try.ntmps27
    go_wp2_with fail
    go_ret
    exact ⟨ret_bool fin.out.symm, Below.refl _ _⟩
set_option maxHeartbeats 1600000 in
set_option maxRecDepth 100000 in
/-- slices.Equal: the same runs. -/
theorem requal_any (A B : Option Addr) (c d n k : Nat) (l m : List Rn) (w : World) (hr : RR w w.heap.size A l) (hs : RR w w.heap.size B m) (hn : l.length = n) (hk : m.length = k) (hl : n < 1073741824) (hm : k < 1073741824) :
    Calls Try.prog 96 #[.slice A n c, .slice B k d] w fun e w' => e = .returned (.bool (decide (l = m))) ∧ Below w.heap.size w w' := by
  subst hn hk
  by_cases hne : (l.length : Int) = (m.length : Int)
  · have hll : l.length = m.length := by omega
    have E := hide hll
    have hbe : ((l.length : Int) == (m.length : Int)) = true := by simpa using hne
    have hbn : ((l.length : Int) != (m.length : Int)) = false := by simpa using hne
    clear hne
    go_enter Try.func96, Try.ntmps96
    clear hll
    go_wp2_with fail
    go_loopw [13] (fun i wr => ∃ k : Nat, k ≤ l.length ∧ i = .int .i64 (k : Int) ∧ Hid (l.take k = m.take k) ∧ Below w.heap.size w wr) (fun i _ => l.length - (intOf i).toNat)
    case atStart => exact ⟨0, by omega, rfl, hide rfl, Below.refl _ _⟩
    case round =>
      obtain ⟨k, hk, rfl, hT, hb⟩ := hrel
      by_cases hlt : k < l.length
      · have hltm : k < m.length := by have := E.out; omega
        obtain ⟨b0, o0, rfl, hB0, hC0⟩ := RR.cell (RD.below hr hb) (by omega)
        obtain ⟨b1, o1, rfl, hB1, hC1⟩ := RR.cell (RD.below hs hb) (by omega)
        obtain ⟨d0, d1, d2⟩ := hC0 k hlt
        obtain ⟨e0, e1, e2⟩ := hC1 k hltm
        clear hC0 hC1
        have z0 : (k : Int) < l.length := by omega
        have z1 : (k : Int) < m.length := by omega
        have z4 : (0 : Int) ≤ k := by omega
        obtain ⟨x0, hx0⟩ : ∃ x, x = l[k].1 := ⟨_, rfl⟩
        obtain ⟨x1, hx1⟩ : ∃ x, x = l[k].2.1 := ⟨_, rfl⟩
        obtain ⟨x2, hx2⟩ : ∃ x, x = l[k].2.2 := ⟨_, rfl⟩
        obtain ⟨y0, hy0⟩ : ∃ x, x = m[k].1 := ⟨_, rfl⟩
        obtain ⟨y1, hy1⟩ : ∃ x, x = m[k].2.1 := ⟨_, rfl⟩
        obtain ⟨y2, hy2⟩ : ∃ x, x = m[k].2.2 := ⟨_, rfl⟩
        rw [← hx0] at d0
        rw [← hx1] at d1
        rw [← hx2] at d2
        rw [← hy0] at e0
        rw [← hy1] at e1
        rw [← hy2] at e2
        have hX := hide (show l[k] = (x0, x1, x2) by rw [hx0, hx1, hx2])
        have hY := hide (show m[k] = (y0, y1, y2) by rw [hy0, hy1, hy2])
        clear hx0 hx1 hx2 hy0 hy1 hy2
        by_cases hxy : x0 = y0 ∧ x1 = y1 ∧ x2 = y2
        · obtain ⟨rfl, rfl, rfl⟩ := hxy
          go_wp2_with fail
          go_quiet (fail)
          go_wp2_with fail
          go_roundw
          case rel =>
            refine ⟨k + 1, by omega, by go_num, hide ?_, below_drewN hb _⟩
            rw [List.take_succ_eq_append_getElem hlt, List.take_succ_eq_append_getElem hltm, hT.out, hX.out, hY.out]
          case measure => simp [intOf]; omega
        · have hcs : (¬ x0 = y0) ∨ (x0 = y0 ∧ ¬ x1 = y1) ∨ (x0 = y0 ∧ x1 = y1 ∧ ¬ x2 = y2) := by
            by_cases h0 : x0 = y0
            · by_cases h1 : x1 = y1
              · exact .inr (.inr ⟨h0, h1, fun h2 => hxy ⟨h0, h1, h2⟩⟩)
              · exact .inr (.inl ⟨h0, h1⟩)
            · exact .inl h0
          have hf := hide (show decide (l = m) = false by
            rw [decide_eq_false_iff_not]
            intro e
            subst e
            have := hX.out.symm.trans hY.out
            simp only [Prod.mk.injEq] at this
            exact hxy this)
          clear hxy
          rcases hcs with h0 | ⟨rfl, h1⟩ | ⟨rfl, rfl, h2⟩
          all_goals
            go_wp2_with fail
            go_quiet (fail)
            go_wp2_with fail
            go_ret
            exact ⟨ret_bool hf.out.symm, below_drewN hb _⟩
      · have hkl : ¬ (k : Int) < l.length := by omega
        have fin := hide (show decide (l = m) = true by
          have h1 := hT.out
          rw [List.take_of_length_le (by omega), List.take_of_length_le (by have := E.out; omega)] at h1
          exact decide_eq_true h1)
        go_wp2_with fail
        go_ret
        exact ⟨ret_bool fin.out.symm, hb⟩
  · have hbe : ((l.length : Int) == (m.length : Int)) = false := by simpa using hne
    have hbn : ((l.length : Int) != (m.length : Int)) = true := by simpa using hne
    have fin := hide (show decide (l = m) = false by
      rw [decide_eq_false_iff_not]
      intro e
      exact hne (by rw [e]))
    clear hne
    go_enter Try.func96, Try.ntmps96
    go_wp2_with fail
    go_ret
    exact ⟨ret_bool fin.out.symm, Below.refl _ _⟩

theorem psame_any (A B : Option Addr) (c d n k : Nat) (l m : List Rn) (w : World) (hr : RR w w.heap.size A l) (hs : RR w w.heap.size B m) (hn : l.length = n) (hk : m.length = k) (hl : n < 1073741824) (hm : k < 1073741824) :
    Calls Try.prog 45 #[.slice A n c, .slice B k d] w fun e w' => e = .returned (.bool (decide (l = m))) ∧ Below w.heap.size w w' := by
  have C := hide (requal_any A B c d n k l m w hr hs hn hk hl hm)
  clear hn hk
  go_enter Try.func45, Try.ntmps45
  go_wp2_with fail
  refine (unhide C).mono ?_
  rintro e w1 ⟨rfl, hb1⟩
  go_wp2_with fail
  go_ret
  exact ⟨rfl, hb1⟩

set_option maxHeartbeats 400000 in
set_option maxRecDepth 100000 in
theorem pmay_any (A : Option Addr) (n c : Nat) (p : List Rn) (w : World) (hr : RR w w.heap.size A p) (hn : p.length = n) (hl : n < 1073741824) (hok : ∀ x ∈ p, okR x) :
    Calls Try.prog 80 #[.slice A n c] w fun e w' => e = .returned (.bool (decide (anyR p))) ∧ Below w.heap.size w w' := by
  subst hn
  by_cases h0 : p = []
  · have hf := hide (show decide (anyR p) = true from decide_eq_true (.inl h0))
    have hz : ((p.length : Int) == 0) = true := by simp [h0]
    clear h0
    go_enter Try.func80, Try.ntmps80
    go_wp2_with fail
    go_ret
    exact ⟨ret_bool hf.out.symm, Below.refl _ _⟩
  · have hz : ((p.length : Int) == 0) = false := by simp; exact h0
    have Hok := hide hok
    by_cases hm : mayR p
    · have hf := hide (show decide (anyR p) = true from decide_eq_true (.inr hm))
      have hc := hide (show chkR p = 0 from if_pos hm)
      clear hok h0 hm
      go_enter Try.func80, Try.ntmps80
      go_wp2_with fail
      refine (pcheck_any A p.length c p w hr rfl hl Hok.out).mono ?_
      rintro e w1 ⟨rfl, hb1⟩
      rw [hc.out]
      go_wp2_with fail
      go_ret
      exact ⟨ret_bool hf.out.symm, hb1⟩
    · have hf := hide (show decide (anyR p) = false from decide_eq_false (fun h => h.elim h0 hm))
      have hc := hide (show chkR p = 8 from if_neg hm)
      clear hok h0 hm
      go_enter Try.func80, Try.ntmps80
      go_wp2_with fail
      refine (pcheck_any A p.length c p w hr rfl hl Hok.out).mono ?_
      rintro e w1 ⟨rfl, hb1⟩
      rw [hc.out]
      go_wp2_with fail
      go_ret
      exact ⟨ret_bool hf.out.symm, hb1⟩

/-- What Last answers. -/
def lastR (p : List Rn) : Id2 := if mayR p then (rend (p.getLastD (0, 0, 0)), (p.getLastD (0, 0, 0)).2.1) else (0, 0)
theorem lastR_no {p : List Rn} (h : ¬ mayR p) : lastR p = (0, 0) := if_neg h

set_option maxHeartbeats 800000 in
set_option maxRecDepth 100000 in
theorem plast_any (A : Option Addr) (n c : Nat) (p : List Rn) (w : World) (hr : RR w w.heap.size A p) (hn : p.length = n) (hl : n < 1073741824) (hok : ∀ x ∈ p, okR x) :
    Calls Try.prog 28 #[.slice A n c] w fun e w' => e = .returned (.agg #[.int .u32 (lastR p).1, .int .u8 (lastR p).2]) ∧ Below w.heap.size w w' := by
  subst hn
  have Hok := hide hok
  clear hok
  by_cases hm : mayR p
  · have hc := hide (show chkR p = 0 from if_pos hm)
    have hlen : 0 < p.length := hm.1
    obtain ⟨b0, o0, rfl, hB0, hC0⟩ := RR.cell hr hlen
    obtain ⟨d0, d1, d2⟩ := hC0 (p.length - 1) (by omega)
    clear hC0
    obtain ⟨t, ht⟩ : ∃ t, t = (p[p.length - 1]'(by omega)).1 := ⟨_, rfl⟩
    obtain ⟨r, hr'⟩ : ∃ t, t = (p[p.length - 1]'(by omega)).2.1 := ⟨_, rfl⟩
    obtain ⟨m, hm'⟩ : ∃ t, t = (p[p.length - 1]'(by omega)).2.2 := ⟨_, rfl⟩
    rw [← ht] at d0
    rw [← hr'] at d1
    rw [← hm'] at d2
    have hel : p[p.length - 1]'(by omega) = (t, r, m) := by rw [ht, hr', hm']
    have hone := chainR_mem hm.2.2.1 _ (List.getElem_mem (h := by omega) : p[p.length - 1]'(by omega) ∈ p)
    rw [hel] at hone
    obtain ⟨e1, e2, e3, e4, e5, e6⟩ := hone
    simp only at e1 e2 e3 e4 e5 e6
    have hfin := hide (show lastR p = (t + m - 1, r) by
      have hg : p.getLastD (0, 0, 0) = (t, r, m) := by
        rw [← hel, List.getLastD_eq_getLast?, List.getLast?_eq_getElem?, List.getElem?_eq_getElem (by omega)]
        rfl
      unfold lastR
      rw [if_pos hm, hg]
      rfl)
    have z0 : (0 : Int) ≤ (p.length : Int) - 1 := by omega
    have z1 : (p.length : Int) - 1 < p.length := by omega
    have z2 : ((p.length : Int) - 1).toNat = p.length - 1 := by omega
    clear ht hr' hm' hel hm
    go_enter Try.func28, Try.ntmps28
    go_wp2_with fail
    have hb1 := boxed w (.cells #[.int .u32 0, .int .u8 0] 25)
    have hr1 : RR (w.alloc (.cells #[.int .u32 0, .int .u8 0] 25)) (w.alloc (.cells #[.int .u32 0, .int .u8 0] 25)).heap.size (some ⟨b0, o0, none⟩) p := RR.below' hr hb1
    refine (pcheck_any _ p.length c p _ hr1 rfl hl Hok.out).mono ?_
    rintro e w2 ⟨rfl, hb2⟩
    rw [hc.out]
    have hb02 := fresh hb1 hb2
    replace d0 := keep_cell hb02 hB0 d0
    replace d1 := keep_cell hb02 hB0 d1
    replace d2 := keep_cell hb02 hB0 d2
    have hlt : w.heap.size < (w.alloc (.cells #[.int .u32 0, .int .u8 0] 25)).heap.size := by simp
    have q0 := keep_cell (o := 0) hb2 hlt (by rw [World.cell?_alloc_new]; rfl : (w.alloc (.cells #[.int .u32 0, .int .u8 0] 25)).cell? ⟨w.heap.size, 0, none⟩ = some (.int .u32 0))
    have q1 := keep_cell (o := 1) hb2 hlt (by rw [World.cell?_alloc_new]; rfl : (w.alloc (.cells #[.int .u32 0, .int .u8 0] 25)).cell? ⟨w.heap.size, 1, none⟩ = some (.int .u8 0))
    have f0 : w2.frozen? ⟨w.heap.size, 0, none⟩ = false := (hb2.frozen (p := ⟨w.heap.size, 0, none⟩) hlt).trans (by simp)
    have f1 : w2.frozen? ⟨w.heap.size, 1, none⟩ = false := (hb2.frozen (p := ⟨w.heap.size, 1, none⟩) hlt).trans (by simp)
    have hs2 := Nat.lt_of_lt_of_le hlt hb2.size
    clear hr1 hlt
    go_wp2_with fail
    refine (last_ok t r m w2 (by omega) e2 e4 e5).mono ?_
    rintro e w3 ⟨rfl, hb3⟩
    have hb03 := fresh hb02 hb3
    replace q0 := keep_cell hb3 hs2 q0
    replace q1 := keep_cell hb3 hs2 q1
    replace f0 : w3.frozen? ⟨w.heap.size, 0, none⟩ = false := (hb3.frozen (p := ⟨w.heap.size, 0, none⟩) hs2).trans f0
    replace f1 : w3.frozen? ⟨w.heap.size, 1, none⟩ = false := (hb3.frozen (p := ⟨w.heap.size, 1, none⟩) hs2).trans f1
    clear d0 d1 d2
    go_wp2_with fail
    rw [hfin.out]
    exact bodyPost_ret (v := .agg #[.int .u32 (t + m - 1), .int .u8 r]) (by simp [results, Try.results28, go_sem, q0, q1]) rfl ⟨rfl, (hb03.setCell (Nat.le_refl _) _).setCell (Nat.le_refl _) _⟩
  · have hc := hide (show chkR p = 8 from if_neg hm)
    have hfin := hide (lastR_no hm)
    clear hm
    go_enter Try.func28, Try.ntmps28
    go_wp2_with fail
    have hb1 := boxed w (.cells #[.int .u32 0, .int .u8 0] 25)
    have hr1 : RR (w.alloc (.cells #[.int .u32 0, .int .u8 0] 25)) (w.alloc (.cells #[.int .u32 0, .int .u8 0] 25)).heap.size A p := RR.below' hr hb1
    refine (pcheck_any _ p.length c p _ hr1 rfl hl Hok.out).mono ?_
    rintro e w2 ⟨rfl, hb2⟩
    rw [hc.out]
    have hb02 := fresh hb1 hb2
    have hlt : w.heap.size < (w.alloc (.cells #[.int .u32 0, .int .u8 0] 25)).heap.size := by simp
    have q0 := keep_cell (o := 0) hb2 hlt (by rw [World.cell?_alloc_new]; rfl : (w.alloc (.cells #[.int .u32 0, .int .u8 0] 25)).cell? ⟨w.heap.size, 0, none⟩ = some (.int .u32 0))
    have q1 := keep_cell (o := 1) hb2 hlt (by rw [World.cell?_alloc_new]; rfl : (w.alloc (.cells #[.int .u32 0, .int .u8 0] 25)).cell? ⟨w.heap.size, 1, none⟩ = some (.int .u8 0))
    have f0 : w2.frozen? ⟨w.heap.size, 0, none⟩ = false := (hb2.frozen (p := ⟨w.heap.size, 0, none⟩) hlt).trans (by simp)
    have f1 : w2.frozen? ⟨w.heap.size, 1, none⟩ = false := (hb2.frozen (p := ⟨w.heap.size, 1, none⟩) hlt).trans (by simp)
    have hs2 := Nat.lt_of_lt_of_le hlt hb2.size
    clear hr1 hlt
    go_wp2_with fail
    rw [hfin.out]
    exact bodyPost_ret (v := .agg #[.int .u32 0, .int .u8 0]) (by simp [results, Try.results28, go_sem, q0, q1]) rfl ⟨rfl, (hb02.setCell (Nat.le_refl _) _).setCell (Nat.le_refl _) _⟩
end Go.Proofs.Ytbjfmkdjnglgbaa
