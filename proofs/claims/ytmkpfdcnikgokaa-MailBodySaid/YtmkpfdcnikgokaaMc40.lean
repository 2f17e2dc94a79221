/-
  Texts of this claim, put together: Big, ListRef, ListGreat. What each theorem asks stands in its statement.
-/
import Derived.Test.YtmkpfdcnikgokaaMc9
import Derived.Test.YtmkpfdcnikgokaaMc13
set_option linter.unusedVariables false
set_option linter.unusedSimpArgs false
namespace Go.Proofs.Ytmkpfdcnikgokaa
open Go.RowKit
set_option maxHeartbeats 1600000 in
set_option maxRecDepth 100000 in
/-- octavoref06.Same: the same runs. -/
theorem refsame_big (A B : Option Addr) (c d n k : Nat) (l m : List Rn) (w : World) (hr : RR w w.heap.size A l) (hs : RR w w.heap.size B m) (hn : l.length = n) (hk : m.length = k) (hl : n < 8796093022208) (hm : k < 8796093022208) :
    Calls Try.prog 100 #[.slice A n c, .slice B k d] w fun e w' => e = .returned (.bool (decide (l = m))) ∧ Below w.heap.size w w' := by
  subst hn hk
  by_cases hne : (l.length : Int) = (m.length : Int)
  · have hll : l.length = m.length := by omega
    have E := hide hll
    have hbe : ((l.length : Int) == (m.length : Int)) = true := by simpa using hne
    have hbn : ((l.length : Int) != (m.length : Int)) = false := by simpa using hne
    clear hne
    go_enter Try.func100, Try.ntmps100
    clear hll
    go_wp2_with fail
    go_loopw [5] (fun i wr => ∃ k : Nat, k ≤ l.length ∧ i = .int .i64 (k : Int) ∧ Hid (l.take k = m.take k) ∧ Below w.heap.size w wr) (fun i _ => l.length - (intOf i).toNat)
    case atStart => exact ⟨0, by omega, rfl, hide rfl, Below.refl _ _⟩
    case round =>
      obtain ⟨k, hk, rfl, hT, hb⟩ := hrel
      by_cases hlt : k < l.length
      · have hltm : k < m.length := by have := E.out; omega
        obtain ⟨b0, o0, rfl, hB0, hC0⟩ := RR.cell (RD.below hr hb) (by omega)
        obtain ⟨b1, o1, rfl, hB1, hC1⟩ := RR.cell (RD.below hs hb) (by omega)
        obtain ⟨d0, d1, d2⟩ := hC0 k hlt
        obtain ⟨e0, e1, e2⟩ := hC1 k hltm
        clear hC0 hC1
        have z0 : (k : Int) < l.length := by omega
        have z1 : (k : Int) < m.length := by omega
        have z4 : (0 : Int) ≤ k := by omega
        obtain ⟨x0, hx0⟩ : ∃ x, x = l[k].1 := ⟨_, rfl⟩
        obtain ⟨x1, hx1⟩ : ∃ x, x = l[k].2.1 := ⟨_, rfl⟩
        obtain ⟨x2, hx2⟩ : ∃ x, x = l[k].2.2 := ⟨_, rfl⟩
        obtain ⟨y0, hy0⟩ : ∃ x, x = m[k].1 := ⟨_, rfl⟩
        obtain ⟨y1, hy1⟩ : ∃ x, x = m[k].2.1 := ⟨_, rfl⟩
        obtain ⟨y2, hy2⟩ : ∃ x, x = m[k].2.2 := ⟨_, rfl⟩
        rw [← hx0] at d0
        rw [← hx1] at d1
        rw [← hx2] at d2
        rw [← hy0] at e0
        rw [← hy1] at e1
        rw [← hy2] at e2
        have hX := hide (show l[k] = (x0, x1, x2) by rw [hx0, hx1, hx2])
        have hY := hide (show m[k] = (y0, y1, y2) by rw [hy0, hy1, hy2])
        clear hx0 hx1 hx2 hy0 hy1 hy2
        by_cases hxy : x0 = y0 ∧ x1 = y1 ∧ x2 = y2
        · obtain ⟨rfl, rfl, rfl⟩ := hxy
          go_wp2_with fail
          go_quiet (fail)
          go_wp2_with fail
          go_roundw
          case rel =>
            refine ⟨k + 1, by omega, by go_num, hide ?_, below_drewN hb _⟩
            rw [List.take_succ_eq_append_getElem hlt, List.take_succ_eq_append_getElem hltm, hT.out, hX.out, hY.out]
          case measure => simp [intOf]; omega
        · have hcs : (¬ x0 = y0) ∨ (x0 = y0 ∧ ¬ x1 = y1) ∨ (x0 = y0 ∧ x1 = y1 ∧ ¬ x2 = y2) := by
            by_cases h0 : x0 = y0
            · by_cases h1 : x1 = y1
              · exact .inr (.inr ⟨h0, h1, fun h2 => hxy ⟨h0, h1, h2⟩⟩)
              · exact .inr (.inl ⟨h0, h1⟩)
            · exact .inl h0
          have hf := hide (show decide (l = m) = false by
            rw [decide_eq_false_iff_not]
            intro e
            subst e
            have := hX.out.symm.trans hY.out
            simp only [Prod.mk.injEq] at this
            exact hxy this)
          clear hxy
          rcases hcs with h0 | ⟨rfl, h1⟩ | ⟨rfl, rfl, h2⟩
          all_goals
            go_wp2_with fail
            go_quiet (fail)
            go_wp2_with fail
            go_ret
            exact ⟨ret_bool hf.out.symm, below_drewN hb _⟩
      · have hkl : ¬ (k : Int) < l.length := by omega
        have fin := hide (show decide (l = m) = true by
          have h1 := hT.out
          rw [List.take_of_length_le (by omega), List.take_of_length_le (by have := E.out; omega)] at h1
          exact decide_eq_true h1)
        go_wp2_with fail
        go_ret
        exact ⟨ret_bool fin.out.symm, hb⟩
  · have hbe : ((l.length : Int) == (m.length : Int)) = false := by simpa using hne
    have hbn : ((l.length : Int) != (m.length : Int)) = true := by simpa using hne
    have fin := hide (show decide (l = m) = false by
      rw [decide_eq_false_iff_not]
      intro e
      exact hne (by rw [e]))
    clear hne
    go_enter Try.func100, Try.ntmps100
    go_wp2_with fail
    go_ret
    exact ⟨ret_bool fin.out.symm, Below.refl _ _⟩
set_option maxHeartbeats 3200000 in
set_option maxRecDepth 100000 in
theorem oprefsame_big (k t r z k' t' r' z' : Int) (A B : Option Addr) (n m c d : Nat) (p q : List Rn) (w : World) (hr : RR w w.heap.size A p) (hs : RR w w.heap.size B q) (hn : p.length = n) (hm : q.length = m) (hl : n < 8796093022208) (hl' : m < 8796093022208) :
    Calls Try.prog 79 #[opv k t r A n c z, opv k' t' r' B m d z'] w fun e w' => e = .returned (.bool (decide (k = k' ∧ t = t' ∧ r = r' ∧ p = q ∧ z = z'))) ∧ Below w.heap.size w w' := by
  obtain ⟨w1, hw1, a0, a1, a2, a3, a4, hs1, hb1⟩ := five_box w (.int .u8 k) (.int .u32 t) (.int .u8 r) (.slice A n c) (.int .i64 z) 115
  obtain ⟨w2, hw2, b0, b1, b2, b3, b4, hs2, hb2⟩ := five_box w1 (.int .u8 k') (.int .u32 t') (.int .u8 r') (.slice B m d) (.int .i64 z') 115
  have hb02 := fresh hb1 hb2
  replace a0 := keep_cell hb2 hs1 a0
  replace a1 := keep_cell hb2 hs1 a1
  replace a2 := keep_cell hb2 hs1 a2
  replace a3 := keep_cell hb2 hs1 a3
  replace a4 := keep_cell hb2 hs1 a4
  replace hs1 := Nat.lt_of_lt_of_le hs1 hb2.size
  have C := hide (refsame_big A B c d n m p q w2 (hr.below' hb02) (hs.below' hb02) hn hm hl hl')
  clear hr hs hn hm hl hl'
  obtain ⟨g1, hg1⟩ : ∃ g, g = w1.heap.size := ⟨_, rfl⟩
  have hc : ((k == k') = false ∧ ¬ k = k') ∨ ((k == k') = true ∧ k = k' ∧ (((t == t') = false ∧ ¬ t = t') ∨ ((t == t') = true ∧ t = t' ∧ (((r == r') = false ∧ ¬ r = r') ∨ ((r == r') = true ∧ r = r' ∧ (((z == z') = false ∧ ¬ z = z') ∨ ((z == z') = true ∧ z = z'))))))) := by
    simp only [beq_iff_eq, beq_eq_false_iff_ne, ne_eq]
    omega
  clear hg1 g1
  rcases hc with ⟨c1, e1⟩ | ⟨c1, e1, ⟨c2, e2⟩ | ⟨c2, e2, ⟨c3, e3⟩ | ⟨c3, e3, ⟨c4, e4⟩ | ⟨c4, e4⟩⟩⟩⟩
  · have hf := hide (show decide (k = k' ∧ t = t' ∧ r = r' ∧ p = q ∧ z = z') = false from decide_eq_false fun h => e1 (by simp only [h]))
    clear e1
    go_enter Try.func79, Try.ntmps79
    go_wp2_with fail
    go_ret
    exact ⟨ret_bool hf.out.symm, hb02⟩
  · have hf := hide (show decide (k = k' ∧ t = t' ∧ r = r' ∧ p = q ∧ z = z') = false from decide_eq_false fun h => e2 (by simp only [h]))
    clear e1 e2
    go_enter Try.func79, Try.ntmps79
    go_wp2_with fail
    go_ret
    exact ⟨ret_bool hf.out.symm, hb02⟩
  · have hf := hide (show decide (k = k' ∧ t = t' ∧ r = r' ∧ p = q ∧ z = z') = false from decide_eq_false fun h => e3 (by simp only [h]))
    clear e1 e2 e3
    go_enter Try.func79, Try.ntmps79
    go_wp2_with fail
    go_ret
    exact ⟨ret_bool hf.out.symm, hb02⟩
  · have hf := hide (show decide (k = k' ∧ t = t' ∧ r = r' ∧ p = q ∧ z = z') = false from decide_eq_false fun h => e4 (by simp only [h]))
    clear e1 e2 e3 e4
    obtain ⟨bb, hB⟩ : ∃ b, b = decide (p = q) := ⟨_, rfl⟩
    rw [← hB] at C
    clear hB
    cases bb
    all_goals
      go_enter Try.func79, Try.ntmps79
      go_wp2_with fail
      refine C.out.mono ?_
      rintro e w3 ⟨rfl, hb3⟩
      replace a4 := keep_cell hb3 hs1 a4
      replace b4 := keep_cell hb3 hs2 b4
      go_wp2_with fail
      go_ret
      exact ⟨ret_bool hf.out.symm, fresh hb02 hb3⟩
  · have hf := hide (show decide (k = k' ∧ t = t' ∧ r = r' ∧ p = q ∧ z = z') = decide (p = q) from decide_eq_decide.2 ⟨fun h => h.2.2.2.1, fun h => ⟨e1, e2, e3, h, e4⟩⟩)
    clear e1 e2 e3 e4
    obtain ⟨bb, hB⟩ : ∃ b, b = decide (p = q) := ⟨_, rfl⟩
    rw [← hB] at C hf
    clear hB
    cases bb
    all_goals
      go_enter Try.func79, Try.ntmps79
      go_wp2_with fail
      refine C.out.mono ?_
      rintro e w3 ⟨rfl, hb3⟩
      replace a4 := keep_cell hb3 hs1 a4
      replace b4 := keep_cell hb3 hs2 b4
      go_wp2_with fail
      go_ret
      exact ⟨ret_bool hf.out.symm, fresh hb02 hb3⟩
end Go.Proofs.Ytmkpfdcnikgokaa
namespace Go.Proofs.Ytmkpfdcnikgokaa
open Go.RowKit
theorem op_eq {x y : OpL} : x.op = y.op ↔ x.k = y.k ∧ x.t = y.t ∧ x.r = y.r ∧ x.p = y.p ∧ x.z = y.z := by
  simp only [OpL.op, Prod.mk.injEq]
set_option maxHeartbeats 3200000 in
set_option maxRecDepth 100000 in
theorem listsame_any (A B : Option Addr) (n m c d : Nat) (L M : List OpL) (w : World) (hr : RO w w.heap.size A L) (hs : RO w w.heap.size B M) (hn : L.length = n) (hm : M.length = m) (hl : ∀ x ∈ L, x.p.length < 8796093022208) (hl' : ∀ x ∈ M, x.p.length < 8796093022208) (hn9 : n < 1073741824) :
    Calls Try.prog 53 #[.slice A n c, .slice B m d] w fun e w' => e = .returned (.bool (decide (L.map OpL.op = M.map OpL.op))) ∧ Below w.heap.size w w' := by
  have HR := hide hr
  have HS := hide hs
  have Hl := hide (And.intro hl hl')
  have Hnm := hide (And.intro hn hm)
  clear hr hs hl hl'
  by_cases hne : (n : Int) = (m : Int)
  · have hnm : n = m := by omega
    have hbe : ((n : Int) == (m : Int)) = true := by simpa using hne
    have hbn : ((n : Int) != (m : Int)) = false := by simpa using hne
    have E := hide hnm
    clear hne hn hm hnm
    go_enter Try.func53, Try.ntmps53
    go_wp2_with fail
    go_loopw [5] (fun i wr => ∃ j : Nat, j ≤ n ∧ i = .int .i64 (j : Int) ∧ Hid ((L.take j).map OpL.op = (M.take j).map OpL.op) ∧ Below w.heap.size w wr) (fun i _ => n - (intOf i).toNat)
    case atStart => exact ⟨0, by omega, rfl, hide rfl, Below.refl _ _⟩
    case round =>
      obtain ⟨j, hj, rfl, hT, hb⟩ := hrel
      by_cases hlt : j < n
      · have z0 : (j : Int) < n := by omega
        have z1 : (j : Int) < m := by have := E.out; omega
        have zj : (0 : Int) ≤ j := by omega
        have hltL : j < L.length := by rw [Hnm.out.1]; exact hlt
        have hltM : j < M.length := by rw [Hnm.out.2, ← E.out]; exact hlt
        obtain ⟨b0, o0, rfl, hB0, hC0⟩ := RO.cell (HR.out.below hb) (by omega)
        obtain ⟨b1, o1, rfl, hB1, hC1⟩ := RO.cell (HS.out.below hb) (by omega)
        obtain ⟨x, hx⟩ : ∃ x, L[j] = x := ⟨_, rfl⟩
        obtain ⟨y, hy⟩ : ∃ y, M[j] = y := ⟨_, rfl⟩
        obtain ⟨d0, d1, d2, d3, d4⟩ := hC0 j hltL
        obtain ⟨e0, e1, e2, e3, e4⟩ := hC1 j hltM
        rw [hx] at d0 d1 d2 d3 d4
        rw [hy] at e0 e1 e2 e3 e4
        have hxm : x ∈ L := by rw [← hx]; exact List.getElem_mem hltL
        have hym : y ∈ M := by rw [← hy]; exact List.getElem_mem hltM
        have S := hide (fun u => oprefsame_big x.k x.t x.r x.z y.k y.t y.r y.z x.A y.A x.p.length y.p.length x.c y.c x.p y.p (past wr u) (RR.below' (((HR.out.below hb).more hb.size).2 x hxm) (below_past wr u)) (RR.below' (((HS.out.below hb).more hb.size).2 y hym) (below_past wr u)) rfl rfl (Hl.out.1 x hxm) (Hl.out.2 y hym))
        have T0 := hide (show (L.take (j + 1)).map OpL.op = (L.take j).map OpL.op ++ [x.op] by rw [List.take_succ_eq_append_getElem hltL, hx, List.map_append]; rfl)
        have T1 := hide (show (M.take (j + 1)).map OpL.op = (M.take j).map OpL.op ++ [y.op] by rw [List.take_succ_eq_append_getElem hltM, hy, List.map_append]; rfl)
        have X0 := hide (And.intro hx hy)
        have hB0r : b0 < wr.heap.size := by have := hb.size; omega
        have hB1r : b1 < wr.heap.size := by have := hb.size; omega
        clear hC0 hC1 hxm hym hx hy
        obtain ⟨bv, hbv⟩ : ∃ bv, decide (x.k = y.k ∧ x.t = y.t ∧ x.r = y.r ∧ x.p = y.p ∧ x.z = y.z) = bv := ⟨_, rfl⟩
        rw [hbv] at S
        have Hbv := hide hbv
        clear hbv
        go_wp2_with fail
        refine wp_region_past (by kernel_rfl) (by kernel_rfl) ?_
        repeat (quiet_step ((go_at_call 79; with_reducible exact past_call (unhide S _))))
        refine wpQuiet_nil ?_
        intro w3 hw3
        obtain ⟨u, rfl⟩ := hw3
        have hb3 := fresh hb (below_past wr u)
        clear d0 d1 d2 d3 d4 e0 e1 e2 e3 e4
        cases bv
        · have hf := hide (show decide (L.map OpL.op = M.map OpL.op) = false from decide_eq_false fun h => by
            have h1 := congrArg (fun l => l[j]?) h
            simp only [List.getElem?_map, List.getElem?_eq_getElem hltL, List.getElem?_eq_getElem hltM, X0.out.1, X0.out.2, Option.map_some, Option.some.injEq] at h1
            exact (of_decide_eq_false Hbv.out) (op_eq.1 h1))
          go_wp2_with fail
          go_ret
          exact ⟨ret_bool hf.out.symm, hb3⟩
        · go_wp2_with fail
          go_roundw
          case rel =>
            refine ⟨j + 1, by omega, by go_num, hide ?_, hb3⟩
            rw [T0.out, T1.out, hT.out, op_eq.2 (of_decide_eq_true Hbv.out)]
          case measure => simp [intOf]; omega
      · have z0 : ¬ (j : Int) < n := by omega
        have fin := hide (show decide (L.map OpL.op = M.map OpL.op) = true by
          have h1 := hT.out
          rw [List.take_of_length_le (by rw [Hnm.out.1]; omega), List.take_of_length_le (by rw [Hnm.out.2, ← E.out]; omega)] at h1
          exact decide_eq_true h1)
        go_wp2_with fail
        go_ret
        exact ⟨ret_bool fin.out.symm, hb⟩
  · have hbe : ((n : Int) == (m : Int)) = false := by simpa using hne
    have hbn : ((n : Int) != (m : Int)) = true := by simpa using hne
    have fin := hide (show decide (L.map OpL.op = M.map OpL.op) = false by
      rw [decide_eq_false_iff_not]
      intro e
      have := congrArg List.length e
      rw [List.length_map, List.length_map, hn, hm] at this
      exact hne (by rw [this]))
    clear hne hn hm
    go_enter Try.func53, Try.ntmps53
    go_wp2_with fail
    go_ret
    exact ⟨ret_bool fin.out.symm, Below.refl _ _⟩
end Go.Proofs.Ytmkpfdcnikgokaa
namespace Go.Proofs.Ytmkpfdcnikgokaa
open Go.RowKit
/-- What Great's answer says. -/
def greatV (n : Nat) (m : Int) (L : List OpL) (v : Value) : Prop := ∃ g, v = .bool g ∧ (g = false → (n : Int) ≤ m ∧ (n ≤ 300 → ∀ x ∈ L, x.p.length ≤ 100))
set_option maxHeartbeats 3200000 in
set_option maxRecDepth 100000 in
theorem great_any (A : Option Addr) (n c : Nat) (m : Int) (L : List OpL) (w : World) (hr : RO w w.heap.size A L) (hn : L.length = n) (hok : ∀ x ∈ L, ∀ y ∈ x.p, okR y) :
    Calls Try.prog 47 #[.slice A n c, .int .i64 m] w fun e w' => ∃ v, e = .returned v ∧ greatV n m L v ∧ Below w.heap.size w w' := by
  have Hok := hide hok
  have Hn := hide hn
  have HR := hide hr
  clear hok hn hr
  go_enter Try.func47, Try.ntmps47
  go_wp2_with fail
  go_loopw [5, 6] (fun s i wr => ∃ (j : Nat) (sv : Int), j ≤ n ∧ (j : Int) ≤ 300 ∧ i = .int .i64 (j : Int) ∧ s = .int .i64 sv ∧ 0 ≤ sv ∧ sv ≤ j * 51000 ∧ Hid (∀ x ∈ L.take j, x.p.length ≤ 100) ∧ Below w.heap.size w wr) (fun _ i _ => n - (intOf i).toNat)
  case atStart => exact ⟨0, 0, by omega, by omega, rfl, rfl, by omega, by omega, hide (fun x hx => by cases hx), Below.refl _ _⟩
  case round =>
    obtain ⟨j, sv, hj, hj3, rfl, rfl, hs0, hs1, hP, hb⟩ := hrel
    by_cases hlt : j < n
    · have z0 : (j : Int) < n := by omega
      by_cases z3 : (j : Int) < 300
      · have hltL : j < L.length := by rw [Hn.out]; exact hlt
        have zj : (0 : Int) ≤ j := by omega
        obtain ⟨bb, bo, rfl, hB, hC⟩ := RO.cell (HR.out.below hb) (by omega)
        obtain ⟨x, hx⟩ : ∃ x, L[j] = x := ⟨_, rfl⟩
        obtain ⟨d0, d1, d2, d3, d4⟩ := hC j hltL
        rw [hx] at d0 d1 d2 d3 d4
        have hxm : x ∈ L := by rw [← hx]; exact List.getElem_mem hltL
        have Hrx := hide (show RR wr wr.heap.size x.A x.p from ((HR.out.below hb).more hb.size).2 x hxm)
        have HoX := hide (Hok.out x hxm)
        have Htake := hide (show L.take (j + 1) = L.take j ++ [x] by rw [List.take_succ_eq_append_getElem hltL, hx])
        clear hC hx d0 d1 d2 d4 hxm
        by_cases hg : (100 : Int) < x.p.length
        · go_wp2_with fail
          go_ret
          exact ⟨_, rfl, ⟨true, rfl, fun h => (Bool.noConfusion h)⟩, hb⟩
        · have Hx100 := hide (show x.p.length ≤ 100 by omega)
          go_wp2_with fail
          go_loopw [5, 7] (fun s k wi => ∃ (q : Nat) (sq : Int), q ≤ x.p.length ∧ k = .int .i64 (q : Int) ∧ s = .int .i64 sq ∧ 0 ≤ sq ∧ sq ≤ sv + q * 501 ∧ wi = wr) (fun _ k _ => x.p.length - (intOf k).toNat)
          case atStart => exact ⟨0, sv, by omega, rfl, rfl, by omega, by omega, rfl⟩
          case round =>
            obtain ⟨q, sq, hq, rfl, rfl, hq0, hq1, rfl⟩ := hrel
            by_cases hltq : q < x.p.length
            · have zq : (q : Int) < x.p.length := by omega
              have zq0 : (0 : Int) ≤ q := by omega
              obtain ⟨rb, ro, hA, -, rC⟩ := RR.cell Hrx.out (by omega)
              obtain ⟨-, -, e2⟩ := rC q hltq
              have hoy := HoX.out x.p[q] (List.getElem_mem hltq)
              obtain ⟨y, hy⟩ : ∃ y, x.p[q].2.2 = y := ⟨_, rfl⟩
              unfold okR at hoy
              rw [hy] at e2 hoy
              obtain ⟨-, -, -, -, hy0, hy1⟩ := hoy
              rw [hA] at d3
              clear rC hy
              clear hA
              go_wp2_with fail
              refine ⟨⟨q + 1, _, by omega, by go_num, rfl, ?_, ?_, trivial⟩, by simp [intOf]; omega⟩
              · split <;> (try split) <;> omega
              · split <;> (try split) <;> omega
            · have zq : ¬ (q : Int) < x.p.length := by omega
              have hqe : q = x.p.length := by omega
              have hx100 := Hx100.out
              go_wp2_with fail
              go_roundw
              case rel =>
                refine ⟨j + 1, sq, by omega, by omega, by go_num, rfl, hq0, by omega, hide ?_, hb⟩
                rw [Htake.out]
                intro u hu
                rcases List.mem_append.1 hu with h | h
                · exact hP.out u h
                · simp only [List.mem_singleton] at h
                  subst h
                  exact Hx100.out
              case measure => simp [intOf]; omega
      · have hj9 : j = 300 := by omega
        have Hlen := hide (show ¬ n ≤ 300 by omega)
        go_wp2_with fail
        all_goals
          go_ret
          refine ⟨_, rfl, ⟨_, rfl, fun h => ?_⟩, hb⟩
          simp at h
        try exact ⟨h.1, fun h3 => absurd h3 Hlen.out⟩
    · have hjn : j = n := by omega
      have z0 : ¬ (j : Int) < n := by omega
      have htk : L.take j = L := List.take_of_length_le (by rw [Hn.out]; omega)
      rw [htk] at hP
      clear htk
      go_wp2_with fail
      all_goals
        go_ret
        refine ⟨_, rfl, ⟨_, rfl, fun h => ?_⟩, hb⟩
        simp at h
      try exact ⟨h.1, fun _ => hP.out⟩
end Go.Proofs.Ytmkpfdcnikgokaa
