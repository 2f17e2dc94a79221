/-
  Texts of this claim, put together: MailRef. What each theorem asks stands in its statement.
-/
import Derived.Test.YtmkpfdcnikgokaaMc10
import Derived.Test.YtmkpfdcnikgokaaMc23
import Derived.Test.YtmkpfdcnikgokaaMc31
import Derived.Test.YtmkpfdcnikgokaaMc36
set_option linter.unusedVariables false
set_option linter.unusedSimpArgs false
namespace Go.Proofs.Ytmkpfdcnikgokaa
open Go.RowKit
set_option maxHeartbeats 1600000 in
set_option maxRecDepth 100000 in
theorem spref_any (A B : Option Addr) (c d n k : Nat) (l m : List Sp) (w : World) (hr : RS w w.heap.size A l) (hs : RS w w.heap.size B m) (hn : l.length = n) (hk : m.length = k) (hl : n < 1073741824) :
    Calls Try.prog 78 #[.slice A n c, .slice B k d] w fun e w' => e = .returned (.bool (decide (l = m))) ∧ Below w.heap.size w w' := by
  subst hn hk
  by_cases hne : (l.length : Int) = (m.length : Int)
  · have hll : l.length = m.length := by omega
    have E := hide hll
    have hbe : ((l.length : Int) == (m.length : Int)) = true := by simpa using hne
    have hbn : ((l.length : Int) != (m.length : Int)) = false := by simpa using hne
    clear hne
    go_enter Try.func78, Try.ntmps78
    clear hll
    go_wp2_with fail
    go_loopw [5] (fun i wr => ∃ k : Nat, k ≤ l.length ∧ i = .int .i64 (k : Int) ∧ Hid (l.take k = m.take k) ∧ Below w.heap.size w wr) (fun i _ => l.length - (intOf i).toNat)
    case atStart => exact ⟨0, by omega, rfl, hide rfl, Below.refl _ _⟩
    case round =>
      obtain ⟨k, hk, rfl, hT, hb⟩ := hrel
      by_cases hlt : k < l.length
      · have hltm : k < m.length := by have := E.out; omega
        obtain ⟨b0, o0, rfl, hB0, hC0⟩ := RS.cell (RD.below hr hb) (by omega)
        obtain ⟨b1, o1, rfl, hB1, hC1⟩ := RS.cell (RD.below hs hb) (by omega)
        obtain ⟨d0, d1⟩ := hC0 k hlt
        obtain ⟨e0, e1⟩ := hC1 k hltm
        clear hC0 hC1
        have z0 : (k : Int) < l.length := by omega
        have z1 : (k : Int) < m.length := by omega
        have z4 : (0 : Int) ≤ k := by omega
        obtain ⟨x0, hx0⟩ : ∃ x, x = l[k].1 := ⟨_, rfl⟩
        obtain ⟨x1, hx1⟩ : ∃ x, x = l[k].2 := ⟨_, rfl⟩
        obtain ⟨y0, hy0⟩ : ∃ x, x = m[k].1 := ⟨_, rfl⟩
        obtain ⟨y1, hy1⟩ : ∃ x, x = m[k].2 := ⟨_, rfl⟩
        rw [← hx0] at d0
        rw [← hx1] at d1
        rw [← hy0] at e0
        rw [← hy1] at e1
        have hX := hide (show l[k] = (x0, x1) by rw [hx0, hx1])
        have hY := hide (show m[k] = (y0, y1) by rw [hy0, hy1])
        clear hx0 hx1 hy0 hy1
        by_cases hxy : x0 = y0 ∧ x1 = y1
        · obtain ⟨rfl, rfl⟩ := hxy
          go_wp2_with fail
          go_quiet (fail)
          go_wp2_with fail
          go_roundw
          case rel =>
            refine ⟨k + 1, by omega, by go_num, hide ?_, below_drewN hb _⟩
            rw [List.take_succ_eq_append_getElem hlt, List.take_succ_eq_append_getElem hltm, hT.out, hX.out, hY.out]
          case measure => simp [intOf]; omega
        · have hcs : (¬ x0 = y0) ∨ (x0 = y0 ∧ ¬ x1 = y1) := by
            by_cases h0 : x0 = y0
            · exact .inr ⟨h0, fun h1 => hxy ⟨h0, h1⟩⟩
            · exact .inl h0
          have hf := hide (show decide (l = m) = false by
            rw [decide_eq_false_iff_not]
            intro e
            subst e
            have := hX.out.symm.trans hY.out
            simp only [Prod.mk.injEq] at this
            exact hxy this)
          clear hxy
          rcases hcs with h0 | ⟨rfl, h1⟩
          all_goals
            go_wp2_with fail
            go_quiet (fail)
            go_wp2_with fail
            go_ret
            exact ⟨ret_bool hf.out.symm, below_drewN hb _⟩
      · have hkl : ¬ (k : Int) < l.length := by omega
        have fin := hide (show decide (l = m) = true by
          have h1 := hT.out
          rw [List.take_of_length_le (by omega), List.take_of_length_le (by have := E.out; omega)] at h1
          exact decide_eq_true h1)
        go_wp2_with fail
        go_ret
        exact ⟨ret_bool fin.out.symm, hb⟩
  · have hbe : ((l.length : Int) == (m.length : Int)) = false := by simpa using hne
    have hbn : ((l.length : Int) != (m.length : Int)) = true := by simpa using hne
    have fin := hide (show decide (l = m) = false by
      rw [decide_eq_false_iff_not]
      intro e
      exact hne (by rw [e]))
    clear hne
    go_enter Try.func78, Try.ntmps78
    go_wp2_with fail
    go_ret
    exact ⟨ret_bool fin.out.symm, Below.refl _ _⟩
set_option maxHeartbeats 1600000 in
set_option maxRecDepth 100000 in
theorem blref_any (A B : Option Addr) (c d n k : Nat) (l m : List Bool) (w : World) (hr : RBl w w.heap.size A l) (hs : RBl w w.heap.size B m) (hn : l.length = n) (hk : m.length = k) (hl : n < 1073741824) :
    Calls Try.prog 113 #[.slice A n c, .slice B k d] w fun e w' => e = .returned (.bool (decide (l = m))) ∧ Below w.heap.size w w' := by
  subst hn hk
  by_cases hne : (l.length : Int) = (m.length : Int)
  · have hll : l.length = m.length := by omega
    have E := hide hll
    have hbe : ((l.length : Int) == (m.length : Int)) = true := by simpa using hne
    have hbn : ((l.length : Int) != (m.length : Int)) = false := by simpa using hne
    clear hne
    go_enter Try.func113, Try.ntmps113
    clear hll
    go_wp2_with fail
    go_loopw [5] (fun i wr => ∃ k : Nat, k ≤ l.length ∧ i = .int .i64 (k : Int) ∧ Hid (l.take k = m.take k) ∧ Below w.heap.size w wr) (fun i _ => l.length - (intOf i).toNat)
    case atStart => exact ⟨0, by omega, rfl, hide rfl, Below.refl _ _⟩
    case round =>
      obtain ⟨k, hk, rfl, hT, hb⟩ := hrel
      by_cases hlt : k < l.length
      · have hltm : k < m.length := by have := E.out; omega
        obtain ⟨b0, o0, rfl, hB0, hC0⟩ := RBl.cell (RD.below hr hb) (by omega)
        obtain ⟨b1, o1, rfl, hB1, hC1⟩ := RBl.cell (RD.below hs hb) (by omega)
        have d0 := hC0 k hlt
        have e0 := hC1 k hltm
        clear hC0 hC1
        have z0 : (k : Int) < l.length := by omega
        have z1 : (k : Int) < m.length := by omega
        have z4 : (0 : Int) ≤ k := by omega
        obtain ⟨x0, hx0⟩ : ∃ x, x = l[k] := ⟨_, rfl⟩
        obtain ⟨y0, hy0⟩ : ∃ x, x = m[k] := ⟨_, rfl⟩
        rw [← hx0] at d0
        rw [← hy0] at e0
        have hX := hide hx0.symm
        have hY := hide hy0.symm
        clear hx0 hy0
        by_cases hxy : x0 = y0
        · subst hxy
          go_wp2_with fail
          go_quiet (fail)
          go_wp2_with fail
          go_roundw
          case rel =>
            refine ⟨k + 1, by omega, by go_num, hide ?_, below_drewN hb _⟩
            rw [List.take_succ_eq_append_getElem hlt, List.take_succ_eq_append_getElem hltm, hT.out, hX.out, hY.out]
          case measure => simp [intOf]; omega
        · have hf := hide (show decide (l = m) = false by
            rw [decide_eq_false_iff_not]
            intro e
            subst e
            exact hxy (hX.out.symm.trans hY.out))
          have hbx : (x0 != y0) = true := by simpa using hxy
          have hbe' : (x0 == y0) = false := by simpa using hxy
          clear hxy
          go_wp2_with fail
          go_quiet (fail)
          go_wp2_with fail
          go_ret
          exact ⟨ret_bool hf.out.symm, below_drewN hb _⟩
      · have hkl : ¬ (k : Int) < l.length := by omega
        have fin := hide (show decide (l = m) = true by
          have h1 := hT.out
          rw [List.take_of_length_le (by omega), List.take_of_length_le (by have := E.out; omega)] at h1
          exact decide_eq_true h1)
        go_wp2_with fail
        go_ret
        exact ⟨ret_bool fin.out.symm, hb⟩
  · have hbe : ((l.length : Int) == (m.length : Int)) = false := by simpa using hne
    have hbn : ((l.length : Int) != (m.length : Int)) = true := by simpa using hne
    have fin := hide (show decide (l = m) = false by
      rw [decide_eq_false_iff_not]
      intro e
      exact hne (by rw [e]))
    clear hne
    go_enter Try.func113, Try.ntmps113
    go_wp2_with fail
    go_ret
    exact ⟨ret_bool fin.out.symm, Below.refl _ _⟩
set_option maxHeartbeats 3200000 in
set_option maxRecDepth 100000 in
theorem tmref_any (A B : Option Addr) (c d n k : Nat) (L M : List TmL) (w : World) (hr : RT w w.heap.size A L) (hs : RT w w.heap.size B M) (hn : L.length = n) (hk : M.length = k) (hl : n < 1073741824) (ho : ∀ x ∈ L, okT x) :
    Calls Try.prog 52 #[.slice A n c, .slice B k d] w fun e w' => e = .returned (.bool (decide (L.map TmL.pt = M.map TmL.pt))) ∧ Below w.heap.size w w' := by
  have HR := hide hr
  have HS := hide hs
  have Ho := hide ho
  have Hnm := hide (And.intro hn hk)
  clear hr hs ho
  by_cases hne : (n : Int) = (k : Int)
  · have hnm : n = k := by omega
    have hbe : ((n : Int) == (k : Int)) = true := by simpa using hne
    have hbn : ((n : Int) != (k : Int)) = false := by simpa using hne
    have E := hide hnm
    clear hne hn hk hnm
    go_enter Try.func52, Try.ntmps52
    go_wp2_with fail
    go_loopw [5] (fun i wr => ∃ j : Nat, j ≤ n ∧ i = .int .i64 (j : Int) ∧ Hid ((L.take j).map TmL.pt = (M.take j).map TmL.pt) ∧ Below w.heap.size w wr) (fun i _ => n - (intOf i).toNat)
    case atStart => exact ⟨0, by omega, rfl, hide rfl, Below.refl _ _⟩
    case round =>
      obtain ⟨j, hj, rfl, hT, hb⟩ := hrel
      by_cases hlt : j < n
      · have z0 : (j : Int) < n := by omega
        have z1 : (j : Int) < k := by have := E.out; omega
        have zj : (0 : Int) ≤ j := by omega
        have hltL : j < L.length := by rw [Hnm.out.1]; exact hlt
        have hltM : j < M.length := by rw [Hnm.out.2, ← E.out]; exact hlt
        obtain ⟨b0, o0, rfl, hB0, hC0⟩ := RT.cell (HR.out.below hb) (by omega)
        obtain ⟨b1, o1, rfl, hB1, hC1⟩ := RT.cell (HS.out.below hb) (by omega)
        obtain ⟨x, hx⟩ : ∃ x, L[j] = x := ⟨_, rfl⟩
        obtain ⟨y, hy⟩ : ∃ y, M[j] = y := ⟨_, rfl⟩
        obtain ⟨d0, d1⟩ := hC0 j hltL
        obtain ⟨e0, e1⟩ := hC1 j hltM
        rw [hx] at d0 d1
        rw [hy] at e0 e1
        have hxm : x ∈ L := by rw [← hx]; exact List.getElem_mem hltL
        have hym : y ∈ M := by rw [← hy]; exact List.getElem_mem hltM
        have HX := hide (((HR.out.below hb).more hb.size).2 x hxm)
        have HY := hide (((HS.out.below hb).more hb.size).2 y hym)
        have Hox := hide (Ho.out x hxm)
        have T0 := hide (show (L.take (j + 1)).map TmL.pt = (L.take j).map TmL.pt ++ [TmL.pt x] by rw [List.take_succ_eq_append_getElem hltL, hx, List.map_append]; rfl)
        have T1 := hide (show (M.take (j + 1)).map TmL.pt = (M.take j).map TmL.pt ++ [TmL.pt y] by rw [List.take_succ_eq_append_getElem hltM, hy, List.map_append]; rfl)
        have X0 := hide (And.intro hx hy)
        have hB0r : b0 < wr.heap.size := by have := hb.size; omega
        have hB1r : b1 < wr.heap.size := by have := hb.size; omega
        have NO := hide (show ∀ (h : TmL.pt x ≠ TmL.pt y), decide (L.map TmL.pt = M.map TmL.pt) = false from fun h => decide_eq_false fun h' => by
          have h1 := congrArg (fun l => l[j]?) h'
          simp only [List.getElem?_map, List.getElem?_eq_getElem hltL, List.getElem?_eq_getElem hltM, hx, hy, Option.map_some, Option.some.injEq] at h1
          exact h h1)
        have YES := hide (show TmL.pt x = TmL.pt y → (L.take (j + 1)).map TmL.pt = (M.take (j + 1)).map TmL.pt from fun h => by rw [T0.out, T1.out, hT.out, h])
        clear hC0 hC1 hxm hym hx hy
        obtain ⟨R, sA, sc, s⟩ := x
        obtain ⟨R', sA', sc', s'⟩ := y
        simp only at d0 d1 e0 e1
        obtain ⟨bv, hbv⟩ : ∃ bv, decide (s = s') = bv := ⟨_, rfl⟩
        have S := hide (fun u => spref_any sA sA' sc sc' s.length s'.length s s' (past wr u) ((RD.below HX.out (below_past wr u)).more (below_past wr u).size) ((RD.below HY.out (below_past wr u)).more (below_past wr u).size) rfl rfl Hox.out.2.2.2)
        rw [hbv] at S
        by_cases hR : R = R'
        · subst hR
          have Hbv : Hid (TmL.pt ⟨R, sA, sc, s⟩ = TmL.pt ⟨R, sA', sc', s'⟩ ↔ bv = true) := hide (by
            rw [← hbv, decide_eq_true_iff]
            simp only [TmL.pt, Prod.mk.injEq, true_and])
          clear hbv
          go_wp2_with fail
          refine wp_region_wq (by kernel_rfl) (by kernel_rfl) ?_
          repeat (
            refine WQ.step (fun K hK => ?_)
            go_simp
            first
              | (refine hK _ ?_; clear hK K)
              | (apply Exists.intro
                 refine ⟨fun _ => ?_, hK _ ?_⟩
                 (go_at_call 78; with_reducible exact past_call (unhide S _))
                 clear hK K))
          refine WQ.nil ?_
          intro u
          have hb3 := fresh hb (below_past wr u)
          clear d0 d1 e0 e1
          cases bv
          · have hf := hide (NO.out (fun h => by have := Hbv.out.1 h; cases this))
            go_wp2_with fail
            go_ret
            exact ⟨ret_bool hf.out.symm, hb3⟩
          · have hT2 := hide (YES.out (Hbv.out.2 rfl))
            go_wp2_with fail
            go_roundw
            case rel => exact ⟨j + 1, by omega, by go_num, hT2, hb3⟩
            case measure => simp [intOf]; omega
        · have hRb : (R != R') = true := by simpa using hR
          have hRe : (R == R') = false := by simpa using hR
          have hf := hide (NO.out (fun h => hR (by simp only [TmL.pt, Prod.mk.injEq] at h; exact h.1)))
          clear hR hbv
          go_wp2_with fail
          refine wp_region_wq (by kernel_rfl) (by kernel_rfl) ?_
          repeat (
            refine WQ.step (fun K hK => ?_)
            go_simp
            first
              | (refine hK _ ?_; clear hK K)
              | (apply Exists.intro
                 refine ⟨fun _ => ?_, hK _ ?_⟩
                 (go_at_call 78; with_reducible exact past_call (unhide S _))
                 clear hK K))
          refine WQ.nil ?_
          intro u
          have hb3 := fresh hb (below_past wr u)
          clear d0 d1 e0 e1
          go_wp2_with fail
          go_ret
          exact ⟨ret_bool hf.out.symm, hb3⟩
      · have z0 : ¬ (j : Int) < n := by omega
        have fin := hide (show decide (L.map TmL.pt = M.map TmL.pt) = true by
          have h1 := hT.out
          rw [List.take_of_length_le (by rw [Hnm.out.1]; omega), List.take_of_length_le (by rw [Hnm.out.2, ← E.out]; omega)] at h1
          exact decide_eq_true h1)
        go_wp2_with fail
        go_ret
        exact ⟨ret_bool fin.out.symm, hb⟩
  · have hbe : ((n : Int) == (k : Int)) = false := by simpa using hne
    have hbn : ((n : Int) != (k : Int)) = true := by simpa using hne
    have fin := hide (show decide (L.map TmL.pt = M.map TmL.pt) = false by
      rw [decide_eq_false_iff_not]
      intro e
      have := congrArg List.length e
      rw [List.length_map, List.length_map, hn, hk] at this
      exact hne (by rw [this]))
    clear hne hn hk
    go_enter Try.func52, Try.ntmps52
    go_wp2_with fail
    go_ret
    exact ⟨ret_bool fin.out.symm, Below.refl _ _⟩
set_option maxHeartbeats 3200000 in
set_option maxRecDepth 100000 in
theorem enrefP (t r t' r' : Int) (rd kn rd' kn' : Bool) (sA sA' gA gA' : Option Addr) (sc sc' gc gc' : Nat) (s s' : List TmL) (g g' : List Bool) (w : World) (hr : RT w w.heap.size sA s ∧ RBl w w.heap.size gA g) (hs : RT w w.heap.size sA' s' ∧ RBl w w.heap.size gA' g') (ho : (∀ y ∈ s, okT y) ∧ s.length < 1073741824 ∧ g.length < 1073741824) :
    Calls Try.prog 101 #[Go.Proofs.Ytmkpfdcnikgokaa.env t r rd kn (.slice sA s.length sc) (.slice gA g.length gc), Go.Proofs.Ytmkpfdcnikgokaa.env t' r' rd' kn' (.slice sA' s'.length sc') (.slice gA' g'.length gc')] w fun e w' => e = .returned (.bool (decide ((((t, r), (rd, kn), (s.map TmL.pt, g)) : EnP) = ((t', r'), (rd', kn'), (s'.map TmL.pt, g'))))) ∧ Below w.heap.size w w' := by
  obtain ⟨w1, hw1, F1, hs1, hb1⟩ := entry_box w (.int .u32 t) (.int .u8 r) (.bool rd) (.bool false) (.int .i64 0) (.bool kn) (.slice sA s.length sc) (.slice gA g.length gc)
  obtain ⟨w2, hw2, F2, hs2, hb2⟩ := entry_box w1 (.int .u32 t') (.int .u8 r') (.bool rd') (.bool false) (.int .i64 0) (.bool kn') (.slice sA' s'.length sc') (.slice gA' g'.length gc')
  have hb02 := fresh hb1 hb2
  have HF1 := hide (F1.below hb2)
  have HF2 := hide F2
  obtain ⟨a0, a1, a2, a3, a4, a5, a6, a7⟩ := HF1.out.cells
  obtain ⟨b0, b1, b2, b3, b4, b5, b6, b7⟩ := F2.cells
  have P := hide (tmref_any sA sA' sc sc' s.length s'.length s s' w2 ((hr.1.below hb02).more hb02.size) ((hs.1.below hb02).more hb02.size) rfl rfl ho.2.1 ho.1)
  have Q := hide (fun W (h : Below w2.heap.size w2 W) => blref_any gA gA' gc gc' g.length g'.length g g' W (RD.more (RD.below (RD.more (RD.below hr.2 hb02) hb02.size) h) h.size) (RD.more (RD.below (RD.more (RD.below hs.2 hb02) hb02.size) h) h.size) rfl rfl ho.2.2)
  have HEn : Hid ((((t, r), (rd, kn), (s.map TmL.pt, g)) : EnP) = ((t', r'), (rd', kn'), (s'.map TmL.pt, g')) ↔ t = t' ∧ r = r' ∧ rd = rd' ∧ kn = kn' ∧ s.map TmL.pt = s'.map TmL.pt ∧ g = g') := hide (by simp only [Prod.mk.injEq, and_assoc])
  obtain ⟨q1, hS1⟩ : ∃ q, decide (s.map TmL.pt = s'.map TmL.pt) = q := ⟨_, rfl⟩
  obtain ⟨q2, hS2⟩ : ∃ q, decide (g = g') = q := ⟨_, rfl⟩
  rw [hS1] at P
  rw [hS2] at Q
  obtain ⟨en, hen⟩ : ∃ q, decide ((((t, r), (rd, kn), (s.map TmL.pt, g)) : EnP) = ((t', r'), (rd', kn'), (s'.map TmL.pt, g'))) = q := ⟨_, rfl⟩
  rw [hen]
  have HD : Hid (en = true ↔ t = t' ∧ r = r' ∧ rd = rd' ∧ kn = kn' ∧ q1 = true ∧ q2 = true) := hide (by
    rw [← hen, ← hS1, ← hS2, decide_eq_true_iff, decide_eq_true_iff, decide_eq_true_iff]
    exact HEn.out)
  clear hen hS1 hS2 HEn ho hr hs F1 F2
  have no : ∀ (P : Prop), (en = true → P) → ¬ P → en = false := fun P h1 h2 => by
    cases he : en
    · rfl
    · exact absurd (h1 he) h2
  have NO := hide no
  clear no
  by_cases c0 : t = t'
  rotate_left
  · have hE := hide (NO.out _ (fun h => (HD.out.1 h).1) c0)
    go_enter Try.func101, Try.ntmps101
    go_wp2_with fail
    go_ret
    exact ⟨by rw [hE.out]; rfl, hb02⟩
  subst c0
  by_cases c1 : r = r'
  rotate_left
  · have hE := hide (NO.out _ (fun h => (HD.out.1 h).2.1) c1)
    go_enter Try.func101, Try.ntmps101
    go_wp2_with fail
    go_ret
    exact ⟨by rw [hE.out]; rfl, hb02⟩
  subst c1
  by_cases c2 : rd = rd'
  rotate_left
  · have hE := hide (NO.out _ (fun h => (HD.out.1 h).2.2.1) c2)
    have hbb : (rd == rd') = false := by simpa using c2
    go_enter Try.func101, Try.ntmps101
    go_wp2_with fail
    go_ret
    exact ⟨by rw [hE.out]; rfl, hb02⟩
  subst c2
  by_cases c3 : kn = kn'
  rotate_left
  · have hE := hide (NO.out _ (fun h => (HD.out.1 h).2.2.2.1) c3)
    have hbb : (kn == kn') = false := by simpa using c3
    go_enter Try.func101, Try.ntmps101
    go_wp2_with fail
    go_ret
    exact ⟨by rw [hE.out]; rfl, hb02⟩
  subst c3
  cases q1 with
  | false =>
    have hE := hide (NO.out _ (fun h => (HD.out.1 h).2.2.2.2.1) (by decide))
    go_enter Try.func101, Try.ntmps101
    go_wp2_with fail
    refine P.out.mono ?_
    rintro e w3 ⟨rfl, hb3⟩
    clear a0 a1 a2 a3 a4 a5 a6 a7 b0 b1 b2 b3 b4 b5 b6 b7
    go_wp2_with fail
    go_ret
    exact ⟨by rw [hE.out]; rfl, fresh hb02 hb3⟩
  | true =>
    have hE := hide (show en = q2 by
      cases q2
      · exact NO.out _ (fun h => (HD.out.1 h).2.2.2.2.2) (by decide)
      · exact HD.out.2 ⟨rfl, rfl, rfl, rfl, rfl, rfl⟩)
    go_enter Try.func101, Try.ntmps101
    go_wp2_with fail
    refine P.out.mono ?_
    rintro e w3 ⟨rfl, hb3⟩
    clear a0 a1 a2 a3 a4 a5 a6 a7 b0 b1 b2 b3 b4 b5 b6 b7
    obtain ⟨a0, a1, a2, a3, a4, a5, a6, a7⟩ := (HF1.out.below hb3).cells
    obtain ⟨b0, b1, b2, b3, b4, b5, b6, b7⟩ := (HF2.out.below hb3).cells
    go_wp2_with fail
    refine (Q.out w3 hb3).mono ?_
    rintro e w4 ⟨rfl, hb4⟩
    clear a0 a1 a2 a3 a4 a5 a6 a7 b0 b1 b2 b3 b4 b5 b6 b7
    go_wp2_with fail
    go_ret
    exact ⟨by rw [hE.out]; rfl, fresh (fresh hb02 hb3) hb4⟩
set_option maxHeartbeats 3200000 in
set_option maxRecDepth 100000 in
theorem wsref (t r t' r' : Int) (rd kn rd' kn' : Bool) (hA hA' sA sA' gA gA' : Option Addr) (hc hc' sc sc' gc gc' : Nat) (h h' s s' : List TmL) (g g' : List Bool) (w : World) (hr : RT w w.heap.size hA h ∧ RT w w.heap.size sA s ∧ RBl w w.heap.size gA g) (hs : RT w w.heap.size hA' h' ∧ RT w w.heap.size sA' s' ∧ RBl w w.heap.size gA' g') (ho : okW ⟨t, r, rd, kn, hA, hc, h, sA, sc, s, gA, gc, g⟩) :
    Calls Try.prog 80 #[wsv t r rd kn (.slice hA h.length hc) (.slice sA s.length sc) (.slice gA g.length gc), wsv t' r' rd' kn' (.slice hA' h'.length hc') (.slice sA' s'.length sc') (.slice gA' g'.length gc')] w fun e w' => e = .returned (.bool (decide ((((t, r), (rd, kn), (s.map TmL.pt, g)) : EnP) = ((t', r'), (rd', kn'), (s'.map TmL.pt, g')) ∧ h.map TmL.pt = h'.map TmL.pt))) ∧ Below w.heap.size w w' := by
  obtain ⟨w1, hw1, F1, hs1, hb1⟩ := wish_box w (.int .u32 t) (.int .u8 r) (.bool rd) (.slice hA h.length hc) (.bool kn) (.slice sA s.length sc) (.slice gA g.length gc)
  obtain ⟨w2, hw2, F2, hs2, hb2⟩ := wish_box w1 (.int .u32 t') (.int .u8 r') (.bool rd') (.slice hA' h'.length hc') (.bool kn') (.slice sA' s'.length sc') (.slice gA' g'.length gc')
  obtain ⟨w3, hw3, F3, hs3, hb3⟩ := entry_box w2 (.int .u32 t) (.int .u8 r) (.bool rd) (.bool false) (.int .i64 0) (.bool kn) (.slice sA s.length sc) (.slice gA g.length gc)
  obtain ⟨w4, hw4, F4, hs4, hb4⟩ := entry_box w3 (.int .u32 t') (.int .u8 r') (.bool rd') (.bool false) (.int .i64 0) (.bool kn') (.slice sA' s'.length sc') (.slice gA' g'.length gc')
  have hb24 : Below w2.heap.size w2 w4 := fresh hb3 hb4
  have hb14 := fresh hb2 hb24
  have hb04 := fresh hb1 hb14
  have HF1 := hide (F1.below hb14)
  have HF2 := hide (F2.below hb24)
  obtain ⟨a0, a1, a2, a3, a4, a5, a6⟩ := (F1.below hb2).cells
  obtain ⟨b0, b1, b2, b3, b4, b5, b6⟩ := F2.cells
  obtain ⟨c0, c1, c2, c3, c4, c5, c6⟩ := (F1.below (fresh hb2 hb3)).cells
  obtain ⟨d0, d1, d2, d3, d4, d5, d6⟩ := (F2.below hb3).cells
  obtain ⟨e0, e1, e2, e3, e4, e5, e6, e7⟩ := (F3.below hb4).cells
  obtain ⟨f0, f1, f2, f3, f4, f5, f6, f7⟩ := F4.cells
  obtain ⟨g0, g1, g2, g3, g4, g5, g6⟩ := HF1.out.cells
  obtain ⟨i0, i1, i2, i3, i4, i5, i6⟩ := HF2.out.cells
  have P := hide (enrefP t r t' r' rd kn rd' kn' sA sA' gA gA' sc sc' gc gc' s s' g g' w4 ⟨(hr.2.1.below hb04).more hb04.size, (RD.below hr.2.2 hb04).more hb04.size⟩ ⟨(hs.2.1.below hb04).more hb04.size, (RD.below hs.2.2 hb04).more hb04.size⟩ ⟨ho.2.2.2.2.2.1, ho.2.2.2.2.2.2.2.1, ho.2.2.2.2.2.2.2.2⟩)
  have Q := hide (fun W (hW : Below w4.heap.size w4 W) => tmref_any hA hA' hc hc' h.length h'.length h h' W ((hr.1.below (fresh hb04 hW)).more (fresh hb04 hW).size) ((hs.1.below (fresh hb04 hW)).more (fresh hb04 hW).size) rfl rfl ho.2.2.2.2.2.2.1 ho.2.2.2.2.1)
  obtain ⟨q1, hS1⟩ : ∃ q, decide ((((t, r), (rd, kn), (s.map TmL.pt, g)) : EnP) = ((t', r'), (rd', kn'), (s'.map TmL.pt, g'))) = q := ⟨_, rfl⟩
  obtain ⟨q2, hS2⟩ : ∃ q, decide (h.map TmL.pt = h'.map TmL.pt) = q := ⟨_, rfl⟩
  rw [hS1] at P
  rw [hS2] at Q
  have HD := hide (show decide ((((t, r), (rd, kn), (s.map TmL.pt, g)) : EnP) = ((t', r'), (rd', kn'), (s'.map TmL.pt, g')) ∧ h.map TmL.pt = h'.map TmL.pt) = (q1 && q2) by rw [← hS1, ← hS2, Bool.decide_and])
  rw [HD.out]
  have HB := hide hb04
  clear hS1 hS2 HD hr hs ho F1 F2 F3 F4 hb1 hb2 hb3 hb4 hb24 hb14 hb04
  cases q1
  · go_enter Try.func80, Try.ntmps80
    go_wp2_with fail
    refine P.out.mono ?_
    rintro e w5 ⟨rfl, hb5⟩
    have hbz := fresh HB.out hb5
    clear a0 a1 a2 a3 a4 a5 a6 b0 b1 b2 b3 b4 b5 b6 c0 c1 c2 c3 c4 c5 c6 d0 d1 d2 d3 d4 d5 d6 e0 e1 e2 e3 e4 e5 e6 e7 f0 f1 f2 f3 f4 f5 f6 f7 g0 g1 g2 g3 g4 g5 g6 i0 i1 i2 i3 i4 i5 i6 hw1 hw2 hw3 hw4
    go_wp2_with fail
    go_ret
    exact ⟨rfl, hbz⟩
  · go_enter Try.func80, Try.ntmps80
    go_wp2_with fail
    refine P.out.mono ?_
    rintro e w5 ⟨rfl, hb5⟩
    have HB5 := hide (fresh HB.out hb5)
    clear a0 a1 a2 a3 a4 a5 a6 b0 b1 b2 b3 b4 b5 b6 c0 c1 c2 c3 c4 c5 c6 d0 d1 d2 d3 d4 d5 d6 e0 e1 e2 e3 e4 e5 e6 e7 f0 f1 f2 f3 f4 f5 f6 f7 g0 g1 g2 g3 g4 g5 g6 i0 i1 i2 i3 i4 i5 i6 hw1 hw2 hw3 hw4
    obtain ⟨g0, g1, g2, g3, g4, g5, g6⟩ := (HF1.out.below hb5).cells
    obtain ⟨i0, i1, i2, i3, i4, i5, i6⟩ := (HF2.out.below hb5).cells
    have Q5 := hide (Q.out w5 hb5)
    clear Q
    go_wp2_with fail
    refine Q5.out.mono ?_
    rintro e w6 ⟨rfl, hb6⟩
    have hbz := fresh HB5.out hb6
    clear g0 g1 g2 g3 g4 g5 g6 i0 i1 i2 i3 i4 i5 i6
    go_wp2_with fail
    go_ret
    exact ⟨by cases q2 <;> rfl, hbz⟩
theorem wp_iff {x y : WsL} : x.wp = y.wp ↔ x.en = y.en ∧ x.h.map TmL.pt = y.h.map TmL.pt := by
  simp only [WsL.wp, WsL.en, WP.mk.injEq, Prod.mk.injEq]
  constructor
  · rintro ⟨a, b, c, d, e, f, g⟩
    exact ⟨⟨⟨a, b⟩, ⟨c, d⟩, f, g⟩, e⟩
  · rintro ⟨⟨⟨a, b⟩, ⟨c, d⟩, f, g⟩, e⟩
    exact ⟨a, b, c, d, e, f, g⟩
instance : DecidableEq WP := fun x y => decidable_of_iff (WP.en x = WP.en y ∧ WP.hp x = WP.hp y) ⟨fun h => wp_ext h.1 h.2, fun h => by rw [h]; exact ⟨rfl, rfl⟩⟩
set_option maxHeartbeats 3200000 in
set_option maxRecDepth 100000 in
theorem wssref_any (A B : Option Addr) (c d n k : Nat) (L M : List WsL) (w : World) (hr : RW w w.heap.size A L) (hs : RW w w.heap.size B M) (hn : L.length = n) (hk : M.length = k) (hl : n < 1073741824) (ho : ∀ x ∈ L, okW x) :
    Calls Try.prog 54 #[.slice A n c, .slice B k d] w fun e w' => e = .returned (.bool (decide (L.map WsL.wp = M.map WsL.wp))) ∧ Below w.heap.size w w' := by
  have HR := hide hr
  have HS := hide hs
  have Ho := hide ho
  have Hnm := hide (And.intro hn hk)
  clear hr hs ho
  by_cases hne : (n : Int) = (k : Int)
  · have hnm : n = k := by omega
    have hbe : ((n : Int) == (k : Int)) = true := by simpa using hne
    have hbn : ((n : Int) != (k : Int)) = false := by simpa using hne
    have E := hide hnm
    clear hne hn hk hnm
    go_enter Try.func54, Try.ntmps54
    go_wp2_with fail
    go_loopw [5] (fun i wr => ∃ j : Nat, j ≤ n ∧ i = .int .i64 (j : Int) ∧ Hid ((L.take j).map WsL.wp = (M.take j).map WsL.wp) ∧ Below w.heap.size w wr) (fun i _ => n - (intOf i).toNat)
    case atStart => exact ⟨0, by omega, rfl, hide rfl, Below.refl _ _⟩
    case round =>
      obtain ⟨j, hj, rfl, hT, hb⟩ := hrel
      by_cases hlt : j < n
      · have z0 : (j : Int) < n := by omega
        have z1 : (j : Int) < k := by have := E.out; omega
        have zj : (0 : Int) ≤ j := by omega
        have hltL : j < L.length := by rw [Hnm.out.1]; exact hlt
        have hltM : j < M.length := by rw [Hnm.out.2, ← E.out]; exact hlt
        obtain ⟨b0, o0, rfl, hB0, hC0⟩ := RW.cell (HR.out.below hb) (by omega)
        obtain ⟨b1, o1, rfl, hB1, hC1⟩ := RW.cell (HS.out.below hb) (by omega)
        obtain ⟨x, hx⟩ : ∃ x, L[j] = x := ⟨_, rfl⟩
        obtain ⟨y, hy⟩ : ∃ y, M[j] = y := ⟨_, rfl⟩
        obtain ⟨d0, d1, d2, d3, d4, d5, d6⟩ := hC0 j hltL
        obtain ⟨e0, e1, e2, e3, e4, e5, e6⟩ := hC1 j hltM
        rw [hx] at d0 d1 d2 d3 d4 d5 d6
        rw [hy] at e0 e1 e2 e3 e4 e5 e6
        have hxm : x ∈ L := by rw [← hx]; exact List.getElem_mem hltL
        have hym : y ∈ M := by rw [← hy]; exact List.getElem_mem hltM
        have HX := hide (((HR.out.below hb).more hb.size).2 x hxm)
        have HY := hide (((HS.out.below hb).more hb.size).2 y hym)
        have Hox := hide (Ho.out x hxm)
        have T0 := hide (show (L.take (j + 1)).map WsL.wp = (L.take j).map WsL.wp ++ [WsL.wp x] by rw [List.take_succ_eq_append_getElem hltL, hx, List.map_append]; rfl)
        have T1 := hide (show (M.take (j + 1)).map WsL.wp = (M.take j).map WsL.wp ++ [WsL.wp y] by rw [List.take_succ_eq_append_getElem hltM, hy, List.map_append]; rfl)
        have X0 := hide (And.intro hx hy)
        have hB0r : b0 < wr.heap.size := by have := hb.size; omega
        have hB1r : b1 < wr.heap.size := by have := hb.size; omega
        have NO := hide (show ∀ (h : WsL.wp x ≠ WsL.wp y), decide (L.map WsL.wp = M.map WsL.wp) = false from fun h => decide_eq_false fun h' => by
          have h1 := congrArg (fun l => l[j]?) h'
          simp only [List.getElem?_map, List.getElem?_eq_getElem hltL, List.getElem?_eq_getElem hltM, hx, hy, Option.map_some, Option.some.injEq] at h1
          exact h h1)
        have YES := hide (show WsL.wp x = WsL.wp y → (L.take (j + 1)).map WsL.wp = (M.take (j + 1)).map WsL.wp from fun h => by rw [T0.out, T1.out, hT.out, h])
        clear hC0 hC1 hxm hym hx hy
        obtain ⟨bv, hbv⟩ : ∃ bv, decide (x.en = y.en ∧ x.h.map TmL.pt = y.h.map TmL.pt) = bv := ⟨_, rfl⟩
        have S := hide (fun u => wsref x.t x.r y.t y.r x.rd x.kn y.rd y.kn x.hA y.hA x.sA y.sA x.gA y.gA x.hc y.hc x.sc y.sc x.gc y.gc x.h y.h x.s y.s x.g y.g (past wr u) ⟨(HX.out.1.below (below_past wr u)).more (below_past wr u).size, (HX.out.2.1.below (below_past wr u)).more (below_past wr u).size, (RD.below HX.out.2.2 (below_past wr u)).more (below_past wr u).size⟩ ⟨(HY.out.1.below (below_past wr u)).more (below_past wr u).size, (HY.out.2.1.below (below_past wr u)).more (below_past wr u).size, (RD.below HY.out.2.2 (below_past wr u)).more (below_past wr u).size⟩ Hox.out)
        change Hid (∀ u, Calls _ _ _ _ fun e w' => e = .returned (.bool (decide (x.en = y.en ∧ x.h.map TmL.pt = y.h.map TmL.pt))) ∧ _) at S
        rw [hbv] at S
        have Hbv : Hid (WsL.wp x = WsL.wp y ↔ bv = true) := hide (by rw [← hbv, decide_eq_true_iff]; exact wp_iff)
        clear hbv
        go_wp2_with fail
        refine wp_region_wq (by kernel_rfl) (by kernel_rfl) ?_
        repeat (
          refine WQ.step (fun K hK => ?_)
          go_simp
          first
            | (refine hK _ ?_; clear hK K)
            | (apply Exists.intro
               refine ⟨fun _ => ?_, hK _ ?_⟩
               (go_at_call 80; with_reducible exact past_call (unhide S _))
               clear hK K))
        refine WQ.nil ?_
        intro u
        have hb3 := fresh hb (below_past wr u)
        clear d0 d1 d2 d3 d4 d5 d6 e0 e1 e2 e3 e4 e5 e6
        cases bv
        · have hf := hide (NO.out (fun h => by have := Hbv.out.1 h; cases this))
          go_wp2_with fail
          go_ret
          exact ⟨ret_bool hf.out.symm, hb3⟩
        · have hT2 := hide (YES.out (Hbv.out.2 rfl))
          go_wp2_with fail
          go_roundw
          case rel => exact ⟨j + 1, by omega, by go_num, hT2, hb3⟩
          case measure => simp [intOf]; omega
      · have z0 : ¬ (j : Int) < n := by omega
        have fin := hide (show decide (L.map WsL.wp = M.map WsL.wp) = true by
          have h1 := hT.out
          rw [List.take_of_length_le (by rw [Hnm.out.1]; omega), List.take_of_length_le (by rw [Hnm.out.2, ← E.out]; omega)] at h1
          exact decide_eq_true h1)
        go_wp2_with fail
        go_ret
        exact ⟨ret_bool fin.out.symm, hb⟩
  · have hbe : ((n : Int) == (k : Int)) = false := by simpa using hne
    have hbn : ((n : Int) != (k : Int)) = true := by simpa using hne
    have fin := hide (show decide (L.map WsL.wp = M.map WsL.wp) = false by
      rw [decide_eq_false_iff_not]
      intro e
      have := congrArg List.length e
      rw [List.length_map, List.length_map, hn, hk] at this
      exact hne (by rw [this]))
    clear hne hn hk
    go_enter Try.func54, Try.ntmps54
    go_wp2_with fail
    go_ret
    exact ⟨ret_bool fin.out.symm, Below.refl _ _⟩
end Go.Proofs.Ytmkpfdcnikgokaa
