/-
  Whether two lists of operations are the same, and a list's copy, by the document. Condition: places of fewer than 2^43 runs, lists of fewer than 2^30 operations.
-/
import Derived.Test.YtbjfmkdjnglgbaaListMath
import Derived.Test.YtbjfmkdjnglgbaaBig
namespace Go.Proofs.Ytbjfmkdjnglgbaa
open Go.RowKit

theorem op_eq {x y : OpL} : x.op = y.op ↔ x.k = y.k ∧ x.t = y.t ∧ x.r = y.r ∧ x.p = y.p ∧ x.z = y.z := by
  simp only [OpL.op, Prod.mk.injEq]

set_option maxHeartbeats 3200000 in
set_option maxRecDepth 100000 in
theorem listsame_any (A B : Option Addr) (n m c d : Nat) (L M : List OpL) (w : World) (hr : RO w w.heap.size A L) (hs : RO w w.heap.size B M) (hn : L.length = n) (hm : M.length = m) (hl : ∀ x ∈ L, x.p.length < 8796093022208) (hl' : ∀ x ∈ M, x.p.length < 8796093022208) (hn9 : n < 1073741824) :
    Calls Try.prog 73 #[.slice A n c, .slice B m d] w fun e w' => e = .returned (.bool (decide (L.map OpL.op = M.map OpL.op))) ∧ Below w.heap.size w w' := by
  have HR := hide hr
  have HS := hide hs
  have Hl := hide (And.intro hl hl')
  have Hnm := hide (And.intro hn hm)
  clear hr hs hl hl'
  by_cases hne : (n : Int) = (m : Int)
  · have hnm : n = m := by omega
    have hbe : ((n : Int) == (m : Int)) = true := by simpa using hne
    have hbn : ((n : Int) != (m : Int)) = false := by simpa using hne
    have E := hide hnm
    clear hne hn hm hnm
    go_enter Try.func73, Try.ntmps73
    go_wp2_with fail
    go_loopw [5] (fun i wr => ∃ j : Nat, j ≤ n ∧ i = .int .i64 (j : Int) ∧ Hid ((L.take j).map OpL.op = (M.take j).map OpL.op) ∧ Below w.heap.size w wr) (fun i _ => n - (intOf i).toNat)
    case atStart => exact ⟨0, by omega, rfl, hide rfl, Below.refl _ _⟩
    case round =>
      obtain ⟨j, hj, rfl, hT, hb⟩ := hrel
      by_cases hlt : j < n
      · have z0 : (j : Int) < n := by omega
        have z1 : (j : Int) < m := by have := E.out; omega
        have zj : (0 : Int) ≤ j := by omega
        have hltL : j < L.length := by rw [Hnm.out.1]; exact hlt
        have hltM : j < M.length := by rw [Hnm.out.2, ← E.out]; exact hlt
        obtain ⟨b0, o0, rfl, hB0, hC0⟩ := RO.cell (HR.out.below hb) (by omega)
        obtain ⟨b1, o1, rfl, hB1, hC1⟩ := RO.cell (HS.out.below hb) (by omega)
        obtain ⟨x, hx⟩ : ∃ x, L[j] = x := ⟨_, rfl⟩
        obtain ⟨y, hy⟩ : ∃ y, M[j] = y := ⟨_, rfl⟩
        obtain ⟨d0, d1, d2, d3, d4⟩ := hC0 j hltL
        obtain ⟨e0, e1, e2, e3, e4⟩ := hC1 j hltM
        rw [hx] at d0 d1 d2 d3 d4
        rw [hy] at e0 e1 e2 e3 e4
        have hxm : x ∈ L := by rw [← hx]; exact List.getElem_mem hltL
        have hym : y ∈ M := by rw [← hy]; exact List.getElem_mem hltM
        have S := hide (fun u => oprefsame_big x.k x.t x.r x.z y.k y.t y.r y.z x.A y.A x.p.length y.p.length x.c y.c x.p y.p (past wr u) (RR.below' (((HR.out.below hb).more hb.size).2 x hxm) (below_past wr u)) (RR.below' (((HS.out.below hb).more hb.size).2 y hym) (below_past wr u)) rfl rfl (Hl.out.1 x hxm) (Hl.out.2 y hym))
        have T0 := hide (show (L.take (j + 1)).map OpL.op = (L.take j).map OpL.op ++ [x.op] by rw [List.take_succ_eq_append_getElem hltL, hx, List.map_append]; rfl)
        have T1 := hide (show (M.take (j + 1)).map OpL.op = (M.take j).map OpL.op ++ [y.op] by rw [List.take_succ_eq_append_getElem hltM, hy, List.map_append]; rfl)
        have X0 := hide (And.intro hx hy)
        have hB0r : b0 < wr.heap.size := by have := hb.size; omega
        have hB1r : b1 < wr.heap.size := by have := hb.size; omega
        clear hC0 hC1 hxm hym hx hy
        obtain ⟨bv, hbv⟩ : ∃ bv, decide (x.k = y.k ∧ x.t = y.t ∧ x.r = y.r ∧ x.p = y.p ∧ x.z = y.z) = bv := ⟨_, rfl⟩
        rw [hbv] at S
        have Hbv := hide hbv
        clear hbv
        go_wp2_with fail
        refine wp_region_past (by kernel_rfl) (by kernel_rfl) ?_
        repeat (quiet_step ((go_at_call 58; with_reducible exact past_call (unhide S _))))
        refine wpQuiet_nil ?_
        intro w3 hw3
        obtain ⟨u, rfl⟩ := hw3
        have hb3 := fresh hb (below_past wr u)
        clear d0 d1 d2 d3 d4 e0 e1 e2 e3 e4
        cases bv
        · have hf := hide (show decide (L.map OpL.op = M.map OpL.op) = false from decide_eq_false fun h => by
            have h1 := congrArg (fun l => l[j]?) h
            simp only [List.getElem?_map, List.getElem?_eq_getElem hltL, List.getElem?_eq_getElem hltM, X0.out.1, X0.out.2, Option.map_some, Option.some.injEq] at h1
            exact (of_decide_eq_false Hbv.out) (op_eq.1 h1))
          go_wp2_with fail
          go_ret
          exact ⟨ret_bool hf.out.symm, hb3⟩
        · go_wp2_with fail
          go_roundw
          case rel =>
            refine ⟨j + 1, by omega, by go_num, hide ?_, hb3⟩
            rw [T0.out, T1.out, hT.out, op_eq.2 (of_decide_eq_true Hbv.out)]
          case measure => simp [intOf]; omega
      · have z0 : ¬ (j : Int) < n := by omega
        have fin := hide (show decide (L.map OpL.op = M.map OpL.op) = true by
          have h1 := hT.out
          rw [List.take_of_length_le (by rw [Hnm.out.1]; omega), List.take_of_length_le (by rw [Hnm.out.2, ← E.out]; omega)] at h1
          exact decide_eq_true h1)
        go_wp2_with fail
        go_ret
        exact ⟨ret_bool fin.out.symm, hb⟩
  · have hbe : ((n : Int) == (m : Int)) = false := by simpa using hne
    have hbn : ((n : Int) != (m : Int)) = true := by simpa using hne
    have fin := hide (show decide (L.map OpL.op = M.map OpL.op) = false by
      rw [decide_eq_false_iff_not]
      intro e
      have := congrArg List.length e
      rw [List.length_map, List.length_map, hn, hm] at this
      exact hne (by rw [this]))
    clear hne hn hm
    go_enter Try.func73, Try.ntmps73
    go_wp2_with fail
    go_ret
    exact ⟨ret_bool fin.out.symm, Below.refl _ _⟩

set_option maxHeartbeats 3200000 in
set_option maxRecDepth 100000 in
theorem listtwin_any (A : Option Addr) (n c : Nat) (L : List OpL) (w : World) (hr : RO w w.heap.size A L) (hn : L.length = n) (hl : ∀ x ∈ L, x.p.length < 8796093022208) (hn9 : n < 1000000000) :
    Calls Try.prog 69 #[.slice A n c] w fun e w' => ∃ A' c' L', e = .returned (.slice A' n c') ∧ L'.map OpL.op = L.map OpL.op ∧ OO w' w.heap.size A' c' L' ∧ Below w.heap.size w w' := by
  obtain ⟨i0, hi0, hz0, hz1, hz2⟩ := info_parts opinfo
  have HR := hide hr
  have Hl := hide hl
  have Hn := hide hn
  clear hr hl hn
  go_enter Try.func69, Try.ntmps69
  go_wp2_with fail
  go_loopw [3, 4] (fun v i wr => ∃ (j : Nat) (A' : Option Addr) (c' : Nat) (L' : List OpL), j ≤ n ∧ i = .int .i64 (j : Int) ∧ v = .slice A' j c' ∧ Hid (L'.length = j) ∧ Hid (L'.map OpL.op = (L.take j).map OpL.op) ∧ Hid (OO wr w.heap.size A' c' L') ∧ Below w.heap.size w wr) (fun _ i _ => n - (intOf i).toNat)
  case atStart => exact ⟨0, none, 0, [], by omega, rfl, rfl, hide rfl, hide rfl, hide (OO.nil _ _), Below.refl _ _⟩
  case round =>
    obtain ⟨j, A', c', L', hj, rfl, rfl, hLl, hLm, hOO, hb⟩ := hrel
    by_cases hlt : j < n
    · have z0 : (j : Int) < n := by omega
      have zj : (0 : Int) ≤ j := by omega
      have hltL : j < L.length := by rw [Hn.out]; exact hlt
      obtain ⟨b0, o0, rfl, hB0, hC0⟩ := RO.cell (HR.out.below hb) (by omega)
      obtain ⟨x, hx⟩ : ∃ x, L[j] = x := ⟨_, rfl⟩
      obtain ⟨d0, d1, d2, d3, d4⟩ := hC0 j hltL
      rw [hx] at d0 d1 d2 d3 d4
      have hxm : x ∈ L := by rw [← hx]; exact List.getElem_mem hltL
      have T := hide (oreftwin_big x.k x.t x.r x.z x.A x.p.length x.c x.p wr (((HR.out.below hb).more hb.size).2 x hxm) rfl (Hl.out x hxm))
      have T0 := hide (show (L.take (j + 1)).map OpL.op = (L.take j).map OpL.op ++ [x.op] by rw [List.take_succ_eq_append_getElem hltL, hx, List.map_append]; rfl)
      clear hC0 hxm hx
      go_wp2_with fail
      refine T.out.mono ?_
      rintro e w2 ⟨A2, c2, rfl, -, hown2, hb2⟩
      have hb02 := fresh hb hb2
      have HOO2 := hide (hOO.out.below hb2)
      have Hown2 := hide hown2
      clear d0 d1 d2 d3 d4 hown2
      go_wp2_with (at_builtin; refine wpList_append_op _ rfl (.tmp 11) (.tmp 17) rfl w.heap.size A' c' j L' hLl.out rfl (HOO2.out.below (boxed _ _)) ⟨x.k, x.t, x.r, A2, c2, x.p, x.z⟩ (own_less (own_below Hown2.out (boxed _ _) (Nat.le_refl _)) hb.size) (some ⟨w2.heap.size, 0, none⟩) rfl (op_row w2 ⟨x.k, x.t, x.r, A2, c2, x.p, x.z⟩) (by omega) (Nat.le_trans hb02.size (boxed w2 _).size) ?_; intro A3 c3 w3 hOO3 hb3 hk3)
      go_roundw
      case rel =>
        refine ⟨j + 1, A3, c3, L' ++ [⟨x.k, x.t, x.r, A2, c2, x.p, x.z⟩], by omega, by go_num, rfl, hide ?_, hide ?_, hide hOO3, (fresh hb02 (boxed w2 _)).trans hb3⟩
        · rw [List.length_append, hLl.out]; rfl
        · rw [T0.out, List.map_append, hLm.out]; rfl
      case measure => simp [intOf]; omega
    · have z0 : ¬ (j : Int) < n := by omega
      have hjn : j = n := by omega
      subst hjn
      rw [List.take_of_length_le (by rw [Hn.out]; omega)] at hLm
      go_wp2_with fail
      refine bodyPost_ret (v := .slice A' j c') (by simp [results, Try.results69, go_sem]) rfl ?_
      exact ⟨A', c', rfl, L', hLm.out, hOO.out, hb⟩
end Go.Proofs.Ytbjfmkdjnglgbaa
