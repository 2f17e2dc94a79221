/-
  The lists' answers by the document. Condition: parts of their types, places of fewer than 2^43 runs.
-/
import Derived.Test.YtbjfmkdjnglgbaaOpTwin
import Derived.Test.YtbjfmkdjnglgbaaListMath
import Derived.Test.YtbjfmkdjnglgbaaCodeRefWrite
import Derived.Test.YtbjfmkdjnglgbaaCodeRefGet
namespace Go.Proofs.Ytbjfmkdjnglgbaa
open Go.RowKit

theorem wpList_append_big {P : Program} (w : World) {ops : Array Oper} {rest : List Oper} {o : Oper} {a : Act} {Q : Exit → Act → World → Prop} (hgd : o.guard = none) (s x : Operand) (t : TypeId)
    (ho : o.op = .call { callee := .builtin .append, args := #[s, x], argTypes := #[t, t] })
    (base : Nat) (e : TypeId) (i : TypeInfo) (z : Value) (size bytes : Nat) (ht : P.underlying t = some (.slice e)) (hi : P.info? e = some i) (hz : i.zero = some z)
    (hsize : i.size = size) (hby : i.bytes = bytes) (hzs : z.cells.size = size) (hsz : 0 < size)
    (v : Value) (n : Nat) (xs : List Value) (hs : a.eval s = v) (hown : w.ownsRow base e size v n xs)
    (B : Nat) (A : Option Addr) (m c : Nat) (news : List Value) (hx : a.eval x = .slice A m c) (hr : RD w B size A m news) (h1 : ∀ u ∈ news, u.oneCell' = true)
    (h63 : n + m ≤ 8796093022208) (hbytes : (n + m) * bytes ≤ 140737488355328) (hbase : base ≤ w.heap.size)
    (h : ∀ v' w', w'.ownsRow base e size v' (n + m) (xs ++ news) → Below base w w' → wpList P ops Q rest (a.put o.dst v') w') : wpList P ops Q (o :: rest) a w :=
  wpList_plain hgd fun _ hK => by
    obtain ⟨v', w', hrun, h2, h3⟩ := run_append_src (P := P) w base t o.type e i z size bytes ht hi hz hsize hby hzs hsz v n xs hown B A m c news hr h1 (by unfold maxLen; omega) hbytes hbase
    unfold Oper.wp execOp
    simp only [ho, resolve, invoke, builtin, Sem.run_bind, Sem.run_pure, Result.andThen_ok, List.map_toArray, List.map_cons, List.map_nil, hs, hx, hrun]
    exact hK _ _ (h v' w' h2 (grown_below hown h3 hbase))

set_option maxHeartbeats 1600000 in
set_option maxRecDepth 100000 in
/-- octavoref06.Same: the same runs. -/
theorem refsame_big (A B : Option Addr) (c d n k : Nat) (l m : List Rn) (w : World) (hr : RR w w.heap.size A l) (hs : RR w w.heap.size B m) (hn : l.length = n) (hk : m.length = k) (hl : n < 8796093022208) (hm : k < 8796093022208) :
    Calls Try.prog 27 #[.slice A n c, .slice B k d] w fun e w' => e = .returned (.bool (decide (l = m))) ∧ Below w.heap.size w w' := by
  subst hn hk
  by_cases hne : (l.length : Int) = (m.length : Int)
  · have hll : l.length = m.length := by omega
    have E := hide hll
    have hbe : ((l.length : Int) == (m.length : Int)) = true := by simpa using hne
    have hbn : ((l.length : Int) != (m.length : Int)) = false := by simpa using hne
    clear hne
    go_enter Try.func27, Try.ntmps27
    clear hll
    go_wp2_with fail
    go_loopw [5] (fun i wr => ∃ k : Nat, k ≤ l.length ∧ i = .int .i64 (k : Int) ∧ Hid (l.take k = m.take k) ∧ Below w.heap.size w wr) (fun i _ => l.length - (intOf i).toNat)
    case atStart => exact ⟨0, by omega, rfl, hide rfl, Below.refl _ _⟩
    case round =>
      obtain ⟨k, hk, rfl, hT, hb⟩ := hrel
      by_cases hlt : k < l.length
      · have hltm : k < m.length := by have := E.out; omega
        obtain ⟨b0, o0, rfl, hB0, hC0⟩ := RR.cell (RD.below hr hb) (by omega)
        obtain ⟨b1, o1, rfl, hB1, hC1⟩ := RR.cell (RD.below hs hb) (by omega)
        obtain ⟨d0, d1, d2⟩ := hC0 k hlt
        obtain ⟨e0, e1, e2⟩ := hC1 k hltm
        clear hC0 hC1
        have z0 : (k : Int) < l.length := by omega
        have z1 : (k : Int) < m.length := by omega
        have z4 : (0 : Int) ≤ k := by omega
        obtain ⟨x0, hx0⟩ : ∃ x, x = l[k].1 := ⟨_, rfl⟩
        obtain ⟨x1, hx1⟩ : ∃ x, x = l[k].2.1 := ⟨_, rfl⟩
        obtain ⟨x2, hx2⟩ : ∃ x, x = l[k].2.2 := ⟨_, rfl⟩
        obtain ⟨y0, hy0⟩ : ∃ x, x = m[k].1 := ⟨_, rfl⟩
        obtain ⟨y1, hy1⟩ : ∃ x, x = m[k].2.1 := ⟨_, rfl⟩
        obtain ⟨y2, hy2⟩ : ∃ x, x = m[k].2.2 := ⟨_, rfl⟩
        rw [← hx0] at d0
        rw [← hx1] at d1
        rw [← hx2] at d2
        rw [← hy0] at e0
        rw [← hy1] at e1
        rw [← hy2] at e2
        have hX := hide (show l[k] = (x0, x1, x2) by rw [hx0, hx1, hx2])
        have hY := hide (show m[k] = (y0, y1, y2) by rw [hy0, hy1, hy2])
        clear hx0 hx1 hx2 hy0 hy1 hy2
        by_cases hxy : x0 = y0 ∧ x1 = y1 ∧ x2 = y2
        · obtain ⟨rfl, rfl, rfl⟩ := hxy
          go_wp2_with fail
          go_quiet (fail)
          go_wp2_with fail
          go_roundw
          case rel =>
            refine ⟨k + 1, by omega, by go_num, hide ?_, below_drewN hb _⟩
            rw [List.take_succ_eq_append_getElem hlt, List.take_succ_eq_append_getElem hltm, hT.out, hX.out, hY.out]
          case measure => simp [intOf]; omega
        · have hcs : (¬ x0 = y0) ∨ (x0 = y0 ∧ ¬ x1 = y1) ∨ (x0 = y0 ∧ x1 = y1 ∧ ¬ x2 = y2) := by
            by_cases h0 : x0 = y0
            · by_cases h1 : x1 = y1
              · exact .inr (.inr ⟨h0, h1, fun h2 => hxy ⟨h0, h1, h2⟩⟩)
              · exact .inr (.inl ⟨h0, h1⟩)
            · exact .inl h0
          have hf := hide (show decide (l = m) = false by
            rw [decide_eq_false_iff_not]
            intro e
            subst e
            have := hX.out.symm.trans hY.out
            simp only [Prod.mk.injEq] at this
            exact hxy this)
          clear hxy
          rcases hcs with h0 | ⟨rfl, h1⟩ | ⟨rfl, rfl, h2⟩
          all_goals
            go_wp2_with fail
            go_quiet (fail)
            go_wp2_with fail
            go_ret
            exact ⟨ret_bool hf.out.symm, below_drewN hb _⟩
      · have hkl : ¬ (k : Int) < l.length := by omega
        have fin := hide (show decide (l = m) = true by
          have h1 := hT.out
          rw [List.take_of_length_le (by omega), List.take_of_length_le (by have := E.out; omega)] at h1
          exact decide_eq_true h1)
        go_wp2_with fail
        go_ret
        exact ⟨ret_bool fin.out.symm, hb⟩
  · have hbe : ((l.length : Int) == (m.length : Int)) = false := by simpa using hne
    have hbn : ((l.length : Int) != (m.length : Int)) = true := by simpa using hne
    have fin := hide (show decide (l = m) = false by
      rw [decide_eq_false_iff_not]
      intro e
      exact hne (by rw [e]))
    clear hne
    go_enter Try.func27, Try.ntmps27
    go_wp2_with fail
    go_ret
    exact ⟨ret_bool fin.out.symm, Below.refl _ _⟩

set_option maxHeartbeats 400000 in
set_option maxRecDepth 100000 in
theorem reftwin_big (A : Option Addr) (n c : Nat) (l : List Rn) (w : World) (hr : RR w w.heap.size A l) (hn : l.length = n) (hl : n < 8796093022208) :
    Calls Try.prog 22 #[.slice A n c] w fun e w' => ∃ v, e = .returned v ∧ w'.ownsRow w.heap.size 41 3 v l.length (rns l) ∧ Below w.heap.size w w' := by
  subst hn
  obtain ⟨i0, hi0, hz0, hz1, hz2⟩ := info_parts rinfo
  go_enter Try.func22, Try.ntmps22
  go_wp2_with (at_builtin; refine wpList_append_big _ rfl (.tmp 4) (.tmp 5) 22 rfl w.heap.size 41 i0 (.agg #[.int .u32 0, .int .u8 0, .int .i64 0]) 3 16 Try.underlying22 hi0 hz0 hz1 hz2 rfl (by decide) _ 0 [] rfl (World.ownsRow_nil _ _ _ _) w.heap.size A l.length c (rns l) rfl hr (rns_one _) (by omega) (by omega) (Nat.le_refl _) ?_; intro v1 w1 hown1 hb1; simp only [Nat.zero_add, List.nil_append] at hown1)
  go_ret
  exact ⟨_, rfl, hown1, hb1⟩

set_option maxHeartbeats 3200000 in
set_option maxRecDepth 100000 in
theorem oprefsame_big (k t r z k' t' r' z' : Int) (A B : Option Addr) (n m c d : Nat) (p q : List Rn) (w : World) (hr : RR w w.heap.size A p) (hs : RR w w.heap.size B q) (hn : p.length = n) (hm : q.length = m) (hl : n < 8796093022208) (hl' : m < 8796093022208) :
    Calls Try.prog 58 #[opv k t r A n c z, opv k' t' r' B m d z'] w fun e w' => e = .returned (.bool (decide (k = k' ∧ t = t' ∧ r = r' ∧ p = q ∧ z = z'))) ∧ Below w.heap.size w w' := by
  obtain ⟨w1, hw1, a0, a1, a2, a3, a4, hs1, hb1⟩ := five_box w (.int .u8 k) (.int .u32 t) (.int .u8 r) (.slice A n c) (.int .i64 z) 47
  obtain ⟨w2, hw2, b0, b1, b2, b3, b4, hs2, hb2⟩ := five_box w1 (.int .u8 k') (.int .u32 t') (.int .u8 r') (.slice B m d) (.int .i64 z') 47
  have hb02 := fresh hb1 hb2
  replace a0 := keep_cell hb2 hs1 a0
  replace a1 := keep_cell hb2 hs1 a1
  replace a2 := keep_cell hb2 hs1 a2
  replace a3 := keep_cell hb2 hs1 a3
  replace a4 := keep_cell hb2 hs1 a4
  replace hs1 := Nat.lt_of_lt_of_le hs1 hb2.size
  have C := hide (refsame_big A B c d n m p q w2 (hr.below' hb02) (hs.below' hb02) hn hm hl hl')
  clear hr hs hn hm hl hl'
  obtain ⟨g1, hg1⟩ : ∃ g, g = w1.heap.size := ⟨_, rfl⟩
  have hc : ((k == k') = false ∧ ¬ k = k') ∨ ((k == k') = true ∧ k = k' ∧ (((t == t') = false ∧ ¬ t = t') ∨ ((t == t') = true ∧ t = t' ∧ (((r == r') = false ∧ ¬ r = r') ∨ ((r == r') = true ∧ r = r' ∧ (((z == z') = false ∧ ¬ z = z') ∨ ((z == z') = true ∧ z = z'))))))) := by
    simp only [beq_iff_eq, beq_eq_false_iff_ne, ne_eq]
    omega
  clear hg1 g1
  rcases hc with ⟨c1, e1⟩ | ⟨c1, e1, ⟨c2, e2⟩ | ⟨c2, e2, ⟨c3, e3⟩ | ⟨c3, e3, ⟨c4, e4⟩ | ⟨c4, e4⟩⟩⟩⟩
  · have hf := hide (show decide (k = k' ∧ t = t' ∧ r = r' ∧ p = q ∧ z = z') = false from decide_eq_false fun h => e1 (by simp only [h]))
    clear e1
    go_enter Try.func58, Try.ntmps58
    go_wp2_with fail
    go_ret
    exact ⟨ret_bool hf.out.symm, hb02⟩
  · have hf := hide (show decide (k = k' ∧ t = t' ∧ r = r' ∧ p = q ∧ z = z') = false from decide_eq_false fun h => e2 (by simp only [h]))
    clear e1 e2
    go_enter Try.func58, Try.ntmps58
    go_wp2_with fail
    go_ret
    exact ⟨ret_bool hf.out.symm, hb02⟩
  · have hf := hide (show decide (k = k' ∧ t = t' ∧ r = r' ∧ p = q ∧ z = z') = false from decide_eq_false fun h => e3 (by simp only [h]))
    clear e1 e2 e3
    go_enter Try.func58, Try.ntmps58
    go_wp2_with fail
    go_ret
    exact ⟨ret_bool hf.out.symm, hb02⟩
  · have hf := hide (show decide (k = k' ∧ t = t' ∧ r = r' ∧ p = q ∧ z = z') = false from decide_eq_false fun h => e4 (by simp only [h]))
    clear e1 e2 e3 e4
    obtain ⟨bb, hB⟩ : ∃ b, b = decide (p = q) := ⟨_, rfl⟩
    rw [← hB] at C
    clear hB
    cases bb
    all_goals
      go_enter Try.func58, Try.ntmps58
      go_wp2_with fail
      refine C.out.mono ?_
      rintro e w3 ⟨rfl, hb3⟩
      replace a4 := keep_cell hb3 hs1 a4
      replace b4 := keep_cell hb3 hs2 b4
      go_wp2_with fail
      go_ret
      exact ⟨ret_bool hf.out.symm, fresh hb02 hb3⟩
  · have hf := hide (show decide (k = k' ∧ t = t' ∧ r = r' ∧ p = q ∧ z = z') = decide (p = q) from decide_eq_decide.2 ⟨fun h => h.2.2.2.1, fun h => ⟨e1, e2, e3, h, e4⟩⟩)
    clear e1 e2 e3 e4
    obtain ⟨bb, hB⟩ : ∃ b, b = decide (p = q) := ⟨_, rfl⟩
    rw [← hB] at C hf
    clear hB
    cases bb
    all_goals
      go_enter Try.func58, Try.ntmps58
      go_wp2_with fail
      refine C.out.mono ?_
      rintro e w3 ⟨rfl, hb3⟩
      replace a4 := keep_cell hb3 hs1 a4
      replace b4 := keep_cell hb3 hs2 b4
      go_wp2_with fail
      go_ret
      exact ⟨ret_bool hf.out.symm, fresh hb02 hb3⟩

set_option maxHeartbeats 1600000 in
set_option maxRecDepth 100000 in
theorem oreftwin_big (k t r z : Int) (A : Option Addr) (n c : Nat) (p : List Rn) (w : World) (hr : RR w w.heap.size A p) (hn : p.length = n) (hl : n < 8796093022208) :
    Calls Try.prog 51 #[opv k t r A n c z] w fun e w' => ∃ A' c', e = .returned (opv k t r A' p.length c' z) ∧ (A' = none → c' = 0) ∧ w'.ownsRow w.heap.size 41 3 (.slice A' p.length c') p.length (rns p) ∧ Below w.heap.size w w' := by
  obtain ⟨w1, hw1, F1, hs1, hb1⟩ := five_fb w (.int .u8 k) (.int .u32 t) (.int .u8 r) (.slice A n c) (.int .i64 z)
  obtain ⟨w2, hw2, F2, hs2, hb2⟩ := five_fb w1 (.int .u8 0) (.int .u32 0) (.int .u8 0) (.slice none 0 0) (.int .i64 0)
  have hb02 := fresh hb1 hb2
  have F12 := F1.below hb2
  replace hs1 := F12.lt
  have T := hide (reftwin_big A n c p w2 (hr.below' hb02) hn hl)
  obtain ⟨c0, c1, c2, c3, c4⟩ := F12.cells
  clear hr hn hl F1
  go_enter Try.func51, Try.ntmps51
  go_wp2_with fail
  refine T.out.mono ?_
  rintro e w3 ⟨v, rfl, hown, hb3⟩
  have F13 := F12.below hb3
  have F23 := F2.below hb3
  obtain ⟨g1, hg1⟩ : ∃ g, g = w.heap.size := ⟨_, rfl⟩
  obtain ⟨g2, hg2⟩ : ∃ g, g = w1.heap.size := ⟨_, rfl⟩
  have hne : g1 ≠ g2 := by rw [hg1, hg2]; have := hb1.size; have : w.heap.size < w1.heap.size := by rw [← hw1]; simp
                           omega
  have hg12 : g1 < w2.heap.size := by rw [hg1]; exact hs1
  have hg22 : g2 < w2.heap.size := by rw [hg2]; exact hs2
  rw [← hg1] at F13
  rw [← hg2] at F23
  rw [← hg1, ← hg2]
  clear hw1 hw2 c0 c1 c2 c3 c4 F12 F2
  have z3 := F13.fr 3
  have F14 := F13.set3 v
  have F24 := F23.other (fun h => hne h.symm) 3 v
  have Hb4 := hide (fresh hb02 hb3)
  obtain ⟨w4, hw4⟩ : ∃ w4, w3.setCell ⟨g1, 3, none⟩ v = w4 := ⟨_, rfl⟩
  rw [hw4] at F14 F24
  obtain ⟨A', c', rfl, hn', -, -⟩ := own_slice hown
  have Hnil := hide (own_nilB hown)
  obtain ⟨d0, d1, d2, d3, d4⟩ := F14.cells
  have f0 := F24.fr 0
  have f1 := F24.fr 1
  have f2 := F24.fr 2
  have f3 := F24.fr 3
  have f4 := F24.fr 4
  have HF := hide F24
  have HG := hide (And.intro hg1 hg2)
  have Hx := hide hne
  have Hown := hide hown
  obtain ⟨e0, e1, e2, e3, e4⟩ := F13.cells
  obtain ⟨u0, u1, u2, u3, u4⟩ := F24.cells
  clear F13 F23 F14 F24 hg1 hg2 hne hown hn'
  go_wp2_with fail
  try rw [hw4]
  have F5 := put5_fb HF.out (.int .u8 k) (.int .u32 t) (.int .u8 r) (.slice A' p.length c') (.int .i64 z)
  have Hb5 : Below w.heap.size w (put5 w4 g2 (.int .u8 k) (.int .u32 t) (.int .u8 r) (.slice A' p.length c') (.int .i64 z)) := by
    rw [← hw4]
    refine put5_below (Hb4.out.setCell ?_ _) _ _ _ _ _ _ ?_
    · rw [HG.out.1]; exact Nat.le_refl _
    · rw [HG.out.2]; exact hb1.size
  have Hown5 : (put5 w4 g2 (.int .u8 k) (.int .u32 t) (.int .u8 r) (.slice A' p.length c') (.int .i64 z)).ownsRow w.heap.size 41 3 (.slice A' p.length c') p.length (rns p) := by
    refine own_other Hown.out hb02.size fun g hg => ?_
    rw [put5_other (by omega), ← hw4, heap_setCell_other _ _ _ _ (by simp only; omega)]
  change bodyPost _ _ _ _ _ (put5 w4 g2 (.int .u8 k) (.int .u32 t) (.int .u8 r) (.slice A' p.length c') (.int .i64 z))
  generalize put5 w4 g2 (.int .u8 k) (.int .u32 t) (.int .u8 r) (.slice A' p.length c') (.int .i64 z) = W at F5 Hb5 Hown5 ⊢
  obtain ⟨v0, v1, v2, v3, v4⟩ := F5.cells
  refine bodyPost_ret (v := opv k t r A' p.length c' z) (by simp [results, Try.results51, go_sem, v0, v1, v2, v3, v4]) rfl ⟨A', c', rfl, Hnil.out, Hown5, Hb5⟩
end Go.Proofs.Ytbjfmkdjnglgbaa
namespace Go.Proofs.Ytbjfmkdjnglgbaa
open Go.RowKit

theorem op_eq {x y : OpL} : x.op = y.op ↔ x.k = y.k ∧ x.t = y.t ∧ x.r = y.r ∧ x.p = y.p ∧ x.z = y.z := by
  simp only [OpL.op, Prod.mk.injEq]

set_option maxHeartbeats 3200000 in
set_option maxRecDepth 100000 in
theorem listsame_any (A B : Option Addr) (n m c d : Nat) (L M : List OpL) (w : World) (hr : RO w w.heap.size A L) (hs : RO w w.heap.size B M) (hn : L.length = n) (hm : M.length = m) (hl : ∀ x ∈ L, x.p.length < 8796093022208) (hl' : ∀ x ∈ M, x.p.length < 8796093022208) (hn9 : n < 1073741824) :
    Calls Try.prog 73 #[.slice A n c, .slice B m d] w fun e w' => e = .returned (.bool (decide (L.map OpL.op = M.map OpL.op))) ∧ Below w.heap.size w w' := by
  have HR := hide hr
  have HS := hide hs
  have Hl := hide (And.intro hl hl')
  have Hnm := hide (And.intro hn hm)
  clear hr hs hl hl'
  by_cases hne : (n : Int) = (m : Int)
  · have hnm : n = m := by omega
    have hbe : ((n : Int) == (m : Int)) = true := by simpa using hne
    have hbn : ((n : Int) != (m : Int)) = false := by simpa using hne
    have E := hide hnm
    clear hne hn hm hnm
    go_enter Try.func73, Try.ntmps73
    go_wp2_with fail
    go_loopw [5] (fun i wr => ∃ j : Nat, j ≤ n ∧ i = .int .i64 (j : Int) ∧ Hid ((L.take j).map OpL.op = (M.take j).map OpL.op) ∧ Below w.heap.size w wr) (fun i _ => n - (intOf i).toNat)
    case atStart => exact ⟨0, by omega, rfl, hide rfl, Below.refl _ _⟩
    case round =>
      obtain ⟨j, hj, rfl, hT, hb⟩ := hrel
      by_cases hlt : j < n
      · have z0 : (j : Int) < n := by omega
        have z1 : (j : Int) < m := by have := E.out; omega
        have zj : (0 : Int) ≤ j := by omega
        have hltL : j < L.length := by rw [Hnm.out.1]; exact hlt
        have hltM : j < M.length := by rw [Hnm.out.2, ← E.out]; exact hlt
        obtain ⟨b0, o0, rfl, hB0, hC0⟩ := RO.cell (HR.out.below hb) (by omega)
        obtain ⟨b1, o1, rfl, hB1, hC1⟩ := RO.cell (HS.out.below hb) (by omega)
        obtain ⟨x, hx⟩ : ∃ x, L[j] = x := ⟨_, rfl⟩
        obtain ⟨y, hy⟩ : ∃ y, M[j] = y := ⟨_, rfl⟩
        obtain ⟨d0, d1, d2, d3, d4⟩ := hC0 j hltL
        obtain ⟨e0, e1, e2, e3, e4⟩ := hC1 j hltM
        rw [hx] at d0 d1 d2 d3 d4
        rw [hy] at e0 e1 e2 e3 e4
        have hxm : x ∈ L := by rw [← hx]; exact List.getElem_mem hltL
        have hym : y ∈ M := by rw [← hy]; exact List.getElem_mem hltM
        have S := hide (fun u => oprefsame_big x.k x.t x.r x.z y.k y.t y.r y.z x.A y.A x.p.length y.p.length x.c y.c x.p y.p (past wr u) (RR.below' (((HR.out.below hb).more hb.size).2 x hxm) (below_past wr u)) (RR.below' (((HS.out.below hb).more hb.size).2 y hym) (below_past wr u)) rfl rfl (Hl.out.1 x hxm) (Hl.out.2 y hym))
        have T0 := hide (show (L.take (j + 1)).map OpL.op = (L.take j).map OpL.op ++ [x.op] by rw [List.take_succ_eq_append_getElem hltL, hx, List.map_append]; rfl)
        have T1 := hide (show (M.take (j + 1)).map OpL.op = (M.take j).map OpL.op ++ [y.op] by rw [List.take_succ_eq_append_getElem hltM, hy, List.map_append]; rfl)
        have X0 := hide (And.intro hx hy)
        have hB0r : b0 < wr.heap.size := by have := hb.size; omega
        have hB1r : b1 < wr.heap.size := by have := hb.size; omega
        clear hC0 hC1 hxm hym hx hy
        obtain ⟨bv, hbv⟩ : ∃ bv, decide (x.k = y.k ∧ x.t = y.t ∧ x.r = y.r ∧ x.p = y.p ∧ x.z = y.z) = bv := ⟨_, rfl⟩
        rw [hbv] at S
        have Hbv := hide hbv
        clear hbv
        go_wp2_with fail
        refine wp_region_past (by kernel_rfl) (by kernel_rfl) ?_
        repeat (quiet_step ((go_at_call 58; with_reducible exact past_call (unhide S _))))
        refine wpQuiet_nil ?_
        intro w3 hw3
        obtain ⟨u, rfl⟩ := hw3
        have hb3 := fresh hb (below_past wr u)
        clear d0 d1 d2 d3 d4 e0 e1 e2 e3 e4
        cases bv
        · have hf := hide (show decide (L.map OpL.op = M.map OpL.op) = false from decide_eq_false fun h => by
            have h1 := congrArg (fun l => l[j]?) h
            simp only [List.getElem?_map, List.getElem?_eq_getElem hltL, List.getElem?_eq_getElem hltM, X0.out.1, X0.out.2, Option.map_some, Option.some.injEq] at h1
            exact (of_decide_eq_false Hbv.out) (op_eq.1 h1))
          go_wp2_with fail
          go_ret
          exact ⟨ret_bool hf.out.symm, hb3⟩
        · go_wp2_with fail
          go_roundw
          case rel =>
            refine ⟨j + 1, by omega, by go_num, hide ?_, hb3⟩
            rw [T0.out, T1.out, hT.out, op_eq.2 (of_decide_eq_true Hbv.out)]
          case measure => simp [intOf]; omega
      · have z0 : ¬ (j : Int) < n := by omega
        have fin := hide (show decide (L.map OpL.op = M.map OpL.op) = true by
          have h1 := hT.out
          rw [List.take_of_length_le (by rw [Hnm.out.1]; omega), List.take_of_length_le (by rw [Hnm.out.2, ← E.out]; omega)] at h1
          exact decide_eq_true h1)
        go_wp2_with fail
        go_ret
        exact ⟨ret_bool fin.out.symm, hb⟩
  · have hbe : ((n : Int) == (m : Int)) = false := by simpa using hne
    have hbn : ((n : Int) != (m : Int)) = true := by simpa using hne
    have fin := hide (show decide (L.map OpL.op = M.map OpL.op) = false by
      rw [decide_eq_false_iff_not]
      intro e
      have := congrArg List.length e
      rw [List.length_map, List.length_map, hn, hm] at this
      exact hne (by rw [this]))
    clear hne hn hm
    go_enter Try.func73, Try.ntmps73
    go_wp2_with fail
    go_ret
    exact ⟨ret_bool fin.out.symm, Below.refl _ _⟩

set_option maxHeartbeats 3200000 in
set_option maxRecDepth 100000 in
theorem listtwin_any (A : Option Addr) (n c : Nat) (L : List OpL) (w : World) (hr : RO w w.heap.size A L) (hn : L.length = n) (hl : ∀ x ∈ L, x.p.length < 8796093022208) (hn9 : n < 1000000000) :
    Calls Try.prog 69 #[.slice A n c] w fun e w' => ∃ A' c' L', e = .returned (.slice A' n c') ∧ L'.map OpL.op = L.map OpL.op ∧ OO w' w.heap.size A' c' L' ∧ Below w.heap.size w w' := by
  obtain ⟨i0, hi0, hz0, hz1, hz2⟩ := info_parts opinfo
  have HR := hide hr
  have Hl := hide hl
  have Hn := hide hn
  clear hr hl hn
  go_enter Try.func69, Try.ntmps69
  go_wp2_with fail
  go_loopw [3, 4] (fun v i wr => ∃ (j : Nat) (A' : Option Addr) (c' : Nat) (L' : List OpL), j ≤ n ∧ i = .int .i64 (j : Int) ∧ v = .slice A' j c' ∧ Hid (L'.length = j) ∧ Hid (L'.map OpL.op = (L.take j).map OpL.op) ∧ Hid (OO wr w.heap.size A' c' L') ∧ Below w.heap.size w wr) (fun _ i _ => n - (intOf i).toNat)
  case atStart => exact ⟨0, none, 0, [], by omega, rfl, rfl, hide rfl, hide rfl, hide (OO.nil _ _), Below.refl _ _⟩
  case round =>
    obtain ⟨j, A', c', L', hj, rfl, rfl, hLl, hLm, hOO, hb⟩ := hrel
    by_cases hlt : j < n
    · have z0 : (j : Int) < n := by omega
      have zj : (0 : Int) ≤ j := by omega
      have hltL : j < L.length := by rw [Hn.out]; exact hlt
      obtain ⟨b0, o0, rfl, hB0, hC0⟩ := RO.cell (HR.out.below hb) (by omega)
      obtain ⟨x, hx⟩ : ∃ x, L[j] = x := ⟨_, rfl⟩
      obtain ⟨d0, d1, d2, d3, d4⟩ := hC0 j hltL
      rw [hx] at d0 d1 d2 d3 d4
      have hxm : x ∈ L := by rw [← hx]; exact List.getElem_mem hltL
      have T := hide (oreftwin_big x.k x.t x.r x.z x.A x.p.length x.c x.p wr (((HR.out.below hb).more hb.size).2 x hxm) rfl (Hl.out x hxm))
      have T0 := hide (show (L.take (j + 1)).map OpL.op = (L.take j).map OpL.op ++ [x.op] by rw [List.take_succ_eq_append_getElem hltL, hx, List.map_append]; rfl)
      clear hC0 hxm hx
      go_wp2_with fail
      refine T.out.mono ?_
      rintro e w2 ⟨A2, c2, rfl, -, hown2, hb2⟩
      have hb02 := fresh hb hb2
      have HOO2 := hide (hOO.out.below hb2)
      have Hown2 := hide hown2
      clear d0 d1 d2 d3 d4 hown2
      go_wp2_with (at_builtin; refine wpList_append_op _ rfl (.tmp 11) (.tmp 17) rfl w.heap.size A' c' j L' hLl.out rfl (HOO2.out.below (boxed _ _)) ⟨x.k, x.t, x.r, A2, c2, x.p, x.z⟩ (own_less (own_below Hown2.out (boxed _ _) (Nat.le_refl _)) hb.size) (some ⟨w2.heap.size, 0, none⟩) rfl (op_row w2 ⟨x.k, x.t, x.r, A2, c2, x.p, x.z⟩) (by omega) (Nat.le_trans hb02.size (boxed w2 _).size) ?_; intro A3 c3 w3 hOO3 hb3 hk3)
      go_roundw
      case rel =>
        refine ⟨j + 1, A3, c3, L' ++ [⟨x.k, x.t, x.r, A2, c2, x.p, x.z⟩], by omega, by go_num, rfl, hide ?_, hide ?_, hide hOO3, (fresh hb02 (boxed w2 _)).trans hb3⟩
        · rw [List.length_append, hLl.out]; rfl
        · rw [T0.out, List.map_append, hLm.out]; rfl
      case measure => simp [intOf]; omega
    · have z0 : ¬ (j : Int) < n := by omega
      have hjn : j = n := by omega
      subst hjn
      rw [List.take_of_length_le (by rw [Hn.out]; omega)] at hLm
      go_wp2_with fail
      refine bodyPost_ret (v := .slice A' j c') (by simp [results, Try.results69, go_sem]) rfl ?_
      exact ⟨A', c', rfl, L', hLm.out, hOO.out, hb⟩
end Go.Proofs.Ytbjfmkdjnglgbaa
namespace Go.Proofs.Ytbjfmkdjnglgbaa
open Go.RowKit

set_option maxHeartbeats 3200000 in
set_option maxRecDepth 100000 in
theorem reflist_ok (A : Option Addr) (n c : Nat) (L : List OpL) (w : World) (hr : RO w w.heap.size A L) (hn : L.length = n) (hl : n ≤ 1024) (hok : ∀ x ∈ L, okO x) (hm : ∀ x ∈ L, mayL x) :
    Calls Try.prog 115 #[.slice A n c] w fun e w' => ∃ v, e = .returned v ∧ w'.ownsRow w.heap.size 5 1 v (allB L).length (u8s (allB L)) ∧ Below w.heap.size w w' := by
  obtain ⟨i0, hi0, hz0, hz1, hz2⟩ := info_parts u8info
  have Hok := hide hok
  have Hm := hide hm
  have Hn := hide hn
  have HR := hide hr
  clear hok hn hr hm
  go_enter Try.func115, Try.ntmps115
  go_wp2_with fail
  refine (refbytes_int (n : Int) w (by omega) (by omega)).mono ?_
  rintro e w1 ⟨A1, c1, rfl, hown1, hb1⟩
  have e0 : nb (n : Int).toNat = nbs [(n : Int)] := by simp [nbs]
  rw [e0] at hown1 ⊢
  have Hown1 := hide hown1
  clear hown1 e0
  go_wp2_with fail
  go_loopw [3, 4] (fun u i wr => ∃ j : Nat, j ≤ n ∧ i = .int .i64 (j : Int) ∧ Hid (wr.ownsRow w.heap.size 5 1 u (nbs [(n : Int)] ++ (L.take j).flatMap opBL).length (u8s (nbs [(n : Int)] ++ (L.take j).flatMap opBL))) ∧ Below w.heap.size w wr) (fun _ i _ => n - (intOf i).toNat)
  case atStart => exact ⟨0, by omega, rfl, hide (by simpa using Hown1.out), hb1⟩
  case round =>
    obtain ⟨j, hj, rfl, hown, hb⟩ := hrel
    clear Hown1 hb1
    by_cases hlt : j < n
    · have hltL : j < L.length := by rw [Hn.out]; exact hlt
      have z0 : (j : Int) < n := by omega
      have zj : (0 : Int) ≤ j := by omega
      obtain ⟨bb, bo, rfl, hB, hC⟩ := RO.cell (HR.out.below hb) (by omega)
      obtain ⟨d0, d1, d2, d3, d4⟩ := hC j hltL
      obtain ⟨x, hx⟩ : ∃ x, L[j] = x := ⟨_, rfl⟩
      rw [hx] at d0 d1 d2 d3 d4
      have hxm : x ∈ L := by rw [← hx]; exact List.getElem_mem hltL
      have hox := Hok.out x hxm
      have hmx := Hm.out x hxm
      have hP := hide (crefbytes_ok x.k x.t x.r x.z x.A x.p.length x.c x.p wr (((HR.out.below hb).more hb.size).2 x hxm) rfl hox.2.2.1 hmx hox.2.1)
      have Htake := hide (show L.take (j + 1) = L.take j ++ [x] by rw [List.take_succ_eq_append_getElem hltL, hx])
      obtain ⟨bx, hbx⟩ : ∃ l, l = opB x.k x.t x.r x.p x.z := ⟨_, rfl⟩
      obtain ⟨pre, hpre⟩ : ∃ l, l = nbs [(n : Int)] ++ (L.take j).flatMap opBL := ⟨_, rfl⟩
      have Hbx := hide (And.intro hbx hpre)
      have hsz : pre.length + bx.length ≤ 1073741824 := by
        have h1 := flat_len (L.take j) fun q hq => ⟨Hm.out q (List.mem_of_mem_take hq), Hok.out q (List.mem_of_mem_take hq)⟩
        rw [List.length_take] at h1
        have h2 : bx.length ≤ 1200 := by rw [hbx]; exact opB_len hmx hox
        have h3 : (nbs [(n : Int)]).length ≤ 6 := nbs_len (L := [(n : Int)]) (by intro a ha; simp only [List.mem_singleton] at ha; omega)
        rw [hpre, List.length_append]
        omega
      rw [← hbx] at hP
      rw [← hpre] at hown
      clear hC hx hxm hox hmx hbx hpre
      go_wp2_with fail
      refine hP.out.mono ?_
      rintro e w2 ⟨v2, rfl, hown2, hb2⟩
      obtain ⟨A2, c2, rfl, -, -, -⟩ := own_slice hown2
      have hown' := own_below hown.out hb2 (Nat.le_refl _)
      have hbw2 := fresh hb hb2
      clear d0 d1 d2 d3 d4 hown
      go_wp2_with (at_builtin; refine wpList_append_src _ rfl (.tmp 14) (.tmp 19) 67 rfl w.heap.size 5 i0 (.int .u8 0) 1 1 Try.underlying67 hi0 hz0 hz1 hz2 rfl (by decide) _ _ _ rfl hown' w2.heap.size A2 _ c2 (u8s bx) rfl (RD.of_own hown2) (u8s_one _) hsz (by decide) hbw2.size ?_; intro v3 w3 hown3 hb3)
      go_roundw
      case rel =>
        refine ⟨j + 1, by omega, by go_num, hide ?_, hbw2.trans hb3⟩
        rw [Htake.out, List.flatMap_append, List.flatMap_singleton, ← List.append_assoc, show opBL x = bx from Hbx.out.1.symm, ← Hbx.out.2, u8s_append, List.length_append]
        exact hown3
      case measure => simp [intOf]; omega
    · have z0 : ¬ (j : Int) < n := by omega
      have htk : L.take j = L := List.take_of_length_le (by rw [Hn.out]; omega)
      rw [htk, show nbs [(n : Int)] ++ L.flatMap opBL = allB L by unfold allB; rw [Hn.out]] at hown
      clear htk
      go_wp2_with fail
      go_ret
      exact ⟨_, rfl, hown.out, hb⟩

set_option maxHeartbeats 3200000 in
set_option maxRecDepth 100000 in
theorem refall_any (A : Option Addr) (n c : Nat) (L : List OpL) (w : World) (hr : RO w w.heap.size A L) (hn : L.length = n) (hl : n ≤ 1024) (hok : ∀ x ∈ L, okO x) :
    Calls Try.prog 75 #[.slice A n c] w fun e w' => ∃ v, e = .returned (.tuple #[v, .int .i64 (allE L)]) ∧ w'.ownsRow w.heap.size 5 1 v (allY L).length (u8s (allY L)) ∧ Below w.heap.size w w' := by
  have Hok := hide hok
  have Hn := hide hn
  have HR := hide hr
  have hl9 : (n : Int) ≤ 1024 := by omega
  clear hok hn hr
  go_enter Try.func75, Try.ntmps75
  go_wp2_with fail
  go_loopw [4] (fun i wr => ∃ j : Nat, j ≤ n ∧ i = .int .i64 (j : Int) ∧ Hid (∀ x ∈ L.take j, mayL x) ∧ Below w.heap.size w wr) (fun i _ => n - (intOf i).toNat)
  case atStart => exact ⟨0, by omega, rfl, hide (fun x hx => by cases hx), Below.refl _ _⟩
  case round =>
    obtain ⟨j, hj, rfl, hMay, hb⟩ := hrel
    by_cases hlt : j < n
    · have hltL : j < L.length := by rw [Hn.out]; exact hlt
      have z0 : (j : Int) < n := by omega
      have zj : (0 : Int) ≤ j := by omega
      obtain ⟨bb, bo, rfl, hB, hC⟩ := RO.cell (HR.out.below hb) (by omega)
      obtain ⟨d0, d1, d2, d3, d4⟩ := hC j hltL
      obtain ⟨x, hx⟩ : ∃ x, L[j] = x := ⟨_, rfl⟩
      rw [hx] at d0 d1 d2 d3 d4
      have hxm : x ∈ L := by rw [← hx]; exact List.getElem_mem hltL
      have hP := hide (refmayo_any x.k x.t x.r x.z x.A x.p.length x.c x.p wr (((HR.out.below hb).more hb.size).2 x hxm) rfl (Hok.out x hxm).2.2.1)
      have Htake := hide (show L.take (j + 1) = L.take j ++ [x] by rw [List.take_succ_eq_append_getElem hltL, hx])
      have Hx := hide hxm
      clear hC hx hxm
      by_cases hm : mayO x.k x.t x.r x.p x.z
      · rw [decide_eq_true hm] at hP
        have Hm := hide hm
        clear hm
        go_wp2_with fail
        refine hP.out.mono ?_
        rintro e w2 ⟨rfl, hb2⟩
        have hbw2 := fresh hb hb2
        clear d0 d1 d2 d3 d4
        go_wp2_with fail
        go_roundw
        case rel =>
          refine ⟨j + 1, by omega, by go_num, hide ?_, hbw2⟩
          intro q hq
          rw [Htake.out] at hq
          rcases List.mem_append.1 hq with h | h
          · exact hMay.out q h
          · simp only [List.mem_singleton] at h
            subst h
            exact Hm.out
        case measure => simp [intOf]; omega
      · rw [decide_eq_false hm] at hP
        have hne : ¬ ∀ x ∈ L, mayL x := fun h => hm (h x Hx.out)
        have Hne := hide (And.intro (show allE L = 8 from if_neg hne) (show allY L = [] from if_neg hne))
        clear hm hne
        go_wp2_with fail
        refine hP.out.mono ?_
        rintro e w2 ⟨rfl, hb2⟩
        have hbw2 := fresh hb hb2
        clear d0 d1 d2 d3 d4
        go_wp2_with fail
        refine bodyPost_ret (v := .tuple #[.slice none 0 0, .int .i64 8]) (by simp [results, Try.results75, go_sem]) rfl ?_
        exact ⟨_, by rw [Hne.out.1], by rw [Hne.out.2]; exact World.ownsRow_nil _ _ _ _, hbw2⟩
    · have z0 : ¬ (j : Int) < n := by omega
      have htk : L.take j = L := List.take_of_length_le (by rw [Hn.out]; omega)
      rw [htk] at hMay
      have Hall := hide (And.intro (show allE L = 0 from if_pos hMay.out) (show allY L = allB L from if_pos hMay.out))
      have hP := hide (reflist_ok A n c L wr ((HR.out.below hb).more hb.size) Hn.out hl Hok.out hMay.out)
      clear htk hMay
      go_wp2_with fail
      refine hP.out.mono ?_
      rintro e w2 ⟨v2, rfl, hown2, hb2⟩
      have hbw2 := fresh hb hb2
      have Hown2 := hide hown2
      clear hown2
      go_wp2_with fail
      refine bodyPost_ret (v := .tuple #[v2, .int .i64 0]) (by simp [results, Try.results75, go_sem]) rfl ?_
      exact ⟨_, by rw [Hall.out.1], by rw [Hall.out.2]; exact own_less Hown2.out hb.size, hbw2⟩

set_option maxHeartbeats 400000 in
set_option maxRecDepth 100000 in
theorem refall_many (A : Option Addr) (n c : Nat) (w : World) (h : 1024 < n) :
    Calls Try.prog 75 #[.slice A n c] w fun e w' => e = .returned (.tuple #[.slice none 0 0, .int .i64 4]) ∧ w' = w := by
  have h1 : (1024 : Int) < n := by omega
  clear h
  go_enter Try.func75, Try.ntmps75
  go_wp2_with fail
  refine bodyPost_ret (v := .tuple #[.slice none 0 0, .int .i64 4]) (by simp [results, Try.results75, go_sem]) rfl ⟨rfl, rfl⟩
end Go.Proofs.Ytbjfmkdjnglgbaa
namespace Go.Proofs.Ytbjfmkdjnglgbaa
open Go.RowKit

theorem RB.restR {w : World} {B : Nat} {A SA : Option Addr} {b : List UInt8} {n c a SC : Nat} (hr : RB w B A b) (hn : b.length = n) (ha : a ≤ n) (hc : n ≤ c) (h : c = a ∧ SA = A ∧ SC = 0 ∨ ¬ c = a ∧ SA = Option.map (fun x => x.add a) A ∧ SC = c - a) : RB w B SA (b.drop a) := by
  rcases Nat.lt_or_ge a n with hlt | hge
  · obtain ⟨b0, o0, rfl, -⟩ := RB.cell hr (by omega)
    rcases h with ⟨h1, -, -⟩ | ⟨-, rfl, -⟩
    · omega
    · have := hr.sub a b.length (Nat.le_refl _)
      rw [List.take_length] at this
      have e : Option.map (fun x : Addr => x.add a) (some ⟨b0, o0, none⟩) = some ⟨b0, o0 + a, none⟩ := by simp [add_none]
      rw [e]
      exact this
  · rw [List.drop_eq_nil_of_le (by omega)]
    exact RD.nil_

set_option maxHeartbeats 25600000 in
set_option maxRecDepth 100000 in
theorem crefread_any (A : Option Addr) (b : List UInt8) (n c : Nat) (w : World) (hr : RB w w.heap.size A b) (hn : b.length = n) (hl : n < 1073741824) (hc : n ≤ c) :
    Calls Try.prog 77 #[.slice A n c] w fun e w' => ∃ A' c' L', e = .returned (.tuple #[.slice A' (List.length (α := OpP) (outL (readL b)).1) c', .int .i64 ((outL (readL b)).2.1 : Int), .int .i64 (outL (readL b)).2.2]) ∧ L'.map OpL.op = (outL (readL b)).1 ∧ OO w' w.heap.size A' c' L' ∧ Below w.heap.size w w' := by
  have G0 := hide (by
    have := refget_any A c b w hr (by omega)
    rwa [hn] at this)
  have HRB := hide hr
  have Hn := hide hn
  clear hr hn
  cases hg : gget b with
  | none =>
    have Hno := hide (show readL b = none by
      unfold readL nxt
      rw [List.drop_zero, hg]
      rfl)
    rw [hg] at G0
    clear hg
    go_enter Try.func77, Try.ntmps77
    go_wp2_with fail
    refine G0.out.mono ?_
    rintro e w3 ⟨rfl, rfl⟩
    unfold gval
    go_wp2_with fail
    refine bodyPost_ret (v := .tuple #[.slice none 0 0, .int .i64 0, .int .i64 8]) (by simp [results, Try.results77, go_sem]) rfl ?_
    exact ⟨none, 0, [], by rw [Hno.out]; rfl, by rw [Hno.out]; rfl, OO.nil _ _, Below.refl _ _⟩
  | some q =>
    obtain ⟨M, s0⟩ := q
    rw [hg] at G0
    by_cases hM : (1024 : Int) < M
    · have Hno := hide (show readL b = none by
        unfold readL nxt
        rw [List.drop_zero, hg]
        simp only
        rw [if_pos (.inr hM)]
        rfl)
      clear hg
      go_enter Try.func77, Try.ntmps77
      go_wp2_with fail
      refine G0.out.mono ?_
      rintro e w3 ⟨rfl, rfl⟩
      unfold gval
      go_wp2_with fail
      refine bodyPost_ret (v := .tuple #[.slice none 0 0, .int .i64 0, .int .i64 8]) (by simp [results, Try.results77, go_sem]) rfl ?_
      exact ⟨none, 0, [], by rw [Hno.out]; rfl, by rw [Hno.out]; rfl, OO.nil _ _, Below.refl _ _⟩
    have hM9 : (M : Int) ≤ 1024 := by omega
    have Hrd := hide (show readL b = goL b M s0 [] by
      unfold readL nxt
      rw [List.drop_zero, hg]
      simp only
      rw [if_neg (by omega)]
      show goL b (M : Int).toNat (0 + s0) [] = _
      rw [Int.toNat_natCast, Nat.zero_add])
    have Hq := hide (show s0 ≤ n by
      obtain ⟨-, v2, -, -⟩ := gget_inv hg
      rw [← Hn.out]
      exact v2)
    clear hg
    go_enter Try.func77, Try.ntmps77
    go_wp2_with fail
    refine G0.out.mono ?_
    rintro e w3 ⟨rfl, rfl⟩
    unfold gval
    clear G0
    go_wp2_with fail
    go_loopw [6, 8, 9] (fun t v i wr => ∃ (j a : Nat) (A' : Option Addr) (c' : Nat) (L' : List OpL), j ≤ M ∧ a ≤ n ∧ t = .int .i64 (a : Int) ∧ i = .int .i64 (j : Int) ∧ v = .slice A' j c' ∧ Hid (L'.length = j) ∧ Hid (OO wr w.heap.size A' c' L') ∧ Hid (readL b = goL b (M - j) a (L'.map OpL.op)) ∧ Below w.heap.size w wr) (fun _ _ i _ => M - (intOf i).toNat)
    case atStart => exact ⟨0, s0, none, 0, [], by omega, Hq.out, rfl, rfl, rfl, hide rfl, hide (OO.nil _ _), Hrd, Below.refl _ _⟩
    case round =>
      obtain ⟨j, a, A', c', L', hj, ha, rfl, rfl, rfl, HLl, HOO, HG, hb⟩ := hrel
      clear Hrd Hq
      by_cases hlt : j < M
      · have z0 : (j : Int) < M := by omega
        have z1 : (0 : Int) ≤ a := by omega
        have z2 : (a : Int) ≤ n := by omega
        have z3 : (n : Int) ≤ c := by omega
        have z4 : (a : Int) ≤ c := by omega
        obtain ⟨SA, SC, hSA⟩ : ∃ SA SC, (c = a ∧ SA = A ∧ SC = 0 ∨ ¬ c = a ∧ SA = Option.map (fun x => x.add a) A ∧ SC = c - a) := by
          by_cases h : c = a
          · exact ⟨_, _, .inl ⟨h, rfl, rfl⟩⟩
          · exact ⟨_, _, .inr ⟨h, rfl, rfl⟩⟩
        have G := hide (crefget_any SA (b.drop a) (n - a) SC wr (RB.restR ((RD.below HRB.out hb).more hb.size) Hn.out ha hc hSA) (by rw [List.length_drop, Hn.out]) (by omega) (by rcases hSA with ⟨h1, -, h2⟩ | ⟨h1, -, h2⟩ <;> omega))
        rw [getQ_is] at G
        have HG1 := hide (show readL b = match getP (b.drop a) with
          | none => none
          | some (k, t, r, p, z, n) => goL b (M - (j + 1)) (a + n) (L'.map OpL.op ++ [(k, t, r, p, z)]) by
            rw [HG.out, show M - j = (M - (j + 1)) + 1 by omega]
            rfl)
        clear HG
        rcases hSA with ⟨hca, hA', hC'⟩ | ⟨hca, hA', hC'⟩
        all_goals
         replace hA' := hA'.symm
         replace hC' := hC'.symm
         subst hA' hC'
         go_wp2_with fail
         try rw [show (Value.slice A n a) = Value.slice A n c by rw [hca]]
         clear hca
         refine G.out.mono ?_
         rintro e w4 ⟨A4, c4, rfl, hown4, hb4⟩
         have hb04 := fresh hb hb4
         have HOO4 := hide (HOO.out.below hb4)
         have Hown4 := hide (own_less hown4 hb.size)
         clear hown4 HOO G
         cases hg : getP (b.drop a) with
         | none =>
          have Hno := hide (show readL b = none by rw [HG1.out, hg])
          simp only [outP]
          clear hg HG1 Hown4
          go_wp2_with fail
          refine bodyPost_ret (v := .tuple #[.slice none 0 0, .int .i64 0, .int .i64 8]) (by simp [results, Try.results77, go_sem]) rfl ?_
          exact ⟨none, 0, [], by rw [Hno.out]; rfl, by rw [Hno.out]; rfl, OO.nil _ _, fresh hb04 (boxed _ _)⟩
         | some o =>
          obtain ⟨k, t, r, p, z, s⟩ := o
          obtain ⟨-, -, hs9, -, -, -⟩ := getP_inv hg
          rw [List.length_drop, Hn.out] at hs9
          have HG2 := hide (show readL b = goL b (M - (j + 1)) (a + s) (L'.map OpL.op ++ [(k, t, r, p, z)]) by rw [HG1.out, hg])
          rw [hg] at Hown4
          simp only [outP] at Hown4 ⊢
          clear hg HG1
          obtain ⟨w5, hw5, F5, hs5, hb5⟩ := five_fb w4 (.int .u8 k) (.int .u32 t) (.int .u8 r) (.slice A4 p.length c4) (.int .i64 z)
          have hb05 := fresh hb04 hb5
          have HOO5 := hide (HOO4.out.below hb5)
          have Hown5 := hide (own_below Hown4.out hb5 (Nat.le_refl _))
          obtain ⟨y0, y1, y2, y3, y4⟩ := F5.cells
          have z5 : IntKind.i64.wrap ((a : Int) + (s : Int)) = (a : Int) + (s : Int) := IntWalk.i64_in _ (by omega)
          clear F5 HOO4 Hown4
          go_wp2_with (at_builtin; refine wpList_append_op _ rfl (.tmp 40) (.tmp 42) rfl w.heap.size A' c' j L' HLl.out rfl (HOO5.out.below (boxed _ _)) ⟨k, t, r, A4, c4, p, z⟩ (own_below Hown5.out (boxed _ _) (Nat.le_refl _)) (some ⟨w5.heap.size, 0, none⟩) rfl (op_row w5 ⟨k, t, r, A4, c4, p, z⟩) (by omega) (Nat.le_trans hb05.size (boxed w5 _).size) ?_; intro A3 c3 w6 hOO3 hb3 hk3)
          go_roundw
          case rel =>
            refine ⟨j + 1, a + s, A3, c3, L' ++ [⟨k, t, r, A4, c4, p, z⟩], by omega, by omega, by go_num, by go_num, rfl, hide ?_, hide hOO3, hide ?_, (fresh hb05 (boxed w5 _)).trans hb3⟩
            · rw [List.length_append, HLl.out]; rfl
            · rw [HG2.out, List.map_append]; rfl
          case measure => simp [intOf]; omega
      · have z0 : ¬ (j : Int) < M := by omega
        obtain rfl : j = M := by omega
        have HG0 := hide (show readL b = some (L'.map OpL.op, a) by
          have := HG.out
          rw [Nat.sub_self] at this
          exact this)
        clear HG
        go_wp2_with fail
        refine bodyPost_ret (v := .tuple #[.slice A' j c', .int .i64 (a : Int), .int .i64 0]) (by simp [results, Try.results77, go_sem]) rfl ?_
        exact ⟨A', c', by rw [HG0.out]; simp only [outL]; rw [List.length_map, HLl.out], L', by rw [HG0.out]; rfl, HOO.out, hb⟩
end Go.Proofs.Ytbjfmkdjnglgbaa
