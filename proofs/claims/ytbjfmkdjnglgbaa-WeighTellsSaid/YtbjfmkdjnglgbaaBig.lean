/-
  The document's copies of places and operations, and whether they are the same, of up to 2^43 runs. Condition: parts of their types.
-/
import Derived.Test.YtbjfmkdjnglgbaaOpTwin
namespace Go.Proofs.Ytbjfmkdjnglgbaa
open Go.RowKit

theorem wpList_append_big {P : Program} (w : World) {ops : Array Oper} {rest : List Oper} {o : Oper} {a : Act} {Q : Exit → Act → World → Prop} (hgd : o.guard = none) (s x : Operand) (t : TypeId)
    (ho : o.op = .call { callee := .builtin .append, args := #[s, x], argTypes := #[t, t] })
    (base : Nat) (e : TypeId) (i : TypeInfo) (z : Value) (size bytes : Nat) (ht : P.underlying t = some (.slice e)) (hi : P.info? e = some i) (hz : i.zero = some z)
    (hsize : i.size = size) (hby : i.bytes = bytes) (hzs : z.cells.size = size) (hsz : 0 < size)
    (v : Value) (n : Nat) (xs : List Value) (hs : a.eval s = v) (hown : w.ownsRow base e size v n xs)
    (B : Nat) (A : Option Addr) (m c : Nat) (news : List Value) (hx : a.eval x = .slice A m c) (hr : RD w B size A m news) (h1 : ∀ u ∈ news, u.oneCell' = true)
    (h63 : n + m ≤ 8796093022208) (hbytes : (n + m) * bytes ≤ 140737488355328) (hbase : base ≤ w.heap.size)
    (h : ∀ v' w', w'.ownsRow base e size v' (n + m) (xs ++ news) → Below base w w' → wpList P ops Q rest (a.put o.dst v') w') : wpList P ops Q (o :: rest) a w :=
  wpList_plain hgd fun _ hK => by
    obtain ⟨v', w', hrun, h2, h3⟩ := run_append_src (P := P) w base t o.type e i z size bytes ht hi hz hsize hby hzs hsz v n xs hown B A m c news hr h1 (by unfold maxLen; omega) hbytes hbase
    unfold Oper.wp execOp
    simp only [ho, resolve, invoke, builtin, Sem.run_bind, Sem.run_pure, Result.andThen_ok, List.map_toArray, List.map_cons, List.map_nil, hs, hx, hrun]
    exact hK _ _ (h v' w' h2 (grown_below hown h3 hbase))

set_option maxHeartbeats 1600000 in
set_option maxRecDepth 100000 in
/-- octavoref06.Same: the same runs. -/
theorem refsame_big (A B : Option Addr) (c d n k : Nat) (l m : List Rn) (w : World) (hr : RR w w.heap.size A l) (hs : RR w w.heap.size B m) (hn : l.length = n) (hk : m.length = k) (hl : n < 8796093022208) (hm : k < 8796093022208) :
    Calls Try.prog 27 #[.slice A n c, .slice B k d] w fun e w' => e = .returned (.bool (decide (l = m))) ∧ Below w.heap.size w w' := by
  subst hn hk
  by_cases hne : (l.length : Int) = (m.length : Int)
  · have hll : l.length = m.length := by omega
    have E := hide hll
    have hbe : ((l.length : Int) == (m.length : Int)) = true := by simpa using hne
    have hbn : ((l.length : Int) != (m.length : Int)) = false := by simpa using hne
    clear hne
    go_enter Try.func27, Try.ntmps27
    clear hll
    go_wp2_with fail
    go_loopw [5] (fun i wr => ∃ k : Nat, k ≤ l.length ∧ i = .int .i64 (k : Int) ∧ Hid (l.take k = m.take k) ∧ Below w.heap.size w wr) (fun i _ => l.length - (intOf i).toNat)
    case atStart => exact ⟨0, by omega, rfl, hide rfl, Below.refl _ _⟩
    case round =>
      obtain ⟨k, hk, rfl, hT, hb⟩ := hrel
      by_cases hlt : k < l.length
      · have hltm : k < m.length := by have := E.out; omega
        obtain ⟨b0, o0, rfl, hB0, hC0⟩ := RR.cell (RD.below hr hb) (by omega)
        obtain ⟨b1, o1, rfl, hB1, hC1⟩ := RR.cell (RD.below hs hb) (by omega)
        obtain ⟨d0, d1, d2⟩ := hC0 k hlt
        obtain ⟨e0, e1, e2⟩ := hC1 k hltm
        clear hC0 hC1
        have z0 : (k : Int) < l.length := by omega
        have z1 : (k : Int) < m.length := by omega
        have z4 : (0 : Int) ≤ k := by omega
        obtain ⟨x0, hx0⟩ : ∃ x, x = l[k].1 := ⟨_, rfl⟩
        obtain ⟨x1, hx1⟩ : ∃ x, x = l[k].2.1 := ⟨_, rfl⟩
        obtain ⟨x2, hx2⟩ : ∃ x, x = l[k].2.2 := ⟨_, rfl⟩
        obtain ⟨y0, hy0⟩ : ∃ x, x = m[k].1 := ⟨_, rfl⟩
        obtain ⟨y1, hy1⟩ : ∃ x, x = m[k].2.1 := ⟨_, rfl⟩
        obtain ⟨y2, hy2⟩ : ∃ x, x = m[k].2.2 := ⟨_, rfl⟩
        rw [← hx0] at d0
        rw [← hx1] at d1
        rw [← hx2] at d2
        rw [← hy0] at e0
        rw [← hy1] at e1
        rw [← hy2] at e2
        have hX := hide (show l[k] = (x0, x1, x2) by rw [hx0, hx1, hx2])
        have hY := hide (show m[k] = (y0, y1, y2) by rw [hy0, hy1, hy2])
        clear hx0 hx1 hx2 hy0 hy1 hy2
        by_cases hxy : x0 = y0 ∧ x1 = y1 ∧ x2 = y2
        · obtain ⟨rfl, rfl, rfl⟩ := hxy
          go_wp2_with fail
          go_quiet (fail)
          go_wp2_with fail
          go_roundw
          case rel =>
            refine ⟨k + 1, by omega, by go_num, hide ?_, below_drewN hb _⟩
            rw [List.take_succ_eq_append_getElem hlt, List.take_succ_eq_append_getElem hltm, hT.out, hX.out, hY.out]
          case measure => simp [intOf]; omega
        · have hcs : (¬ x0 = y0) ∨ (x0 = y0 ∧ ¬ x1 = y1) ∨ (x0 = y0 ∧ x1 = y1 ∧ ¬ x2 = y2) := by
            by_cases h0 : x0 = y0
            · by_cases h1 : x1 = y1
              · exact .inr (.inr ⟨h0, h1, fun h2 => hxy ⟨h0, h1, h2⟩⟩)
              · exact .inr (.inl ⟨h0, h1⟩)
            · exact .inl h0
          have hf := hide (show decide (l = m) = false by
            rw [decide_eq_false_iff_not]
            intro e
            subst e
            have := hX.out.symm.trans hY.out
            simp only [Prod.mk.injEq] at this
            exact hxy this)
          clear hxy
          rcases hcs with h0 | ⟨rfl, h1⟩ | ⟨rfl, rfl, h2⟩
          all_goals
            go_wp2_with fail
            go_quiet (fail)
            go_wp2_with fail
            go_ret
            exact ⟨ret_bool hf.out.symm, below_drewN hb _⟩
      · have hkl : ¬ (k : Int) < l.length := by omega
        have fin := hide (show decide (l = m) = true by
          have h1 := hT.out
          rw [List.take_of_length_le (by omega), List.take_of_length_le (by have := E.out; omega)] at h1
          exact decide_eq_true h1)
        go_wp2_with fail
        go_ret
        exact ⟨ret_bool fin.out.symm, hb⟩
  · have hbe : ((l.length : Int) == (m.length : Int)) = false := by simpa using hne
    have hbn : ((l.length : Int) != (m.length : Int)) = true := by simpa using hne
    have fin := hide (show decide (l = m) = false by
      rw [decide_eq_false_iff_not]
      intro e
      exact hne (by rw [e]))
    clear hne
    go_enter Try.func27, Try.ntmps27
    go_wp2_with fail
    go_ret
    exact ⟨ret_bool fin.out.symm, Below.refl _ _⟩

set_option maxHeartbeats 400000 in
set_option maxRecDepth 100000 in
theorem reftwin_big (A : Option Addr) (n c : Nat) (l : List Rn) (w : World) (hr : RR w w.heap.size A l) (hn : l.length = n) (hl : n < 8796093022208) :
    Calls Try.prog 22 #[.slice A n c] w fun e w' => ∃ v, e = .returned v ∧ w'.ownsRow w.heap.size 41 3 v l.length (rns l) ∧ Below w.heap.size w w' := by
  subst hn
  obtain ⟨i0, hi0, hz0, hz1, hz2⟩ := info_parts rinfo
  go_enter Try.func22, Try.ntmps22
  go_wp2_with (at_builtin; refine wpList_append_big _ rfl (.tmp 4) (.tmp 5) 22 rfl w.heap.size 41 i0 (.agg #[.int .u32 0, .int .u8 0, .int .i64 0]) 3 16 Try.underlying22 hi0 hz0 hz1 hz2 rfl (by decide) _ 0 [] rfl (World.ownsRow_nil _ _ _ _) w.heap.size A l.length c (rns l) rfl hr (rns_one _) (by omega) (by omega) (Nat.le_refl _) ?_; intro v1 w1 hown1 hb1; simp only [Nat.zero_add, List.nil_append] at hown1)
  go_ret
  exact ⟨_, rfl, hown1, hb1⟩

set_option maxHeartbeats 3200000 in
set_option maxRecDepth 100000 in
theorem oprefsame_big (k t r z k' t' r' z' : Int) (A B : Option Addr) (n m c d : Nat) (p q : List Rn) (w : World) (hr : RR w w.heap.size A p) (hs : RR w w.heap.size B q) (hn : p.length = n) (hm : q.length = m) (hl : n < 8796093022208) (hl' : m < 8796093022208) :
    Calls Try.prog 58 #[opv k t r A n c z, opv k' t' r' B m d z'] w fun e w' => e = .returned (.bool (decide (k = k' ∧ t = t' ∧ r = r' ∧ p = q ∧ z = z'))) ∧ Below w.heap.size w w' := by
  obtain ⟨w1, hw1, a0, a1, a2, a3, a4, hs1, hb1⟩ := five_box w (.int .u8 k) (.int .u32 t) (.int .u8 r) (.slice A n c) (.int .i64 z) 47
  obtain ⟨w2, hw2, b0, b1, b2, b3, b4, hs2, hb2⟩ := five_box w1 (.int .u8 k') (.int .u32 t') (.int .u8 r') (.slice B m d) (.int .i64 z') 47
  have hb02 := fresh hb1 hb2
  replace a0 := keep_cell hb2 hs1 a0
  replace a1 := keep_cell hb2 hs1 a1
  replace a2 := keep_cell hb2 hs1 a2
  replace a3 := keep_cell hb2 hs1 a3
  replace a4 := keep_cell hb2 hs1 a4
  replace hs1 := Nat.lt_of_lt_of_le hs1 hb2.size
  have C := hide (refsame_big A B c d n m p q w2 (hr.below' hb02) (hs.below' hb02) hn hm hl hl')
  clear hr hs hn hm hl hl'
  obtain ⟨g1, hg1⟩ : ∃ g, g = w1.heap.size := ⟨_, rfl⟩
  have hc : ((k == k') = false ∧ ¬ k = k') ∨ ((k == k') = true ∧ k = k' ∧ (((t == t') = false ∧ ¬ t = t') ∨ ((t == t') = true ∧ t = t' ∧ (((r == r') = false ∧ ¬ r = r') ∨ ((r == r') = true ∧ r = r' ∧ (((z == z') = false ∧ ¬ z = z') ∨ ((z == z') = true ∧ z = z'))))))) := by
    simp only [beq_iff_eq, beq_eq_false_iff_ne, ne_eq]
    omega
  clear hg1 g1
  rcases hc with ⟨c1, e1⟩ | ⟨c1, e1, ⟨c2, e2⟩ | ⟨c2, e2, ⟨c3, e3⟩ | ⟨c3, e3, ⟨c4, e4⟩ | ⟨c4, e4⟩⟩⟩⟩
  · have hf := hide (show decide (k = k' ∧ t = t' ∧ r = r' ∧ p = q ∧ z = z') = false from decide_eq_false fun h => e1 (by simp only [h]))
    clear e1
    go_enter Try.func58, Try.ntmps58
    go_wp2_with fail
    go_ret
    exact ⟨ret_bool hf.out.symm, hb02⟩
  · have hf := hide (show decide (k = k' ∧ t = t' ∧ r = r' ∧ p = q ∧ z = z') = false from decide_eq_false fun h => e2 (by simp only [h]))
    clear e1 e2
    go_enter Try.func58, Try.ntmps58
    go_wp2_with fail
    go_ret
    exact ⟨ret_bool hf.out.symm, hb02⟩
  · have hf := hide (show decide (k = k' ∧ t = t' ∧ r = r' ∧ p = q ∧ z = z') = false from decide_eq_false fun h => e3 (by simp only [h]))
    clear e1 e2 e3
    go_enter Try.func58, Try.ntmps58
    go_wp2_with fail
    go_ret
    exact ⟨ret_bool hf.out.symm, hb02⟩
  · have hf := hide (show decide (k = k' ∧ t = t' ∧ r = r' ∧ p = q ∧ z = z') = false from decide_eq_false fun h => e4 (by simp only [h]))
    clear e1 e2 e3 e4
    obtain ⟨bb, hB⟩ : ∃ b, b = decide (p = q) := ⟨_, rfl⟩
    rw [← hB] at C
    clear hB
    cases bb
    all_goals
      go_enter Try.func58, Try.ntmps58
      go_wp2_with fail
      refine C.out.mono ?_
      rintro e w3 ⟨rfl, hb3⟩
      replace a4 := keep_cell hb3 hs1 a4
      replace b4 := keep_cell hb3 hs2 b4
      go_wp2_with fail
      go_ret
      exact ⟨ret_bool hf.out.symm, fresh hb02 hb3⟩
  · have hf := hide (show decide (k = k' ∧ t = t' ∧ r = r' ∧ p = q ∧ z = z') = decide (p = q) from decide_eq_decide.2 ⟨fun h => h.2.2.2.1, fun h => ⟨e1, e2, e3, h, e4⟩⟩)
    clear e1 e2 e3 e4
    obtain ⟨bb, hB⟩ : ∃ b, b = decide (p = q) := ⟨_, rfl⟩
    rw [← hB] at C hf
    clear hB
    cases bb
    all_goals
      go_enter Try.func58, Try.ntmps58
      go_wp2_with fail
      refine C.out.mono ?_
      rintro e w3 ⟨rfl, hb3⟩
      replace a4 := keep_cell hb3 hs1 a4
      replace b4 := keep_cell hb3 hs2 b4
      go_wp2_with fail
      go_ret
      exact ⟨ret_bool hf.out.symm, fresh hb02 hb3⟩

set_option maxHeartbeats 1600000 in
set_option maxRecDepth 100000 in
theorem oreftwin_big (k t r z : Int) (A : Option Addr) (n c : Nat) (p : List Rn) (w : World) (hr : RR w w.heap.size A p) (hn : p.length = n) (hl : n < 8796093022208) :
    Calls Try.prog 51 #[opv k t r A n c z] w fun e w' => ∃ A' c', e = .returned (opv k t r A' p.length c' z) ∧ (A' = none → c' = 0) ∧ w'.ownsRow w.heap.size 41 3 (.slice A' p.length c') p.length (rns p) ∧ Below w.heap.size w w' := by
  obtain ⟨w1, hw1, F1, hs1, hb1⟩ := five_fb w (.int .u8 k) (.int .u32 t) (.int .u8 r) (.slice A n c) (.int .i64 z)
  obtain ⟨w2, hw2, F2, hs2, hb2⟩ := five_fb w1 (.int .u8 0) (.int .u32 0) (.int .u8 0) (.slice none 0 0) (.int .i64 0)
  have hb02 := fresh hb1 hb2
  have F12 := F1.below hb2
  replace hs1 := F12.lt
  have T := hide (reftwin_big A n c p w2 (hr.below' hb02) hn hl)
  obtain ⟨c0, c1, c2, c3, c4⟩ := F12.cells
  clear hr hn hl F1
  go_enter Try.func51, Try.ntmps51
  go_wp2_with fail
  refine T.out.mono ?_
  rintro e w3 ⟨v, rfl, hown, hb3⟩
  have F13 := F12.below hb3
  have F23 := F2.below hb3
  obtain ⟨g1, hg1⟩ : ∃ g, g = w.heap.size := ⟨_, rfl⟩
  obtain ⟨g2, hg2⟩ : ∃ g, g = w1.heap.size := ⟨_, rfl⟩
  have hne : g1 ≠ g2 := by rw [hg1, hg2]; have := hb1.size; have : w.heap.size < w1.heap.size := by rw [← hw1]; simp
                           omega
  have hg12 : g1 < w2.heap.size := by rw [hg1]; exact hs1
  have hg22 : g2 < w2.heap.size := by rw [hg2]; exact hs2
  rw [← hg1] at F13
  rw [← hg2] at F23
  rw [← hg1, ← hg2]
  clear hw1 hw2 c0 c1 c2 c3 c4 F12 F2
  have z3 := F13.fr 3
  have F14 := F13.set3 v
  have F24 := F23.other (fun h => hne h.symm) 3 v
  have Hb4 := hide (fresh hb02 hb3)
  obtain ⟨w4, hw4⟩ : ∃ w4, w3.setCell ⟨g1, 3, none⟩ v = w4 := ⟨_, rfl⟩
  rw [hw4] at F14 F24
  obtain ⟨A', c', rfl, hn', -, -⟩ := own_slice hown
  have Hnil := hide (own_nilB hown)
  obtain ⟨d0, d1, d2, d3, d4⟩ := F14.cells
  have f0 := F24.fr 0
  have f1 := F24.fr 1
  have f2 := F24.fr 2
  have f3 := F24.fr 3
  have f4 := F24.fr 4
  have HF := hide F24
  have HG := hide (And.intro hg1 hg2)
  have Hx := hide hne
  have Hown := hide hown
  obtain ⟨e0, e1, e2, e3, e4⟩ := F13.cells
  obtain ⟨u0, u1, u2, u3, u4⟩ := F24.cells
  clear F13 F23 F14 F24 hg1 hg2 hne hown hn'
  go_wp2_with fail
  try rw [hw4]
  have F5 := put5_fb HF.out (.int .u8 k) (.int .u32 t) (.int .u8 r) (.slice A' p.length c') (.int .i64 z)
  have Hb5 : Below w.heap.size w (put5 w4 g2 (.int .u8 k) (.int .u32 t) (.int .u8 r) (.slice A' p.length c') (.int .i64 z)) := by
    rw [← hw4]
    refine put5_below (Hb4.out.setCell ?_ _) _ _ _ _ _ _ ?_
    · rw [HG.out.1]; exact Nat.le_refl _
    · rw [HG.out.2]; exact hb1.size
  have Hown5 : (put5 w4 g2 (.int .u8 k) (.int .u32 t) (.int .u8 r) (.slice A' p.length c') (.int .i64 z)).ownsRow w.heap.size 41 3 (.slice A' p.length c') p.length (rns p) := by
    refine own_other Hown.out hb02.size fun g hg => ?_
    rw [put5_other (by omega), ← hw4, heap_setCell_other _ _ _ _ (by simp only; omega)]
  change bodyPost _ _ _ _ _ (put5 w4 g2 (.int .u8 k) (.int .u32 t) (.int .u8 r) (.slice A' p.length c') (.int .i64 z))
  generalize put5 w4 g2 (.int .u8 k) (.int .u32 t) (.int .u8 r) (.slice A' p.length c') (.int .i64 z) = W at F5 Hb5 Hown5 ⊢
  obtain ⟨v0, v1, v2, v3, v4⟩ := F5.cells
  refine bodyPost_ret (v := opv k t r A' p.length c' z) (by simp [results, Try.results51, go_sem, v0, v1, v2, v3, v4]) rfl ⟨A', c', rfl, Hnil.out, Hown5, Hb5⟩
end Go.Proofs.Ytbjfmkdjnglgbaa
