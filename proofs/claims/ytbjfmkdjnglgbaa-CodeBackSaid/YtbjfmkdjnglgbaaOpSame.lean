/-
  Whether two operations are the same, by the program and by the document. Condition: parts of their types.
-/
import Derived.Test.YtbjfmkdjnglgbaaOpCheck
namespace Go.Proofs.Ytbjfmkdjnglgbaa
open Go.RowKit

set_option maxHeartbeats 3200000 in
set_option maxRecDepth 100000 in
theorem opsame_any (k t r z k' t' r' z' : Int) (A B : Option Addr) (n m c d : Nat) (p q : List Rn) (w : World) (hr : RR w w.heap.size A p) (hs : RR w w.heap.size B q) (hn : p.length = n) (hm : q.length = m) (hl : n < 1073741824) (hl' : m < 1073741824) :
    Calls Try.prog 57 #[opv k t r A n c z, opv k' t' r' B m d z'] w fun e w' => e = .returned (.bool (decide (k = k' ∧ t = t' ∧ r = r' ∧ p = q ∧ z = z'))) ∧ Below w.heap.size w w' := by
  obtain ⟨w1, hw1, a0, a1, a2, a3, a4, hs1, hb1⟩ := five_box w (.int .u8 k) (.int .u32 t) (.int .u8 r) (.slice A n c) (.int .i64 z) 47
  obtain ⟨w2, hw2, b0, b1, b2, b3, b4, hs2, hb2⟩ := five_box w1 (.int .u8 k') (.int .u32 t') (.int .u8 r') (.slice B m d) (.int .i64 z') 47
  have hb02 := fresh hb1 hb2
  replace a0 := keep_cell hb2 hs1 a0
  replace a1 := keep_cell hb2 hs1 a1
  replace a2 := keep_cell hb2 hs1 a2
  replace a3 := keep_cell hb2 hs1 a3
  replace a4 := keep_cell hb2 hs1 a4
  replace hs1 := Nat.lt_of_lt_of_le hs1 hb2.size
  have C := hide (psame_any A B c d n m p q w2 (hr.below' hb02) (hs.below' hb02) hn hm hl hl')
  clear hr hs hn hm hl hl'
  obtain ⟨g1, hg1⟩ : ∃ g, g = w1.heap.size := ⟨_, rfl⟩
  have hc : ((k == k') = false ∧ ¬ k = k') ∨ ((k == k') = true ∧ k = k' ∧ (((t == t') = false ∧ ¬ t = t') ∨ ((t == t') = true ∧ t = t' ∧ (((r == r') = false ∧ ¬ r = r') ∨ ((r == r') = true ∧ r = r' ∧ (((z == z') = false ∧ ¬ z = z') ∨ ((z == z') = true ∧ z = z'))))))) := by
    simp only [beq_iff_eq, beq_eq_false_iff_ne, ne_eq]
    omega
  clear hg1 g1
  rcases hc with ⟨c1, e1⟩ | ⟨c1, e1, ⟨c2, e2⟩ | ⟨c2, e2, ⟨c3, e3⟩ | ⟨c3, e3, ⟨c4, e4⟩ | ⟨c4, e4⟩⟩⟩⟩
  · have hf := hide (show decide (k = k' ∧ t = t' ∧ r = r' ∧ p = q ∧ z = z') = false from decide_eq_false fun h => e1 (by simp only [h]))
    clear e1
    go_enter Try.func57, Try.ntmps57
    go_wp2_with fail
    go_ret
    exact ⟨ret_bool hf.out.symm, hb02⟩
  · have hf := hide (show decide (k = k' ∧ t = t' ∧ r = r' ∧ p = q ∧ z = z') = false from decide_eq_false fun h => e2 (by simp only [h]))
    clear e1 e2
    go_enter Try.func57, Try.ntmps57
    go_wp2_with fail
    go_ret
    exact ⟨ret_bool hf.out.symm, hb02⟩
  · have hf := hide (show decide (k = k' ∧ t = t' ∧ r = r' ∧ p = q ∧ z = z') = false from decide_eq_false fun h => e3 (by simp only [h]))
    clear e1 e2 e3
    go_enter Try.func57, Try.ntmps57
    go_wp2_with fail
    go_ret
    exact ⟨ret_bool hf.out.symm, hb02⟩
  · have hf := hide (show decide (k = k' ∧ t = t' ∧ r = r' ∧ p = q ∧ z = z') = false from decide_eq_false fun h => e4 (by simp only [h]))
    clear e1 e2 e3 e4
    go_enter Try.func57, Try.ntmps57
    go_wp2_with fail
    go_ret
    exact ⟨ret_bool hf.out.symm, hb02⟩
  · have hf := hide (show decide (k = k' ∧ t = t' ∧ r = r' ∧ p = q ∧ z = z') = decide (p = q) from decide_eq_decide.2 ⟨fun h => h.2.2.2.1, fun h => ⟨e1, e2, e3, h, e4⟩⟩)
    clear e1 e2 e3 e4
    go_enter Try.func57, Try.ntmps57
    go_wp2_with fail
    refine C.out.mono ?_
    rintro e w3 ⟨rfl, hb3⟩
    go_wp2_with fail
    go_ret
    exact ⟨ret_bool (by rw [hf.out]), fresh hb02 hb3⟩

set_option maxHeartbeats 3200000 in
set_option maxRecDepth 100000 in
theorem oprefsame_any (k t r z k' t' r' z' : Int) (A B : Option Addr) (n m c d : Nat) (p q : List Rn) (w : World) (hr : RR w w.heap.size A p) (hs : RR w w.heap.size B q) (hn : p.length = n) (hm : q.length = m) (hl : n < 1073741824) (hl' : m < 1073741824) :
    Calls Try.prog 58 #[opv k t r A n c z, opv k' t' r' B m d z'] w fun e w' => e = .returned (.bool (decide (k = k' ∧ t = t' ∧ r = r' ∧ p = q ∧ z = z'))) ∧ Below w.heap.size w w' := by
  obtain ⟨w1, hw1, a0, a1, a2, a3, a4, hs1, hb1⟩ := five_box w (.int .u8 k) (.int .u32 t) (.int .u8 r) (.slice A n c) (.int .i64 z) 47
  obtain ⟨w2, hw2, b0, b1, b2, b3, b4, hs2, hb2⟩ := five_box w1 (.int .u8 k') (.int .u32 t') (.int .u8 r') (.slice B m d) (.int .i64 z') 47
  have hb02 := fresh hb1 hb2
  replace a0 := keep_cell hb2 hs1 a0
  replace a1 := keep_cell hb2 hs1 a1
  replace a2 := keep_cell hb2 hs1 a2
  replace a3 := keep_cell hb2 hs1 a3
  replace a4 := keep_cell hb2 hs1 a4
  replace hs1 := Nat.lt_of_lt_of_le hs1 hb2.size
  have C := hide (refsame_any A B c d n m p q w2 (hr.below' hb02) (hs.below' hb02) hn hm hl hl')
  clear hr hs hn hm hl hl'
  obtain ⟨g1, hg1⟩ : ∃ g, g = w1.heap.size := ⟨_, rfl⟩
  have hc : ((k == k') = false ∧ ¬ k = k') ∨ ((k == k') = true ∧ k = k' ∧ (((t == t') = false ∧ ¬ t = t') ∨ ((t == t') = true ∧ t = t' ∧ (((r == r') = false ∧ ¬ r = r') ∨ ((r == r') = true ∧ r = r' ∧ (((z == z') = false ∧ ¬ z = z') ∨ ((z == z') = true ∧ z = z'))))))) := by
    simp only [beq_iff_eq, beq_eq_false_iff_ne, ne_eq]
    omega
  clear hg1 g1
  rcases hc with ⟨c1, e1⟩ | ⟨c1, e1, ⟨c2, e2⟩ | ⟨c2, e2, ⟨c3, e3⟩ | ⟨c3, e3, ⟨c4, e4⟩ | ⟨c4, e4⟩⟩⟩⟩
  · have hf := hide (show decide (k = k' ∧ t = t' ∧ r = r' ∧ p = q ∧ z = z') = false from decide_eq_false fun h => e1 (by simp only [h]))
    clear e1
    go_enter Try.func58, Try.ntmps58
    go_wp2_with fail
    go_ret
    exact ⟨ret_bool hf.out.symm, hb02⟩
  · have hf := hide (show decide (k = k' ∧ t = t' ∧ r = r' ∧ p = q ∧ z = z') = false from decide_eq_false fun h => e2 (by simp only [h]))
    clear e1 e2
    go_enter Try.func58, Try.ntmps58
    go_wp2_with fail
    go_ret
    exact ⟨ret_bool hf.out.symm, hb02⟩
  · have hf := hide (show decide (k = k' ∧ t = t' ∧ r = r' ∧ p = q ∧ z = z') = false from decide_eq_false fun h => e3 (by simp only [h]))
    clear e1 e2 e3
    go_enter Try.func58, Try.ntmps58
    go_wp2_with fail
    go_ret
    exact ⟨ret_bool hf.out.symm, hb02⟩
  · have hf := hide (show decide (k = k' ∧ t = t' ∧ r = r' ∧ p = q ∧ z = z') = false from decide_eq_false fun h => e4 (by simp only [h]))
    clear e1 e2 e3 e4
    obtain ⟨bb, hB⟩ : ∃ b, b = decide (p = q) := ⟨_, rfl⟩
    rw [← hB] at C
    clear hB
    cases bb
    all_goals
      go_enter Try.func58, Try.ntmps58
      go_wp2_with fail
      refine C.out.mono ?_
      rintro e w3 ⟨rfl, hb3⟩
      replace a4 := keep_cell hb3 hs1 a4
      replace b4 := keep_cell hb3 hs2 b4
      go_wp2_with fail
      go_ret
      exact ⟨ret_bool hf.out.symm, fresh hb02 hb3⟩
  · have hf := hide (show decide (k = k' ∧ t = t' ∧ r = r' ∧ p = q ∧ z = z') = decide (p = q) from decide_eq_decide.2 ⟨fun h => h.2.2.2.1, fun h => ⟨e1, e2, e3, h, e4⟩⟩)
    clear e1 e2 e3 e4
    obtain ⟨bb, hB⟩ : ∃ b, b = decide (p = q) := ⟨_, rfl⟩
    rw [← hB] at C hf
    clear hB
    cases bb
    all_goals
      go_enter Try.func58, Try.ntmps58
      go_wp2_with fail
      refine C.out.mono ?_
      rintro e w3 ⟨rfl, hb3⟩
      replace a4 := keep_cell hb3 hs1 a4
      replace b4 := keep_cell hb3 hs2 b4
      go_wp2_with fail
      go_ret
      exact ⟨ret_bool hf.out.symm, fresh hb02 hb3⟩

end Go.Proofs.Ytbjfmkdjnglgbaa
