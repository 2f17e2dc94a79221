/-
  Copies of operations, by the program and by the document. Condition: parts of their types.
-/
import Derived.Test.YtbjfmkdjnglgbaaOpBox
namespace Go.Proofs.Ytbjfmkdjnglgbaa
open Go.RowKit

theorem own_nilB {w : World} {base n c : Nat} {e : TypeId} {size : Nat} {A : Option Addr} {xs : List Value} (h : w.ownsRow base e size (.slice A n c) n xs) : A = none → c = 0 := by
  intro hA
  rcases h.2 with ⟨h1, -⟩ | ⟨g, cap, cur, h1, -⟩
  · simp only [Value.slice.injEq] at h1
    exact h1.2.2
  · simp only [Value.slice.injEq] at h1
    rw [hA] at h1
    cases h1.1

set_option maxHeartbeats 1600000 in
set_option maxRecDepth 100000 in
theorem oreftwin_any (k t r z : Int) (A : Option Addr) (n c : Nat) (p : List Rn) (w : World) (hr : RR w w.heap.size A p) (hn : p.length = n) (hl : n < 1073741824) :
    Calls Try.prog 51 #[opv k t r A n c z] w fun e w' => ∃ A' c', e = .returned (opv k t r A' p.length c' z) ∧ (A' = none → c' = 0) ∧ w'.ownsRow w.heap.size 41 3 (.slice A' p.length c') p.length (rns p) ∧ Below w.heap.size w w' := by
  obtain ⟨w1, hw1, F1, hs1, hb1⟩ := five_fb w (.int .u8 k) (.int .u32 t) (.int .u8 r) (.slice A n c) (.int .i64 z)
  obtain ⟨w2, hw2, F2, hs2, hb2⟩ := five_fb w1 (.int .u8 0) (.int .u32 0) (.int .u8 0) (.slice none 0 0) (.int .i64 0)
  have hb02 := fresh hb1 hb2
  have F12 := F1.below hb2
  replace hs1 := F12.lt
  have T := hide (reftwin_any A n c p w2 (hr.below' hb02) hn hl)
  obtain ⟨c0, c1, c2, c3, c4⟩ := F12.cells
  clear hr hn hl F1
  go_enter Try.func51, Try.ntmps51
  go_wp2_with fail
  refine T.out.mono ?_
  rintro e w3 ⟨v, rfl, hown, hb3⟩
  have F13 := F12.below hb3
  have F23 := F2.below hb3
  obtain ⟨g1, hg1⟩ : ∃ g, g = w.heap.size := ⟨_, rfl⟩
  obtain ⟨g2, hg2⟩ : ∃ g, g = w1.heap.size := ⟨_, rfl⟩
  have hne : g1 ≠ g2 := by rw [hg1, hg2]; have := hb1.size; have : w.heap.size < w1.heap.size := by rw [← hw1]; simp
                           omega
  have hg12 : g1 < w2.heap.size := by rw [hg1]; exact hs1
  have hg22 : g2 < w2.heap.size := by rw [hg2]; exact hs2
  rw [← hg1] at F13
  rw [← hg2] at F23
  rw [← hg1, ← hg2]
  clear hw1 hw2 c0 c1 c2 c3 c4 F12 F2
  have z3 := F13.fr 3
  have F14 := F13.set3 v
  have F24 := F23.other (fun h => hne h.symm) 3 v
  have Hb4 := hide (fresh hb02 hb3)
  obtain ⟨w4, hw4⟩ : ∃ w4, w3.setCell ⟨g1, 3, none⟩ v = w4 := ⟨_, rfl⟩
  rw [hw4] at F14 F24
  obtain ⟨A', c', rfl, hn', -, -⟩ := own_slice hown
  have Hnil := hide (own_nilB hown)
  obtain ⟨d0, d1, d2, d3, d4⟩ := F14.cells
  have f0 := F24.fr 0
  have f1 := F24.fr 1
  have f2 := F24.fr 2
  have f3 := F24.fr 3
  have f4 := F24.fr 4
  have HF := hide F24
  have HG := hide (And.intro hg1 hg2)
  have Hx := hide hne
  have Hown := hide hown
  obtain ⟨e0, e1, e2, e3, e4⟩ := F13.cells
  obtain ⟨u0, u1, u2, u3, u4⟩ := F24.cells
  clear F13 F23 F14 F24 hg1 hg2 hne hown hn'
  go_wp2_with fail
  try rw [hw4]
  have F5 := put5_fb HF.out (.int .u8 k) (.int .u32 t) (.int .u8 r) (.slice A' p.length c') (.int .i64 z)
  have Hb5 : Below w.heap.size w (put5 w4 g2 (.int .u8 k) (.int .u32 t) (.int .u8 r) (.slice A' p.length c') (.int .i64 z)) := by
    rw [← hw4]
    refine put5_below (Hb4.out.setCell ?_ _) _ _ _ _ _ _ ?_
    · rw [HG.out.1]; exact Nat.le_refl _
    · rw [HG.out.2]; exact hb1.size
  have Hown5 : (put5 w4 g2 (.int .u8 k) (.int .u32 t) (.int .u8 r) (.slice A' p.length c') (.int .i64 z)).ownsRow w.heap.size 41 3 (.slice A' p.length c') p.length (rns p) := by
    refine own_other Hown.out hb02.size fun g hg => ?_
    rw [put5_other (by omega), ← hw4, heap_setCell_other _ _ _ _ (by simp only; omega)]
  change bodyPost _ _ _ _ _ (put5 w4 g2 (.int .u8 k) (.int .u32 t) (.int .u8 r) (.slice A' p.length c') (.int .i64 z))
  generalize put5 w4 g2 (.int .u8 k) (.int .u32 t) (.int .u8 r) (.slice A' p.length c') (.int .i64 z) = W at F5 Hb5 Hown5 ⊢
  obtain ⟨v0, v1, v2, v3, v4⟩ := F5.cells
  refine bodyPost_ret (v := opv k t r A' p.length c' z) (by simp [results, Try.results51, go_sem, v0, v1, v2, v3, v4]) rfl ⟨A', c', rfl, Hnil.out, Hown5, Hb5⟩

set_option maxHeartbeats 1600000 in
set_option maxRecDepth 100000 in
theorem optwin_any (k t r z : Int) (A : Option Addr) (n c : Nat) (p : List Rn) (w : World) (hr : RR w w.heap.size A p) (hn : p.length = n) (hl : n < 1073741824) (hnil : A = none → c = 0) :
    Calls Try.prog 54 #[opv k t r A n c z] w fun e w' => ∃ A' c', e = .returned (opv k t r A' p.length c' z) ∧ (A' = none → c' = 0) ∧ w'.ownsRow w.heap.size 41 3 (.slice A' p.length c') p.length (rns p) ∧ Below w.heap.size w w' := by
  obtain ⟨w1, hw1, F1, hs1, hb1⟩ := five_fb w (.int .u8 k) (.int .u32 t) (.int .u8 r) (.slice A n c) (.int .i64 z)
  obtain ⟨w2, hw2, F2, hs2, hb2⟩ := five_fb w1 (.int .u8 0) (.int .u32 0) (.int .u8 0) (.slice none 0 0) (.int .i64 0)
  have hb02 := fresh hb1 hb2
  have F12 := F1.below hb2
  replace hs1 := F12.lt
  have T := hide (ptwin_any A n c p w2 (hr.below' hb02) hn hl hnil)
  obtain ⟨c0, c1, c2, c3, c4⟩ := F12.cells
  clear hr hn hl hnil F1
  go_enter Try.func54, Try.ntmps54
  go_wp2_with fail
  refine T.out.mono ?_
  rintro e w3 ⟨v, rfl, hown, hb3⟩
  have F13 := F12.below hb3
  have F23 := F2.below hb3
  obtain ⟨g1, hg1⟩ : ∃ g, g = w.heap.size := ⟨_, rfl⟩
  obtain ⟨g2, hg2⟩ : ∃ g, g = w1.heap.size := ⟨_, rfl⟩
  have hne : g1 ≠ g2 := by rw [hg1, hg2]; have := hb1.size; have : w.heap.size < w1.heap.size := by rw [← hw1]; simp
                           omega
  have hg12 : g1 < w2.heap.size := by rw [hg1]; exact hs1
  have hg22 : g2 < w2.heap.size := by rw [hg2]; exact hs2
  rw [← hg1] at F13
  rw [← hg2] at F23
  rw [← hg1, ← hg2]
  clear hw1 hw2 c0 c1 c2 c3 c4 F12 F2
  have z3 := F13.fr 3
  have F14 := F13.set3 v
  have F24 := F23.other (fun h => hne h.symm) 3 v
  have Hb4 := hide (fresh hb02 hb3)
  obtain ⟨w4, hw4⟩ : ∃ w4, w3.setCell ⟨g1, 3, none⟩ v = w4 := ⟨_, rfl⟩
  rw [hw4] at F14 F24
  obtain ⟨A', c', rfl, hn', -, -⟩ := own_slice hown
  have Hnil := hide (own_nilB hown)
  obtain ⟨d0, d1, d2, d3, d4⟩ := F14.cells
  have f0 := F24.fr 0
  have f1 := F24.fr 1
  have f2 := F24.fr 2
  have f3 := F24.fr 3
  have f4 := F24.fr 4
  have HF := hide F24
  have HG := hide (And.intro hg1 hg2)
  have Hx := hide hne
  have Hown := hide hown
  obtain ⟨e0, e1, e2, e3, e4⟩ := F13.cells
  obtain ⟨u0, u1, u2, u3, u4⟩ := F24.cells
  clear F13 F23 F14 F24 hg1 hg2 hne hown hn'
  go_wp2_with fail
  try rw [hw4]
  have F5 := put5_fb HF.out (.int .u8 k) (.int .u32 t) (.int .u8 r) (.slice A' p.length c') (.int .i64 z)
  have Hb5 : Below w.heap.size w (put5 w4 g2 (.int .u8 k) (.int .u32 t) (.int .u8 r) (.slice A' p.length c') (.int .i64 z)) := by
    rw [← hw4]
    refine put5_below (Hb4.out.setCell ?_ _) _ _ _ _ _ _ ?_
    · rw [HG.out.1]; exact Nat.le_refl _
    · rw [HG.out.2]; exact hb1.size
  have Hown5 : (put5 w4 g2 (.int .u8 k) (.int .u32 t) (.int .u8 r) (.slice A' p.length c') (.int .i64 z)).ownsRow w.heap.size 41 3 (.slice A' p.length c') p.length (rns p) := by
    refine own_other Hown.out hb02.size fun g hg => ?_
    rw [put5_other (by omega), ← hw4, heap_setCell_other _ _ _ _ (by simp only; omega)]
  change bodyPost _ _ _ _ _ (put5 w4 g2 (.int .u8 k) (.int .u32 t) (.int .u8 r) (.slice A' p.length c') (.int .i64 z))
  generalize put5 w4 g2 (.int .u8 k) (.int .u32 t) (.int .u8 r) (.slice A' p.length c') (.int .i64 z) = W at F5 Hb5 Hown5 ⊢
  obtain ⟨v0, v1, v2, v3, v4⟩ := F5.cells
  refine bodyPost_ret (v := opv k t r A' p.length c' z) (by simp [results, Try.results54, go_sem, v0, v1, v2, v3, v4]) rfl ⟨A', c', rfl, Hnil.out, Hown5, Hb5⟩

end Go.Proofs.Ytbjfmkdjnglgbaa
