/-
  octavolaw05.alive, StampOrder. No condition.
-/
import Derived.Test.YtllmlnbgfikeaaaStampNext
namespace Go.Proofs.Ytllmlnbgfikeaaa
open Go.RowKit

theorem RI.new (w : World) (cs : Array Value) (T : TypeId) (l : List (Int × Int)) (h : cs.toList = ids l) : RI (w.alloc (.cells cs T)) (w.alloc (.cells cs T)).heap.size (some ⟨w.heap.size, 0, none⟩) l := by
  refine ⟨ids_len l, fun _ => ⟨_, _, rfl, by rw [World.size_alloc]; omega, fun j u hu => ?_⟩⟩
  rw [Nat.zero_add, World.cell?_alloc_new, ← Array.getElem?_toList, h]
  exact hu

theorem less_yes (t r t' r' : Int) (w : World) (h0 : 0 ≤ t) (h1 : t < 4294967296) (g0 : 0 ≤ r) (g1 : r < 256) (h0' : 0 ≤ t') (h1' : t' < 4294967296) (g0' : 0 ≤ r') (g1' : r' < 256) (h : lessB t r t' r' = true) :
    Calls Try.prog 21 #[.agg #[.int .u32 t, .int .u8 r], .agg #[.int .u32 t', .int .u8 r']] w fun e w' => e = .returned (.bool true) ∧ Below w.heap.size w w' :=
  (less_any t r t' r' w h0 h1 g0 g1 h0' h1' g0' g1').mono fun _ _ ⟨he, hb⟩ => ⟨by rw [he, h], hb⟩
theorem less_no (t r t' r' : Int) (w : World) (h0 : 0 ≤ t) (h1 : t < 4294967296) (g0 : 0 ≤ r) (g1 : r < 256) (h0' : 0 ≤ t') (h1' : t' < 4294967296) (g0' : 0 ≤ r') (g1' : r' < 256) (h : lessB t r t' r' = false) :
    Calls Try.prog 21 #[.agg #[.int .u32 t, .int .u8 r], .agg #[.int .u32 t', .int .u8 r']] w fun e w' => e = .returned (.bool false) ∧ Below w.heap.size w w' :=
  (less_any t r t' r' w h0 h1 g0 g1 h0' h1' g0' g1').mono fun _ _ ⟨he, hb⟩ => ⟨by rw [he, h], hb⟩

set_option maxHeartbeats 1600000 in
set_option maxRecDepth 100000 in
theorem salive_ok (w : World) : Calls Try.prog 17 #[] w fun e w' => e = .returned (.bool true) ∧ Below w.heap.size w w' := by
  have L1 := hide (fun w => less_yes 3 1 4 0 w (by decide) (by decide) (by decide) (by decide) (by decide) (by decide) (by decide) (by decide) rfl)
  have L2 := hide (fun w => less_yes 3 1 3 2 w (by decide) (by decide) (by decide) (by decide) (by decide) (by decide) (by decide) (by decide) rfl)
  have L3 := hide (fun w => less_no 3 1 3 1 w (by decide) (by decide) (by decide) (by decide) (by decide) (by decide) (by decide) (by decide) rfl)
  go_enter Try.func17, Try.ntmps17
  go_wp2_with fail
  refine (by_ok 3 1 w).mono ?_
  rintro e w1 ⟨rfl, hb1⟩
  go_wp2_with fail
  refine (by_ok 5 0 w1).mono ?_
  rintro e w2 ⟨rfl, hb2⟩
  have hbw2 := fresh hb1 hb2
  go_wp2_with fail
  refine (next_any 2 _ 2 2 [(3, 1), (5, 0)] _ (RI.new w2 _ _ [(3, 1), (5, 0)] rfl) rfl (by decide) (by intro a ha; simp at ha; rcases ha with rfl | rfl <;> (unfold okI; decide))).mono ?_
  rintro e w3 ⟨rfl, hb3⟩
  have hn : nextI 2 [(3, 1), (5, 0)] = ((6, 2), 0) := by decide
  rw [hn]
  have hbw3 := fresh hbw2 (fresh (boxed _ _) hb3)
  clear hb3 hn
  go_wp2_with fail
  obtain ⟨w4, hw4, k0, k1, hs4, hb4⟩ : ∃ w4, w3.alloc (.cells #[.int .u32 6, .int .u8 2] 31) = w4 ∧ w4.cell? ⟨w3.heap.size, 0, none⟩ = some (.int .u32 6) ∧ w4.cell? ⟨w3.heap.size, 1, none⟩ = some (.int .u8 2) ∧ w3.heap.size < w4.heap.size ∧ Below w3.heap.size w3 w4 := by
    refine ⟨_, rfl, ?_, ?_, by simp, boxed _ _⟩
    · rw [World.cell?_alloc_new]; rfl
    · rw [World.cell?_alloc_new]; rfl
  have hbw4 := fresh hbw3 hb4
  have Hw4 := hide hw4
  clear hw4
  rw [Hw4.out]
  generalize w3.heap.size = g at k0 k1 hs4 ⊢
  refine wp_region_past (by kernel_rfl) (by kernel_rfl) ?_
  repeat (quiet_step ((first
        | (go_at_call 16; exact past_call (by_ok _ _ _))
        | (go_at_call 21; with_reducible exact past_call (unhide L1 _))
        | (go_at_call 21; with_reducible exact past_call (unhide L2 _))
        | (go_at_call 21; with_reducible exact past_call (unhide L3 _)))))
  refine wpQuiet_nil ?_
  intro w5 hw5
  obtain ⟨u, rfl⟩ := hw5
  have hb5 := fresh hbw4 (below_past w4 u)
  clear k0 k1
  go_wp2_with fail
  go_ret
  exact ⟨rfl, hb5⟩

/-- What three boxes, one behind the other, hold. -/
def Held3 (w : World) (g : Nat) (a b c d e f : Value) : Prop := w.cell? ⟨g, 0, none⟩ = some a ∧ w.cell? ⟨g, 1, none⟩ = some b ∧ w.cell? ⟨g + 1, 0, none⟩ = some c ∧ w.cell? ⟨g + 1, 1, none⟩ = some d ∧
    w.cell? ⟨g + 1 + 1, 0, none⟩ = some e ∧ w.cell? ⟨g + 1 + 1, 1, none⟩ = some f ∧ g + 2 < w.heap.size
theorem keep_cell {w w' : World} {b o : Nat} {u : Value} (hb : Below w.heap.size w w') (hlt : b < w.heap.size) (h : w.cell? ⟨b, o, none⟩ = some u) : w'.cell? ⟨b, o, none⟩ = some u := (hb.cell (p := ⟨b, o, none⟩) hlt).trans h
theorem Held3.keep {w w' : World} {g : Nat} {a b c d e f : Value} (h : Held3 w g a b c d e f) (hb : Below w.heap.size w w') : Held3 w' g a b c d e f := by
  obtain ⟨k0, k1, k2, k3, k4, k5, hs⟩ := h
  exact ⟨keep_cell hb (by omega) k0, keep_cell hb (by omega) k1, keep_cell hb (by omega) k2, keep_cell hb (by omega) k3, keep_cell hb (by omega) k4, keep_cell hb (by omega) k5, Nat.lt_of_lt_of_le hs hb.size⟩
theorem three_boxes (w : World) (a b c d e f : Value) (T T' T'' : TypeId) : ∃ w2, ((w.alloc (.cells #[a, b] T)).alloc (.cells #[c, d] T')).alloc (.cells #[e, f] T'') = w2 ∧ Held3 w2 w.heap.size a b c d e f ∧ Below w.heap.size w w2 := by
  obtain ⟨w1, hw1, k0, k1, k2, k3, hs, hb⟩ := two_boxes w a b c d T T'
  have hsz : w1.heap.size = w.heap.size + 1 + 1 := by rw [← hw1]; simp
  rw [hw1]
  refine ⟨_, rfl, ⟨?_, ?_, ?_, ?_, ?_, ?_, by simp; omega⟩, hb.trans ((boxed _ _).mono (by omega))⟩
  · rw [World.cell?_alloc_lt _ _ _ (by simp; omega)]; exact k0
  · rw [World.cell?_alloc_lt _ _ _ (by simp; omega)]; exact k1
  · rw [World.cell?_alloc_lt _ _ _ (by simp; omega)]; exact k2
  · rw [World.cell?_alloc_lt _ _ _ (by simp; omega)]; exact k3
  · rw [← hsz, World.cell?_alloc_new]; rfl
  · rw [← hsz, World.cell?_alloc_new]; rfl

set_option maxHeartbeats 1600000 in
set_option maxRecDepth 100000 in
theorem stampOrder_walk (t r t' r' t'' r'' : Int) (w : World) (h : okI (t, r)) (h' : okI (t', r')) (h'' : okI (t'', r'')) :
    Calls Try.prog 6 #[.agg #[.int .u32 t, .int .u8 r], .agg #[.int .u32 t', .int .u8 r'], .agg #[.int .u32 t'', .int .u8 r'']] w fun e w' => e = .returned (.bool true) ∧ Below w.heap.size w w' := by
  obtain ⟨a0, a1, a2, a3⟩ := h
  obtain ⟨b0, b1, b2, b3⟩ := h'
  obtain ⟨c0, c1, c2, c3⟩ := h''
  simp only at a0 a1 a2 a3 b0 b1 b2 b3 c0 c1 c2 c3
  obtain ⟨w2, hw2, H2, hb2⟩ := three_boxes w (.int .u32 t) (.int .u8 r) (.int .u32 t') (.int .u8 r') (.int .u32 t'') (.int .u8 r'') 31 31 31
  have hcs : t < t' ∨ (t = t' ∧ r < r') ∨ (t' < t) ∨ (t = t' ∧ r' < r) ∨ (t = t' ∧ r = r') := by omega
  have Hw2 := hide hw2
  clear hw2
  rcases hcs with hc | ⟨hc0, hc⟩ | hc | ⟨hc0, hc⟩ | ⟨hc0, hc⟩
  · have f1 := hide (show lessB t r t' r' = true from decide_eq_true (.inl hc))
    have f2 := hide (show lessB t' r' t r = false from decide_eq_false (by omega))
    have ne : ¬ t = t' := by omega
    have f3 := hide (show lessB t' r' t'' r'' = true → lessB t r t'' r'' = true by unfold lessB; intro h; have h := of_decide_eq_true h; exact decide_eq_true (by omega))
    clear hc
    go_enter Try.func6, Try.ntmps6
    go_wp2_with fail
    rw [Hw2.out]
    obtain ⟨k0, k1, k2, k3, k4, k5, hs2⟩ := id H2
    go_wp2_with fail
    refine (less_any t r t' r' w2 a0 a1 a2 a3 b0 b1 b2 b3).mono ?_
    rintro e w3 ⟨rfl, hb3⟩
    rw [f1.out]
    clear k0 k1 k2 k3 k4 k5 hs2
    have H3 := H2.keep hb3
    have hbw3 := fresh hb2 hb3
    obtain ⟨k0, k1, k2, k3, k4, k5, hs2⟩ := id H3
    go_wp2_with fail
    refine (less_any t' r' t r w3 b0 b1 b2 b3 a0 a1 a2 a3).mono ?_
    rintro e w4 ⟨rfl, hb4⟩
    rw [f2.out]
    clear k0 k1 k2 k3 k4 k5 hs2
    have H4 := H3.keep hb4
    have hbw4 := fresh hbw3 hb4
    obtain ⟨k0, k1, k2, k3, k4, k5, hs2⟩ := id H4
    go_wp2_with fail
    refine (salive_ok w4).mono ?_
    rintro e w5 ⟨rfl, hb5⟩
    clear k0 k1 k2 k3 k4 k5 hs2
    have H5 := H4.keep hb5
    have hbw5 := fresh hbw4 hb5
    obtain ⟨k0, k1, k2, k3, k4, k5, hs2⟩ := id H5
    go_wp2_with fail
    refine (less_any t' r' t'' r'' w5 b0 b1 b2 b3 c0 c1 c2 c3).mono ?_
    rintro e w6 ⟨rfl, hb6⟩
    clear k0 k1 k2 k3 k4 k5 hs2
    have H6 := H5.keep hb6
    have hbw6 := fresh hbw5 hb6
    obtain ⟨k0, k1, k2, k3, k4, k5, hs2⟩ := id H6
    obtain ⟨z, hz⟩ : ∃ z, z = lessB t' r' t'' r'' := ⟨_, rfl⟩
    rw [← hz]
    cases z with
    | true =>
      have hf := hide (f3.out hz.symm)
      clear hz
      go_wp2_with fail
      refine (less_any t r t'' r'' w6 a0 a1 a2 a3 c0 c1 c2 c3).mono ?_
      rintro e w7 ⟨rfl, hb7⟩
      rw [hf.out]
      clear k0 k1 k2 k3 k4 k5 hs2
      go_wp2_with fail
      go_ret
      exact ⟨rfl, fresh hbw6 hb7⟩
    | false =>
      clear hz
      go_wp2_with fail
      go_ret
      exact ⟨rfl, hbw6⟩
  · have f1 := hide (show lessB t r t' r' = true from decide_eq_true (.inr ⟨hc0, hc⟩))
    have f2 := hide (show lessB t' r' t r = false from decide_eq_false (by omega))
    have ne : ¬ r = r' := by omega
    have f3 := hide (show lessB t' r' t'' r'' = true → lessB t r t'' r'' = true by unfold lessB; intro h; have h := of_decide_eq_true h; exact decide_eq_true (by omega))
    clear hc
    subst hc0
    go_enter Try.func6, Try.ntmps6
    go_wp2_with fail
    rw [Hw2.out]
    obtain ⟨k0, k1, k2, k3, k4, k5, hs2⟩ := id H2
    go_wp2_with fail
    refine (less_any t r t r' w2 a0 a1 a2 a3 a0 a1 b2 b3).mono ?_
    rintro e w3 ⟨rfl, hb3⟩
    rw [f1.out]
    clear k0 k1 k2 k3 k4 k5 hs2
    have H3 := H2.keep hb3
    have hbw3 := fresh hb2 hb3
    obtain ⟨k0, k1, k2, k3, k4, k5, hs2⟩ := id H3
    go_wp2_with fail
    refine (less_any t r' t r w3 a0 a1 b2 b3 a0 a1 a2 a3).mono ?_
    rintro e w4 ⟨rfl, hb4⟩
    rw [f2.out]
    clear k0 k1 k2 k3 k4 k5 hs2
    have H4 := H3.keep hb4
    have hbw4 := fresh hbw3 hb4
    obtain ⟨k0, k1, k2, k3, k4, k5, hs2⟩ := id H4
    go_wp2_with fail
    refine (salive_ok w4).mono ?_
    rintro e w5 ⟨rfl, hb5⟩
    clear k0 k1 k2 k3 k4 k5 hs2
    have H5 := H4.keep hb5
    have hbw5 := fresh hbw4 hb5
    obtain ⟨k0, k1, k2, k3, k4, k5, hs2⟩ := id H5
    go_wp2_with fail
    refine (less_any t r' t'' r'' w5 a0 a1 b2 b3 c0 c1 c2 c3).mono ?_
    rintro e w6 ⟨rfl, hb6⟩
    clear k0 k1 k2 k3 k4 k5 hs2
    have H6 := H5.keep hb6
    have hbw6 := fresh hbw5 hb6
    obtain ⟨k0, k1, k2, k3, k4, k5, hs2⟩ := id H6
    obtain ⟨z, hz⟩ : ∃ z, z = lessB t r' t'' r'' := ⟨_, rfl⟩
    rw [← hz]
    cases z with
    | true =>
      have hf := hide (f3.out hz.symm)
      clear hz
      go_wp2_with fail
      refine (less_any t r t'' r'' w6 a0 a1 a2 a3 c0 c1 c2 c3).mono ?_
      rintro e w7 ⟨rfl, hb7⟩
      rw [hf.out]
      clear k0 k1 k2 k3 k4 k5 hs2
      go_wp2_with fail
      go_ret
      exact ⟨rfl, fresh hbw6 hb7⟩
    | false =>
      clear hz
      go_wp2_with fail
      go_ret
      exact ⟨rfl, hbw6⟩
  · have f1 := hide (show lessB t r t' r' = false from decide_eq_false (by omega))
    have f2 := hide (show lessB t' r' t r = true from decide_eq_true (.inl hc))
    have ne : ¬ t = t' := by omega
    clear hc
    go_enter Try.func6, Try.ntmps6
    go_wp2_with fail
    rw [Hw2.out]
    obtain ⟨k0, k1, k2, k3, k4, k5, hs2⟩ := id H2
    go_wp2_with fail
    refine (less_any t r t' r' w2 a0 a1 a2 a3 b0 b1 b2 b3).mono ?_
    rintro e w3 ⟨rfl, hb3⟩
    rw [f1.out]
    clear k0 k1 k2 k3 k4 k5 hs2
    have H3 := H2.keep hb3
    have hbw3 := fresh hb2 hb3
    obtain ⟨k0, k1, k2, k3, k4, k5, hs2⟩ := id H3
    go_wp2_with fail
    refine (less_any t' r' t r w3 b0 b1 b2 b3 a0 a1 a2 a3).mono ?_
    rintro e w4 ⟨rfl, hb4⟩
    rw [f2.out]
    clear k0 k1 k2 k3 k4 k5 hs2
    have H4 := H3.keep hb4
    have hbw4 := fresh hbw3 hb4
    obtain ⟨k0, k1, k2, k3, k4, k5, hs2⟩ := id H4
    go_wp2_with fail
    refine (salive_ok w4).mono ?_
    rintro e w5 ⟨rfl, hb5⟩
    clear k0 k1 k2 k3 k4 k5 hs2
    have H5 := H4.keep hb5
    have hbw5 := fresh hbw4 hb5
    obtain ⟨k0, k1, k2, k3, k4, k5, hs2⟩ := id H5
    go_wp2_with fail
    go_ret
    exact ⟨rfl, hbw5⟩
  · have f1 := hide (show lessB t r t' r' = false from decide_eq_false (by omega))
    have f2 := hide (show lessB t' r' t r = true from decide_eq_true (.inr ⟨hc0.symm, hc⟩))
    have ne : ¬ r = r' := by omega
    clear hc
    subst hc0
    go_enter Try.func6, Try.ntmps6
    go_wp2_with fail
    rw [Hw2.out]
    obtain ⟨k0, k1, k2, k3, k4, k5, hs2⟩ := id H2
    go_wp2_with fail
    refine (less_any t r t r' w2 a0 a1 a2 a3 a0 a1 b2 b3).mono ?_
    rintro e w3 ⟨rfl, hb3⟩
    rw [f1.out]
    clear k0 k1 k2 k3 k4 k5 hs2
    have H3 := H2.keep hb3
    have hbw3 := fresh hb2 hb3
    obtain ⟨k0, k1, k2, k3, k4, k5, hs2⟩ := id H3
    go_wp2_with fail
    refine (less_any t r' t r w3 a0 a1 b2 b3 a0 a1 a2 a3).mono ?_
    rintro e w4 ⟨rfl, hb4⟩
    rw [f2.out]
    clear k0 k1 k2 k3 k4 k5 hs2
    have H4 := H3.keep hb4
    have hbw4 := fresh hbw3 hb4
    obtain ⟨k0, k1, k2, k3, k4, k5, hs2⟩ := id H4
    go_wp2_with fail
    refine (salive_ok w4).mono ?_
    rintro e w5 ⟨rfl, hb5⟩
    clear k0 k1 k2 k3 k4 k5 hs2
    have H5 := H4.keep hb5
    have hbw5 := fresh hbw4 hb5
    obtain ⟨k0, k1, k2, k3, k4, k5, hs2⟩ := id H5
    go_wp2_with fail
    go_ret
    exact ⟨rfl, hbw5⟩
  · have f1 := hide (show lessB t r t' r' = false from decide_eq_false (by omega))
    have f2 := hide (show lessB t' r' t r = false from decide_eq_false (by omega))
    subst hc0 hc
    go_enter Try.func6, Try.ntmps6
    go_wp2_with fail
    rw [Hw2.out]
    obtain ⟨k0, k1, k2, k3, k4, k5, hs2⟩ := id H2
    go_wp2_with fail
    refine (less_any t r t r w2 a0 a1 a2 a3 a0 a1 a2 a3).mono ?_
    rintro e w3 ⟨rfl, hb3⟩
    rw [f1.out]
    clear k0 k1 k2 k3 k4 k5 hs2
    have H3 := H2.keep hb3
    have hbw3 := fresh hb2 hb3
    obtain ⟨k0, k1, k2, k3, k4, k5, hs2⟩ := id H3
    go_wp2_with fail
    refine (less_any t r t r w3 a0 a1 a2 a3 a0 a1 a2 a3).mono ?_
    rintro e w4 ⟨rfl, hb4⟩
    rw [f2.out]
    clear k0 k1 k2 k3 k4 k5 hs2
    have H4 := H3.keep hb4
    have hbw4 := fresh hbw3 hb4
    obtain ⟨k0, k1, k2, k3, k4, k5, hs2⟩ := id H4
    go_wp2_with fail
    refine (salive_ok w4).mono ?_
    rintro e w5 ⟨rfl, hb5⟩
    clear k0 k1 k2 k3 k4 k5 hs2
    have H5 := H4.keep hb5
    have hbw5 := fresh hbw4 hb5
    obtain ⟨k0, k1, k2, k3, k4, k5, hs2⟩ := id H5
    go_wp2_with fail
    go_ret
    exact ⟨rfl, hbw5⟩
end Go.Proofs.Ytllmlnbgfikeaaa
