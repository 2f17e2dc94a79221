/-
  Texts of this claim, put together: CodeNext. What each theorem asks stands in its statement.
-/
import Derived.Test.YtmkpfdcnikgokaaMc10
set_option linter.unusedVariables false
set_option linter.unusedSimpArgs false
namespace Go.Proofs.Ytmkpfdcnikgokaa
open Go.RowKit
theorem RB.sub {w : World} {B b o : Nat} {l : List UInt8} (h : RB w B (some ⟨b, o, none⟩) l) (i j : Nat) (hj : j ≤ l.length) : RB w B (some ⟨b, o + i, none⟩) ((l.take j).drop i) := by
  refine ⟨by rw [u8s_len, Nat.mul_one], fun hn => ?_⟩
  have hl : 0 < l.length := by rw [List.length_drop, List.length_take] at hn; omega
  obtain ⟨b', o', e, hb, hc⟩ := h.2 hl
  cases e
  refine ⟨b, o + i, rfl, hb, fun k u hu => ?_⟩
  rw [← u8s_drop, ← u8s_take, List.getElem?_drop, List.getElem?_take] at hu
  split at hu
  · rw [Nat.add_assoc]; exact hc _ _ hu
  · cases hu
/-- Nothing turns but one block, and what is new. -/
def OnlyAt (g : Nat) (w w' : World) : Prop := Below g w w' ∧ ∀ k, k ≠ g → k < w.heap.size → w'.heap[k]? = w.heap[k]?
theorem OnlyAt.refl (g : Nat) (w : World) : OnlyAt g w w := ⟨Below.refl _ _, fun _ _ _ => rfl⟩
theorem OnlyAt.trans {g : Nat} {a b c : World} (h : OnlyAt g a b) (k : OnlyAt g b c) : OnlyAt g a c :=
  ⟨h.1.trans k.1, fun x hx hl => (k.2 x hx (Nat.lt_of_lt_of_le hl h.1.size)).trans (h.2 x hx hl)⟩
theorem OnlyAt.below {g : Nat} {a b : World} (h : Below a.heap.size a b) (hg : g ≤ a.heap.size) : OnlyAt g a b := ⟨h.mono hg, fun x _ hl => h.block x hl⟩
theorem OnlyAt.set (g off : Nat) (w : World) (v : Value) : OnlyAt g w (w.setCell ⟨g, off, none⟩ v) := ⟨(Below.refl g w).setCell (p := ⟨g, off, none⟩) (Nat.le_refl _) _, fun _ hx _ => heap_setCell_other _ _ _ _ hx⟩
theorem FB.only {w w' : World} {g g' : Nat} {k t r s z : Value} (h : FB w g k t r s z) (ho : OnlyAt g' w w') (hne : g ≠ g') : FB w' g k t r s z := (ho.2 g hne h.lt).trans h
theorem XB.only {w w' : World} {g g' : Nat} {a b c : Value} (h : XB w g a b c) (ho : OnlyAt g' w w') (hne : g ≠ g') : XB w' g a b c := (ho.2 g hne (Array.getElem?_eq_some_iff.1 h).1).trans h
/-- The reader's box. -/
def RDR (w : World) (g : Nat) (A : Option Addr) (n c at' : Nat) (bad : Bool) : Prop := w.heap[g]? = some (.cells #[.slice A n c, .int .i64 (at' : Int), .bool bad] 133 (0, 0))
theorem RDR.lt {w : World} {g n c at' : Nat} {A : Option Addr} {bad : Bool} (h : RDR w g A n c at' bad) : g < w.heap.size := (Array.getElem?_eq_some_iff.1 h).1
theorem RDR.cells {w : World} {g n c at' : Nat} {A : Option Addr} {bad : Bool} (h : RDR w g A n c at' bad) : w.cell? ⟨g, 0, none⟩ = some (.slice A n c) ∧ w.cell? ⟨g, 1, none⟩ = some (.int .i64 (at' : Int)) ∧ w.cell? ⟨g, 2, none⟩ = some (.bool bad) := by
  refine ⟨?_, ?_, ?_⟩ <;> (rw [cell_of_row _ _ _ _ _ _ h]; rfl)
theorem RDR.below {w w' : World} {g n c at' : Nat} {A : Option Addr} {bad : Bool} (h : RDR w g A n c at' bad) (hb : Below w.heap.size w w') : RDR w' g A n c at' bad := (hb.block g h.lt).trans h
theorem RDR.set1 {w : World} {g n c at' : Nat} {A : Option Addr} {bad : Bool} (h : RDR w g A n c at' bad) (a2 : Nat) : RDR (w.setCell ⟨g, 1, none⟩ (.int .i64 (a2 : Int))) g A n c a2 bad := heap_setCell_same _ _ _ _ _ _ h
theorem RDR.set2 {w : World} {g n c at' : Nat} {A : Option Addr} {bad : Bool} (h : RDR w g A n c at' bad) (b2 : Bool) : RDR (w.setCell ⟨g, 2, none⟩ (.bool b2)) g A n c at' b2 := heap_setCell_same _ _ _ _ _ _ h
set_option maxHeartbeats 1600000 in
set_option maxRecDepth 100000 in
theorem next_bad (A : Option Addr) (n c g at' : Nat) (lo hi : Int) (w : World) (h : RDR w g A n c at' true) :
    Calls Try.prog 82 #[.pointer (some ⟨g, 0, none⟩), .int .i64 lo, .int .i64 hi] w fun e w' => e = .returned (.int .i64 lo) ∧ w' = w := by
  obtain ⟨c0, c1, c2⟩ := h.cells
  go_enter Try.func82, Try.ntmps82
  go_wp2_with fail
  go_ret
  exact ⟨rfl, rfl⟩
theorem get_past (A : Option Addr) (n c : Nat) (l : List UInt8) (w u : World) (hr : RB w w.heap.size A l) (hn : l.length = n) (hl : n < 1073741824) :
    Calls Try.prog 55 #[.slice A n c] (past w u) fun e w' => e = .returned (gval (gget l)) ∧ Below (past w u).heap.size (past w u) w' := by
  subst hn
  refine (get_any A c l (past w u) ((RD.below hr (below_past w u)).more (below_past w u).size) hl).mono ?_
  rintro e w' ⟨he, rfl⟩
  exact ⟨he, Below.refl _ _⟩
set_option maxHeartbeats 3200000 in
set_option maxRecDepth 100000 in
theorem next_mid (b0 o0 : Nat) (b : List UInt8) (n c g a : Nat) (lo hi : Int) (w : World) (h : RDR w g (some ⟨b0, o0, none⟩) n c a false) (hr : RB w w.heap.size (some ⟨b0, o0, none⟩) b) (hn : b.length = n) (hl : n < 1073741824) (ha : a ≤ n) (hc : n ≤ c) (hca : c ≠ a) :
    Calls Try.prog 82 #[.pointer (some ⟨g, 0, none⟩), .int .i64 lo, .int .i64 hi] w fun e w' => ∃ x a' bd, e = .returned (.int .i64 x) ∧ RDR w' g (some ⟨b0, o0, none⟩) n c a' bd ∧ OnlyAt g w w' ∧ a' ≤ n ∧
      (∀ y q, nxt b a lo hi = some (y, q) → x = y ∧ a' = q ∧ bd = false) ∧ (nxt b a lo hi = none → x = lo ∧ bd = true) := by
  obtain ⟨c0, c1, c2⟩ := h.cells
  have hlt := h.lt
  have hrs : RB w w.heap.size (some ⟨b0, o0 + a, none⟩) (b.drop a) := by
    have := hr.sub a b.length (Nat.le_refl _)
    rwa [List.take_length] at this
  have G := hide (fun u => get_past (some ⟨b0, o0 + a, none⟩) (n - a) (c - a) (b.drop a) w u hrs (by rw [List.length_drop, hn]) (by omega))
  have hR := hide h
  have z1 : (0 : Int) ≤ a := by omega
  have z2 : (a : Int) ≤ n := by omega
  have z3 : (n : Int) ≤ c := by omega
  have z4 : (a : Int) ≤ c := by omega
  clear hr hrs h
  cases hg : gget (b.drop a) with
  | none =>
    rw [hg] at G
    have hx : nxt b a lo hi = none := by unfold nxt; rw [hg]
    have Hx := hide hx
    have Ha := hide ha
    unfold gval at G
    clear hg hx hn
    go_enter Try.func82, Try.ntmps82
    go_wp2_with fail
    refine wp_region_wq (by kernel_rfl) (by kernel_rfl) ?_
    repeat (
      refine WQ.step (fun K hK => ?_)
      go_simp
      first
        | (refine hK _ ?_; clear hK K)
        | (apply Exists.intro
           refine ⟨fun _ => ?_, hK _ ?_⟩
           (go_at_call 55; with_reducible exact past_call (unhide G _))
           clear hK K))
    refine WQ.nil ?_
    intro u
    have hb1 := below_past w u
    have hR1 := hR.out.below hb1
    have ho1 := OnlyAt.below hb1 (Nat.le_of_lt hlt)
    generalize past w u = W at hb1 hR1 ho1 ⊢
    clear c0 c1 c2 hb1
    obtain ⟨c0, c1, c2⟩ := hR1.cells
    have f1 := frozen_of_row W g 1 _ _ hR1
    have f2 := frozen_of_row W g 2 _ _ hR1
    have hR2 := hR1.set1 a
    have ho2 := ho1.trans (OnlyAt.set g 1 W (.int .i64 ((a : Nat) : Int)))
    have hR3 := hR2.set2 true
    have ho3 := ho2.trans (OnlyAt.set g 2 _ (.bool true))
    have HR3 := hide hR3
    have HO3 := hide ho3
    clear hR1 ho1 hR2 ho2 hR3 ho3
    go_wp2_with fail
    refine bodyPost_ret (v := .int .i64 lo) (by simp [results, Try.results82, go_sem]) rfl ?_
    exact ⟨_, a, true, rfl, HR3.out, HO3.out, Ha.out, fun y q e => (by rw [Hx.out] at e; cases e), fun _ => ⟨rfl, rfl⟩⟩
  | some q =>
    obtain ⟨v, s⟩ := q
    obtain ⟨v1, v2, -, -⟩ := gget_inv hg
    rw [List.length_drop, hn] at v2
    rw [hg] at G
    unfold gval at G
    have zw : IntKind.i64.wrap ((a : Int) + (s : Int)) = (a : Int) + (s : Int) := IntWalk.i64_in _ (by omega)
    have hcast : ((a + s : Nat) : Int) = (a : Int) + (s : Int) := by omega
    have Ha := hide (show a + s ≤ n by omega)
    by_cases h1 : (v : Int) < lo
    · have Hx := hide (show nxt b a lo hi = none by unfold nxt; rw [hg]; exact if_pos (.inl h1))
      clear hg hn
      go_enter Try.func82, Try.ntmps82
      go_wp2_with fail
      refine wp_region_wq (by kernel_rfl) (by kernel_rfl) ?_
      repeat (
        refine WQ.step (fun K hK => ?_)
        go_simp
        first
          | (refine hK _ ?_; clear hK K)
          | (apply Exists.intro
             refine ⟨fun _ => ?_, hK _ ?_⟩
             (go_at_call 55; with_reducible exact past_call (unhide G _))
             clear hK K))
      refine WQ.nil ?_
      intro u
      have hb1 := below_past w u
      have hR1 := hR.out.below hb1
      have ho1 := OnlyAt.below hb1 (Nat.le_of_lt hlt)
      generalize past w u = W at hb1 hR1 ho1 ⊢
      clear c0 c1 c2 hb1
      obtain ⟨c0, c1, c2⟩ := hR1.cells
      have f1 := frozen_of_row W g 1 _ _ hR1
      have f2 := frozen_of_row W g 2 _ _ hR1
      have hR2 := hR1.set1 (a + s)
      have ho2 := ho1.trans (OnlyAt.set g 1 W (.int .i64 (((a + s) : Nat) : Int)))
      have hR3 := hR2.set2 true
      have ho3 := ho2.trans (OnlyAt.set g 2 _ (.bool true))
      have HR3 := hide hR3
      have HO3 := hide ho3
      clear hR1 ho1 hR2 ho2 hR3 ho3
      go_wp2_with fail
      refine bodyPost_ret (v := .int .i64 lo) (by simp [results, Try.results82, go_sem]) rfl ?_
      exact ⟨_, (a + s), true, rfl, HR3.out, HO3.out, Ha.out, fun y q e => (by rw [Hx.out] at e; cases e), fun _ => ⟨rfl, rfl⟩⟩
    by_cases h2 : hi < (v : Int)
    · have Hx := hide (show nxt b a lo hi = none by unfold nxt; rw [hg]; exact if_pos (.inr h2))
      clear hg hn
      go_enter Try.func82, Try.ntmps82
      go_wp2_with fail
      refine wp_region_wq (by kernel_rfl) (by kernel_rfl) ?_
      repeat (
        refine WQ.step (fun K hK => ?_)
        go_simp
        first
          | (refine hK _ ?_; clear hK K)
          | (apply Exists.intro
             refine ⟨fun _ => ?_, hK _ ?_⟩
             (go_at_call 55; with_reducible exact past_call (unhide G _))
             clear hK K))
      refine WQ.nil ?_
      intro u
      have hb1 := below_past w u
      have hR1 := hR.out.below hb1
      have ho1 := OnlyAt.below hb1 (Nat.le_of_lt hlt)
      generalize past w u = W at hb1 hR1 ho1 ⊢
      clear c0 c1 c2 hb1
      obtain ⟨c0, c1, c2⟩ := hR1.cells
      have f1 := frozen_of_row W g 1 _ _ hR1
      have f2 := frozen_of_row W g 2 _ _ hR1
      have hR2 := hR1.set1 (a + s)
      have ho2 := ho1.trans (OnlyAt.set g 1 W (.int .i64 (((a + s) : Nat) : Int)))
      have hR3 := hR2.set2 true
      have ho3 := ho2.trans (OnlyAt.set g 2 _ (.bool true))
      have HR3 := hide hR3
      have HO3 := hide ho3
      clear hR1 ho1 hR2 ho2 hR3 ho3
      go_wp2_with fail
      refine bodyPost_ret (v := .int .i64 lo) (by simp [results, Try.results82, go_sem]) rfl ?_
      exact ⟨_, (a + s), true, rfl, HR3.out, HO3.out, Ha.out, fun y q e => (by rw [Hx.out] at e; cases e), fun _ => ⟨rfl, rfl⟩⟩
    have Hx := hide (show nxt b a lo hi = some ((v : Int), a + s) by unfold nxt; rw [hg]; exact if_neg (by omega))
    clear hg hn
    go_enter Try.func82, Try.ntmps82
    go_wp2_with fail
    refine wp_region_wq (by kernel_rfl) (by kernel_rfl) ?_
    repeat (
      refine WQ.step (fun K hK => ?_)
      go_simp
      first
        | (refine hK _ ?_; clear hK K)
        | (apply Exists.intro
           refine ⟨fun _ => ?_, hK _ ?_⟩
           (go_at_call 55; with_reducible exact past_call (unhide G _))
           clear hK K))
    refine WQ.nil ?_
    intro u
    have hb1 := below_past w u
    have hR1 := hR.out.below hb1
    have ho1 := OnlyAt.below hb1 (Nat.le_of_lt hlt)
    generalize past w u = W at hb1 hR1 ho1 ⊢
    clear c0 c1 c2 hb1
    obtain ⟨c0, c1, c2⟩ := hR1.cells
    have f1 := frozen_of_row W g 1 _ _ hR1
    have f2 := frozen_of_row W g 2 _ _ hR1
    have hR2 := hR1.set1 (a + s)
    have ho2 := ho1.trans (OnlyAt.set g 1 W (.int .i64 (((a + s) : Nat) : Int)))
    have hR3 := hR2.set2 false
    have ho3 := ho2.trans (OnlyAt.set g 2 _ (.bool false))
    have HR3 := hide hR3
    have HO3 := hide ho3
    clear hR1 ho1 hR2 ho2 hR3 ho3
    have Hdd := hide (show (decide ((v : Int) < lo) || decide (hi < (v : Int))) = false by simp; omega)
    go_wp2_with fail
    refine bodyPost_ret (v := .int .i64 (v : Int)) (by simp [results, Try.results82, go_sem]) rfl ?_
    exact ⟨_, (a + s), false, rfl, by rw [Hdd.out]; exact HR3.out, by rw [Hdd.out]; exact HO3.out, Ha.out, fun y q e => (by rw [Hx.out] at e; simp only [Option.some.injEq, Prod.mk.injEq] at e; exact ⟨e.1, e.2, rfl⟩), fun e => (by rw [Hx.out] at e; cases e)⟩
set_option maxHeartbeats 3200000 in
set_option maxRecDepth 100000 in
theorem next_end (A : Option Addr) (b : List UInt8) (n g : Nat) (lo hi : Int) (w : World) (h : RDR w g A n n n false) (hn : b.length = n) (hl : n < 1073741824) :
    Calls Try.prog 82 #[.pointer (some ⟨g, 0, none⟩), .int .i64 lo, .int .i64 hi] w fun e w' => ∃ x a' bd, e = .returned (.int .i64 x) ∧ RDR w' g A n n a' bd ∧ OnlyAt g w w' ∧ a' ≤ n ∧
      (∀ y q, nxt b n lo hi = some (y, q) → x = y ∧ a' = q ∧ bd = false) ∧ (nxt b n lo hi = none → x = lo ∧ bd = true) := by
  obtain ⟨c0, c1, c2⟩ := h.cells
  have hlt := h.lt
  have G := hide (fun u => get_past A 0 0 [] w u RD.nil_ rfl (by omega))
  have hR := hide h
  have z1 : (0 : Int) ≤ n := by omega
  have z2 : (n : Int) ≤ n := by omega
  have Hx := hide (show nxt b n lo hi = none by
    unfold nxt
    rw [List.drop_eq_nil_of_le (by omega)]
    rfl)
  have Ha := hide (Nat.le_refl n)
  have hgn : gget [] = none := rfl
  rw [hgn] at G
  unfold gval at G
  clear h hn hgn
  go_enter Try.func82, Try.ntmps82
  go_wp2_with fail
  refine wp_region_wq (by kernel_rfl) (by kernel_rfl) ?_
  repeat (
    refine WQ.step (fun K hK => ?_)
    go_simp
    first
      | (refine hK _ ?_; clear hK K)
      | (apply Exists.intro
         refine ⟨fun _ => ?_, hK _ ?_⟩
         (go_at_call 55; with_reducible exact past_call (unhide G _))
         clear hK K))
  refine WQ.nil ?_
  intro u
  have hb1 := below_past w u
  have hR1 := hR.out.below hb1
  have ho1 := OnlyAt.below hb1 (Nat.le_of_lt hlt)
  generalize past w u = W at hb1 hR1 ho1 ⊢
  clear c0 c1 c2 hb1
  obtain ⟨c0, c1, c2⟩ := hR1.cells
  have f1 := frozen_of_row W g 1 _ _ hR1
  have f2 := frozen_of_row W g 2 _ _ hR1
  have hR2 := hR1.set1 n
  have ho2 := ho1.trans (OnlyAt.set g 1 W (.int .i64 ((n : Nat) : Int)))
  have hR3 := hR2.set2 true
  have ho3 := ho2.trans (OnlyAt.set g 2 _ (.bool true))
  have HR3 := hide hR3
  have HO3 := hide ho3
  clear hR1 ho1 hR2 ho2 hR3 ho3
  go_wp2_with fail
  refine bodyPost_ret (v := .int .i64 lo) (by simp [results, Try.results82, go_sem]) rfl ?_
  exact ⟨_, n, true, rfl, HR3.out, HO3.out, Ha.out, fun y q e => (by rw [Hx.out] at e; cases e), fun _ => ⟨rfl, rfl⟩⟩
set_option maxHeartbeats 3200000 in
set_option maxRecDepth 100000 in
theorem next_void (q : Addr) (c g : Nat) (lo hi : Int) (w : World) (h : RDR w g (some q) 0 c 0 false) (hca : ¬ c = 0) :
    Calls Try.prog 82 #[.pointer (some ⟨g, 0, none⟩), .int .i64 lo, .int .i64 hi] w fun e w' => ∃ x a' bd, e = .returned (.int .i64 x) ∧ RDR w' g (some q) 0 c a' bd ∧ OnlyAt g w w' ∧ a' ≤ 0 ∧
      (∀ y q, nxt [] 0 lo hi = some (y, q) → x = y ∧ a' = q ∧ bd = false) ∧ (nxt [] 0 lo hi = none → x = lo ∧ bd = true) := by
  obtain ⟨blk, off, sp⟩ := q
  obtain ⟨c0, c1, c2⟩ := h.cells
  have hlt := h.lt
  have G := hide (fun u => get_past (some ⟨blk, off, sp⟩) 0 c [] w u RD.nil_ rfl (by omega))
  have hR := hide h
  have z1 : (0 : Int) ≤ c := by omega
  have Hx := hide (show nxt [] 0 lo hi = none from rfl)
  have Ha := hide (Nat.le_refl 0)
  have hgn : gget [] = none := rfl
  rw [hgn] at G
  unfold gval at G
  clear h hgn
  go_enter Try.func82, Try.ntmps82
  go_wp2_with fail
  refine wp_region_wq (by kernel_rfl) (by kernel_rfl) ?_
  repeat (
    refine WQ.step (fun K hK => ?_)
    go_simp
    first
      | (refine hK _ ?_; clear hK K)
      | (apply Exists.intro
         refine ⟨fun _ => ?_, hK _ ?_⟩
         (go_at_call 55; with_reducible exact past_call (unhide G _))
         clear hK K))
  refine WQ.nil ?_
  intro u
  have hb1 := below_past w u
  have hR1 := hR.out.below hb1
  have ho1 := OnlyAt.below hb1 (Nat.le_of_lt hlt)
  generalize past w u = W at hb1 hR1 ho1 ⊢
  clear c0 c1 c2 hb1
  obtain ⟨c0, c1, c2⟩ := hR1.cells
  have f1 := frozen_of_row W g 1 _ _ hR1
  have f2 := frozen_of_row W g 2 _ _ hR1
  have hR2 := hR1.set1 0
  have ho2 := ho1.trans (OnlyAt.set g 1 W (.int .i64 ((0 : Nat) : Int)))
  have hR3 := hR2.set2 true
  have ho3 := ho2.trans (OnlyAt.set g 2 _ (.bool true))
  have HR3 := hide hR3
  have HO3 := hide ho3
  clear hR1 ho1 hR2 ho2 hR3 ho3
  go_wp2_with fail
  refine bodyPost_ret (v := .int .i64 lo) (by simp [results, Try.results82, go_sem]) rfl ?_
  exact ⟨_, 0, true, rfl, HR3.out, HO3.out, Ha.out, fun y q e => (by rw [Hx.out] at e; cases e), fun _ => ⟨rfl, rfl⟩⟩
/-- next, where nothing is wrong yet. -/
theorem next_ok (A : Option Addr) (b : List UInt8) (n c g a : Nat) (lo hi : Int) (w : World) (h : RDR w g A n c a false) (hr : RB w w.heap.size A b) (hn : b.length = n) (hl : n < 1073741824) (ha : a ≤ n) (hc : n ≤ c) (hA : A = none → c = 0) :
    Calls Try.prog 82 #[.pointer (some ⟨g, 0, none⟩), .int .i64 lo, .int .i64 hi] w fun e w' => ∃ x a' bd, e = .returned (.int .i64 x) ∧ RDR w' g A n c a' bd ∧ OnlyAt g w w' ∧ a' ≤ n ∧
      (∀ y q, nxt b a lo hi = some (y, q) → x = y ∧ a' = q ∧ bd = false) ∧ (nxt b a lo hi = none → x = lo ∧ bd = true) := by
  by_cases hca : c = a
  · obtain rfl : n = c := by omega
    subst hca
    exact next_end A b n g lo hi w h hn hl
  · by_cases hb : 0 < b.length
    · obtain ⟨b0, o0, rfl, -⟩ := RB.cell hr hb
      exact next_mid b0 o0 b n c g a lo hi w h hr hn hl ha hc hca
    · cases A with
      | none => have := hA rfl; omega
      | some q =>
        obtain rfl : n = 0 := by omega
        obtain rfl : a = 0 := by omega
        obtain rfl : b = [] := List.eq_nil_of_length_eq_zero hn
        exact next_void q c g lo hi w h hca
end Go.Proofs.Ytmkpfdcnikgokaa
