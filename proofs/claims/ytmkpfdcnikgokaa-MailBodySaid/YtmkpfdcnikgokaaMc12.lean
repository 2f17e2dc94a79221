/-
  Texts of this claim, put together: Eye. What each theorem asks stands in its statement.
-/
import Derived.Test.YtmkpfdcnikgokaaMc9
import Derived.Test.YtmkpfdcnikgokaaMc11
set_option linter.unusedVariables false
set_option linter.unusedSimpArgs false
namespace Go.Proofs.Ytmkpfdcnikgokaa
open Go.RowKit
/-- The eye's box. -/
def EYE (w : World) (g : Nat) (A : Option Addr) (n c : Nat) (bad : Bool) : Prop := w.heap[g]? = some (.cells #[.slice A n c, .bool bad] 66 (0, 0))
theorem EYE.lt {w : World} {g n c : Nat} {A : Option Addr} {bad : Bool} (h : EYE w g A n c bad) : g < w.heap.size := (Array.getElem?_eq_some_iff.1 h).1
theorem EYE.cells {w : World} {g n c : Nat} {A : Option Addr} {bad : Bool} (h : EYE w g A n c bad) : w.cell? ⟨g, 0, none⟩ = some (.slice A n c) ∧ w.cell? ⟨g, 1, none⟩ = some (.bool bad) := by
  refine ⟨?_, ?_⟩ <;> (rw [cell_of_row _ _ _ _ _ _ h]; rfl)
theorem EYE.below {w w' : World} {g n c : Nat} {A : Option Addr} {bad : Bool} (h : EYE w g A n c bad) (hb : Below w.heap.size w w') : EYE w' g A n c bad := (hb.block g h.lt).trans h
theorem EYE.set0 {w : World} {g n c n' c' : Nat} {A A' : Option Addr} {bad : Bool} (h : EYE w g A n c bad) : EYE (w.setCell ⟨g, 0, none⟩ (.slice A' n' c')) g A' n' c' bad := heap_setCell_same _ _ _ _ _ _ h
theorem EYE.set1 {w : World} {g n c : Nat} {A : Option Addr} {bad : Bool} (h : EYE w g A n c bad) (b2 : Bool) : EYE (w.setCell ⟨g, 1, none⟩ (.bool b2)) g A n c b2 := heap_setCell_same _ _ _ _ _ _ h
/-- What is left to be read, and whether something was wrong. -/
abbrev ES := List UInt8 × Bool
/-- The next number, at most so much. -/
def eyeN (most : Int) (st : ES) : Int × ES :=
  if st.2 = true then (0, st) else match gget st.1 with
    | some (m, s) => if most < (m : Int) then (0, (st.1, true)) else ((m : Int), (st.1.drop s, false))
    | none => (0, (st.1, true))
/-- Bytes that are read, in a block of bytes ahead of a box. -/
def RBT (w : World) (g : Nat) (A : Option Addr) (l : List UInt8) : Prop := RB w g A l ∧ ∀ q, A = some q → q.block < g ∧ ∃ cs, w.heap[q.block]? = some (.cells cs 5 (0, 0))
theorem RBT.below {w w' : World} {g : Nat} {A : Option Addr} {l : List UInt8} (h : RBT w g A l) (hb : Below g w w') : RBT w' g A l :=
  ⟨RD.below h.1 hb, fun q hq => ⟨(h.2 q hq).1, by obtain ⟨h1, cs, h2⟩ := h.2 q hq; exact ⟨cs, (hb.block _ h1).trans h2⟩⟩⟩
theorem RBT.setO {w : World} {g gx : Nat} {A : Option Addr} {l : List UInt8} {T : TypeId} {cs : Array Value} (h : RBT w g A l) (hF : w.heap[gx]? = some (.cells cs T (0, 0))) (hT : 5 ≠ T) (off : Nat) (u : Value) : RBT (w.setCell ⟨gx, off, none⟩ u) g A l := by
  have hne : ∀ q, A = some q → q.block ≠ gx := by
    intro q hq e
    obtain ⟨-, c2, h2⟩ := h.2 q hq
    rw [e, hF] at h2
    simp only [Option.some.injEq, Obj.cells.injEq] at h2
    exact hT h2.2.1.symm
  refine ⟨⟨h.1.1, fun hl => ?_⟩, fun q hq => ⟨(h.2 q hq).1, by obtain ⟨-, c2, h2⟩ := h.2 q hq; exact ⟨c2, (heap_setCell_other _ _ _ _ (hne q hq)).trans h2⟩⟩⟩
  obtain ⟨b, o, e, hb, hc⟩ := h.1.2 hl
  refine ⟨b, o, e, hb, fun j x hx => ?_⟩
  have := hc j x hx
  unfold World.cell? at this ⊢
  rw [heap_setCell_other _ _ _ _ (by simpa using hne _ e)]
  exact this
theorem RBT.of_own {w : World} {base g c : Nat} {A : Option Addr} {l : List UInt8} (h : w.ownsRow base 5 1 (.slice A l.length c) l.length (u8s l)) (hg : w.heap.size ≤ g) : RBT w g A l := by
  refine ⟨(RD.of_own h).more hg, fun q hq => ?_⟩
  subst hq
  rcases h.2 with ⟨h1, -⟩ | ⟨k, cap, cur, h1, h2, h3, h4⟩
  · cases h1
  · simp only [Value.slice.injEq, Option.some.injEq] at h1
    obtain ⟨rfl, -⟩ := h1
    exact ⟨Nat.lt_of_lt_of_le (Array.getElem?_eq_some_iff.1 h3).1 hg, cur, h3⟩
/-- The eye, as it lies, its bytes being ahead of its box. -/
def EY (w : World) (g : Nat) (st : ES) : Prop := ∃ A c, EYE w g A st.1.length c st.2 ∧ RBT w g A st.1 ∧ st.1.length ≤ c ∧ st.1.length < 1073741824 ∧ (A = none → c = 0)
theorem EY.below {w w' : World} {g : Nat} {st : ES} (h : EY w g st) (hb : Below w.heap.size w w') : EY w' g st := by
  obtain ⟨A, c, h1, h2, h3⟩ := h
  exact ⟨A, c, h1.below hb, RBT.below h2 (hb.mono (Nat.le_of_lt h1.lt)), h3⟩
theorem EY.other {w : World} {g : Nat} {st : ES} (h : EY w g st) {g' : Nat} (hg : g < g') (off : Nat) (v : Value) : EY (w.setCell ⟨g', off, none⟩ v) g st := by
  obtain ⟨A, c, h1, h2, h3⟩ := h
  refine ⟨A, c, (heap_setCell_other _ _ _ _ (by simp only; omega)).trans h1, RBT.below h2 ((Below.refl g w).setCell (by simp only; omega) _), h3⟩
theorem EY.setO {w : World} {g gx : Nat} {st : ES} {T : TypeId} {cs : Array Value} (h : EY w g st) (hF : w.heap[gx]? = some (.cells cs T (0, 0))) (hT : 5 ≠ T) (hne : g ≠ gx) (off : Nat) (u : Value) : EY (w.setCell ⟨gx, off, none⟩ u) g st := by
  obtain ⟨A, c, h1, h2, h3⟩ := h
  exact ⟨A, c, (heap_setCell_other _ _ _ _ hne).trans h1, h2.setO hF hT off u, h3⟩
theorem EY.lt {w : World} {g : Nat} {st : ES} (h : EY w g st) : g < w.heap.size := by
  obtain ⟨A, c, h1, -⟩ := h
  exact h1.lt
theorem eyeN_max (most : Int) (st : ES) (h : 0 ≤ most) : 0 ≤ (eyeN most st).1 ∧ (eyeN most st).1 ≤ most := by
  unfold eyeN
  split
  · simp only; omega
  · split
    · split
      · simp only; omega
      · simp only; omega
    · simp only; omega
set_option maxHeartbeats 3200000 in
set_option maxRecDepth 100000 in
theorem eyenext (g : Nat) (most : Int) (st : ES) (w : World) (h : EY w g st) :
    Calls Try.prog 34 #[.pointer (some ⟨g, 0, none⟩), .int .i64 most] w fun e w' => e = .returned (.int .i64 (eyeN most st).1) ∧ EY w' g (eyeN most st).2 ∧ OnlyAt g w w' := by
  obtain ⟨A, c, hE, hr, hc, hl, hA⟩ := h
  obtain ⟨l, bad⟩ := st
  simp only at hE hr hc hl
  have hlt := hE.lt
  obtain ⟨c0, c1⟩ := hE.cells
  have f1 := frozen_of_row w g 1 _ _ hE
  have G := hide (fun W (hW : W = w) => by
    have := get_any A c l W (by rw [hW]; exact RD.more hr.1 (Nat.le_of_lt hlt)) hl
    exact this)
  have E1 := fun b2 => hE.set1 b2
  have e1 := fun b2 => (hE.set1 b2).cells
  cases hg : gget l with
  | none =>
    rw [hg] at G
    have HV := hide (show eyeN most (l, bad) = (0, (l, true)) by
      unfold eyeN
      cases bad with
      | true => rfl
      | false => simp [hg])
    obtain ⟨k0, k1⟩ := e1 true
    have HF := hide (show EY (w.setCell ⟨g, 1, none⟩ (.bool true)) g (l, true) from ⟨A, c, E1 true, RBT.below hr ((Below.refl g w).setCell (Nat.le_refl _) _), hc, hl, hA⟩)
    have HO := hide (OnlyAt.set g 1 w (.bool true))
    unfold gval at G
    clear hg hE hr hA e1 E1
    go_enter Try.func34, Try.ntmps34
    go_wp2_with fail
    refine (unhide G w rfl).mono ?_
    rintro e w2 ⟨rfl, rfl⟩
    cases bad
    all_goals
      go_wp2_with fail
      go_ret
      exact ⟨by rw [HV.out]; rfl, by rw [HV.out]; exact HF.out, HO.out⟩
  | some q =>
    obtain ⟨m, s⟩ := q
    obtain ⟨-, v2, -, -⟩ := gget_inv hg
    have hs1 : 1 ≤ s := by
      obtain ⟨-, -, v3, v4⟩ := gget_inv hg
      have := nb_pos m
      omega
    rw [hg] at G
    unfold gval at G
    cases bad with
    | true =>
      have HV := hide (show eyeN most (l, true) = (0, (l, true)) from rfl)
      obtain ⟨k0, k1⟩ := e1 true
      have HF := hide (show EY (w.setCell ⟨g, 1, none⟩ (.bool true)) g (l, true) from ⟨A, c, E1 true, RBT.below hr ((Below.refl g w).setCell (Nat.le_refl _) _), hc, hl, hA⟩)
      have HO := hide (OnlyAt.set g 1 w (.bool true))
      clear hg hE hr hA e1 E1
      go_enter Try.func34, Try.ntmps34
      go_wp2_with fail
      refine (unhide G w rfl).mono ?_
      rintro e w2 ⟨rfl, rfl⟩
      go_wp2_with fail
      go_ret
      exact ⟨by rw [HV.out]; rfl, by rw [HV.out]; exact HF.out, HO.out⟩
    | false =>
      by_cases hm : most < (m : Int)
      · have HV := hide (show eyeN most (l, false) = (0, (l, true)) by unfold eyeN; simp [hg, hm])
        obtain ⟨k0, k1⟩ := e1 true
        have HF := hide (show EY (w.setCell ⟨g, 1, none⟩ (.bool true)) g (l, true) from ⟨A, c, E1 true, RBT.below hr ((Below.refl g w).setCell (Nat.le_refl _) _), hc, hl, hA⟩)
        have HO := hide (OnlyAt.set g 1 w (.bool true))
        clear hg hE hr hA e1 E1
        go_enter Try.func34, Try.ntmps34
        go_wp2_with fail
        refine (unhide G w rfl).mono ?_
        rintro e w2 ⟨rfl, rfl⟩
        go_wp2_with fail
        go_ret
        exact ⟨by rw [HV.out]; rfl, by rw [HV.out]; exact HF.out, HO.out⟩
      · have HV := hide (show eyeN most (l, false) = ((m : Int), (l.drop s, false)) by unfold eyeN; simp [hg, hm])
        obtain ⟨k0, k1⟩ := e1 false
        obtain ⟨b0, o0, rfl, hB0, -⟩ := RB.cell hr.1 (by omega)
        obtain ⟨SA, SC, hSA⟩ : ∃ (SA : Option Addr) (SC : Nat), (c = s ∧ SA = some ⟨b0, o0, none⟩ ∧ SC = 0 ∨ ¬ c = s ∧ SA = some ⟨b0, o0 + s, none⟩ ∧ SC = c - s) := by
          by_cases h : c = s
          · exact ⟨_, _, .inl ⟨h, rfl, rfl⟩⟩
          · exact ⟨_, _, .inr ⟨h, rfl, rfl⟩⟩
        have hrs0 : RB w g SA (l.drop s) := by
          rcases hSA with ⟨h1, -, -⟩ | ⟨-, rfl, -⟩
          · rw [List.drop_eq_nil_of_le (by omega)]
            exact RD.nil_
          · have := hr.1.sub s l.length (Nat.le_refl _)
            rwa [List.take_length] at this
        have hrs : RBT w g SA (l.drop s) := ⟨hrs0, fun q hq => by rcases hSA with ⟨-, h2, -⟩ | ⟨-, h2, -⟩ <;> (rw [h2] at hq; cases hq; have h9 := hr.2 _ rfl; exact h9)⟩
        have E2 : EYE ((w.setCell ⟨g, 1, none⟩ (.bool false)).setCell ⟨g, 0, none⟩ (.slice SA (l.length - s) SC)) g SA (l.length - s) SC false := (E1 false).set0
        have f2 := frozen_of_row _ g 0 _ _ (E1 false)
        have HF := hide (show EY ((w.setCell ⟨g, 1, none⟩ (.bool false)).setCell ⟨g, 0, none⟩ (.slice SA (l.length - s) SC)) g (l.drop s, false) from ⟨SA, SC, by rw [List.length_drop]; exact E2, RBT.below hrs (((Below.refl g w).setCell (Nat.le_refl _) _).setCell (Nat.le_refl _) _), by
          rw [List.length_drop]
          rcases hSA with ⟨h1, -, h2⟩ | ⟨h1, -, h2⟩ <;> omega, by rw [List.length_drop]; omega, fun h => by rcases hSA with ⟨-, h2, -⟩ | ⟨-, h2, -⟩ <;> (rw [h2] at h; cases h)⟩)
        have HO := hide ((OnlyAt.set g 1 w (.bool false)).trans (OnlyAt.set g 0 _ (.slice SA (l.length - s) SC)))
        have zs0 : (0 : Int) ≤ s := by omega
        have zs1 : (s : Int) ≤ l.length := by omega
        have zs2 : (s : Int) ≤ c := by omega
        have zs3 : (l.length : Int) ≤ c := by omega
        have Hll := hide hl
        have hmd : decide (most < (m : Int)) = false := decide_eq_false hm
        clear hg hE hr hA e1 E1 E2 hrs hrs0
        go_enter Try.func34, Try.ntmps34
        go_wp2_with fail
        refine (unhide G w rfl).mono ?_
        rintro e w2 ⟨rfl, rfl⟩
        rcases hSA with ⟨hca, rfl, rfl⟩ | ⟨hca, rfl, rfl⟩
        all_goals
          go_wp2_with fail
          go_ret
          exact ⟨by rw [HV.out]; rfl, by rw [HV.out]; exact HF.out, HO.out⟩
theorem EY.cell1 {w : World} {g : Nat} {st : ES} (h : EY w g st) : w.cell? ⟨g, 1, none⟩ = some (.bool st.2) := by
  obtain ⟨A, c, h1, -⟩ := h
  exact h1.cells.2
theorem EY.fr1 {w : World} {g : Nat} {st : ES} (h : EY w g st) : w.frozen? ⟨g, 1, none⟩ = false := by
  obtain ⟨A, c, h1, -⟩ := h
  exact frozen_of_row w g 1 _ _ h1
theorem EY.setBad {w : World} {g : Nat} {st : ES} (h : EY w g st) (b : Bool) : EY (w.setCell ⟨g, 1, none⟩ (.bool b)) g (st.1, b) := by
  obtain ⟨A, c, h1, h2, h3⟩ := h
  exact ⟨A, c, h1.set1 b, RBT.below h2 ((Below.refl g w).setCell (Nat.le_refl _) _), h3⟩
theorem OnlyAt.more {g : Nat} {a b c : World} (h : OnlyAt g a b) (hb : Below a.heap.size b c) (hg : g ≤ a.heap.size) : OnlyAt g a c :=
  ⟨h.1.trans (hb.mono hg), fun x hx hl => (hb.block x hl).trans (h.2 x hx hl)⟩
theorem OnlyAt.setNew {g : Nat} {a b : World} (h : OnlyAt g a b) {k : Nat} (hk : a.heap.size ≤ k) (hg : g ≤ a.heap.size) (off : Nat) (v : Value) : OnlyAt g a (b.setCell ⟨k, off, none⟩ v) :=
  h.more ((Below.refl _ _).setCell hk _) hg
theorem own_at {w w' : World} {base g size n : Nat} {e : TypeId} {v : Value} {L : List Value} (h : w.ownsRow base e size v n L) (hg : g < base) (ho : OnlyAt g w w') : w'.ownsRow base e size v n L := by
  refine ⟨h.1, ?_⟩
  rcases h.2 with h0 | ⟨q, cap, cur, h1, h2, h3, h4⟩
  · exact .inl h0
  · exact .inr ⟨q, cap, cur, h1, h2, (ho.2 q (by omega) (Array.getElem?_eq_some_iff.1 h3).1).trans h3, h4⟩
theorem PB.only {w w' : World} {g g' : Nat} {a b : Value} {T : TypeId} (h : PB w g a b T) (ho : OnlyAt g' w w') (hne : g ≠ g') : PB w' g a b T := (ho.2 g hne (Array.getElem?_eq_some_iff.1 h).1).trans h
theorem PB.fr {w : World} {g : Nat} {a b : Value} {T : TypeId} (h : PB w g a b T) (off : Nat) : w.frozen? ⟨g, off, none⟩ = false := frozen_of_row w g off _ _ h
theorem PB.set1 {w : World} {g : Nat} {a b : Value} {T : TypeId} (h : PB w g a b T) (v : Value) : PB (w.setCell ⟨g, 1, none⟩ v) g a v T := heap_setCell_same _ _ _ _ _ _ h
theorem PB.set0 {w : World} {g : Nat} {a b : Value} {T : TypeId} (h : PB w g a b T) (v : Value) : PB (w.setCell ⟨g, 0, none⟩ v) g v b T := heap_setCell_same _ _ _ _ _ _ h
/-- next, its answer being named. -/
theorem eye_at (g : Nat) (most : Int) (st : ES) (w : World) (h : EY w g st) (x : Int) (s2 : ES) (hx : eyeN most st = (x, s2)) (h0 : 0 ≤ most) :
    Calls Try.prog 34 #[.pointer (some ⟨g, 0, none⟩), .int .i64 most] w fun e w' => e = .returned (.int .i64 x) ∧ EY w' g s2 ∧ OnlyAt g w w' ∧ 0 ≤ x ∧ x ≤ most := by
  have h1 := eyeN_max most st h0
  rw [hx] at h1
  refine (eyenext g most st w h).mono ?_
  rintro e w' ⟨he, h2, h3⟩
  rw [hx] at he h2
  exact ⟨he, h2, h3, h1⟩
/-- The next stamp. -/
def eyeS (st : ES) : (Int × Int) × ES := (((eyeN 1073741824 st).1, (eyeN 7 (eyeN 1073741824 st).2).1), (eyeN 7 (eyeN 1073741824 st).2).2)
set_option maxHeartbeats 1600000 in
set_option maxRecDepth 100000 in
theorem eyestamp (g : Nat) (st : ES) (w : World) (h : EY w g st) (t r : Int) (s2 : ES) (hx : eyeS st = ((t, r), s2)) :
    Calls Try.prog 38 #[.pointer (some ⟨g, 0, none⟩)] w fun e w' => e = .returned (.agg #[.int .u32 t, .int .u8 r]) ∧ EY w' g s2 ∧ OnlyAt g w w' ∧ 0 ≤ t ∧ t ≤ 1073741824 ∧ 0 ≤ r ∧ r ≤ 7 := by
  unfold eyeS at hx
  obtain ⟨x, s1, h1⟩ : ∃ x s, eyeN 1073741824 st = (x, s) := ⟨_, _, rfl⟩
  rw [h1] at hx
  simp only at hx
  obtain ⟨y, s3, h2⟩ : ∃ x s, eyeN 7 s1 = (x, s) := ⟨_, _, rfl⟩
  rw [h2] at hx
  simp only [Prod.mk.injEq] at hx
  obtain ⟨⟨rfl, rfl⟩, rfl⟩ := hx
  obtain ⟨w1, hw1, F1, hs1, hb1⟩ := two_pb w (.int .u32 0) (.int .u8 0) 36
  have hlt := h.lt
  have H1 := hide h1
  have H2 := hide h2
  have HE1 := hide (h.below hb1)
  have HO1 := hide (OnlyAt.below hb1 (Nat.le_of_lt hlt))
  have HF1 := hide F1
  have Hne := hide (show w.heap.size ≠ g by omega)
  obtain ⟨gx, hgx⟩ : ∃ q, q = w.heap.size := ⟨_, rfl⟩
  have Hgx := hide hgx
  have Hg := hide (show g < gx by omega)
  have Hlt := hide (Nat.le_of_lt hlt)
  rw [← hgx] at HF1 Hne
  clear h1 h2 F1 hb1 hs1 h hlt
  go_enter Try.func38, Try.ntmps38
  go_wp2_with fail
  rw [← hgx]
  clear hgx hw1
  refine (eye_at g 1073741824 st w1 HE1.out x s1 H1.out (by decide)).mono ?_
  rintro e w2 ⟨rfl, hE2, ho2, x0, x1⟩
  have HE2 := hide hE2
  have HO2 := hide (HO1.out.trans ho2)
  have HF2 := hide (HF1.out.only ho2 Hne.out)
  have hxu : IntKind.u32.wrap x = x := IntWalk.u32_in _ (by omega)
  clear hE2 ho2
  go_wp2_with fail
  refine (eye_at g 7 s1 w2 HE2.out y s3 H2.out (by decide)).mono ?_
  rintro e w3 ⟨rfl, hE3, ho3, y0, y1⟩
  have hyu : IntKind.u8.wrap y = y := by simp [IntKind.wrap, IntKind.bits, IntKind.signed]; omega
  have HF3 := hide (HF2.out.only ho3 Hne.out)
  have HO3 := hide (HO2.out.trans ho3)
  have HE3 := hide hE3
  obtain ⟨c0, c1⟩ := HF3.out.cells
  have f0 := HF3.out.fr 0
  have f1 := HF3.out.fr 1
  clear hE3 ho3
  go_wp2_with fail
  have F5 : PB ((w3.setCell ⟨gx, 0, none⟩ (.int .u32 x)).setCell ⟨gx, 1, none⟩ (.int .u8 y)) gx (.int .u32 x) (.int .u8 y) 36 := (HF3.out.set0 _).set1 _
  have E5 : EY ((w3.setCell ⟨gx, 0, none⟩ (.int .u32 x)).setCell ⟨gx, 1, none⟩ (.int .u8 y)) g s3 := (HE3.out.other Hg.out 0 _).other Hg.out 1 _
  have O5 : OnlyAt g w ((w3.setCell ⟨gx, 0, none⟩ (.int .u32 x)).setCell ⟨gx, 1, none⟩ (.int .u8 y)) := (HO3.out.setNew (Nat.le_of_eq Hgx.out.symm) Hlt.out 0 _).setNew (Nat.le_of_eq Hgx.out.symm) Hlt.out 1 _
  generalize (w3.setCell ⟨gx, 0, none⟩ (.int .u32 x)).setCell ⟨gx, 1, none⟩ (.int .u8 y) = WW at F5 E5 O5 ⊢
  obtain ⟨v0, v1⟩ := F5.cells
  exact bodyPost_ret (v := .agg #[.int .u32 x, .int .u8 y]) (by simp [results, Try.results38, go_sem, v0, v1]) rfl ⟨rfl, E5, O5, x0, x1, y0, y1⟩
end Go.Proofs.Ytmkpfdcnikgokaa
