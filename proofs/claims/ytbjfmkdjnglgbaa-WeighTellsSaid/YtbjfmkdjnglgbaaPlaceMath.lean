/-
  Places on plain lists: runs, their stamps, the order of places. No condition.
-/
namespace Go.Proofs.Ytbjfmkdjnglgbaa

/-- A run: T, R, Many. -/
abbrev Rn := Int × Int × Int
/-- A stamp: T, R. -/
abbrev Id2 := Int × Int
/-- A run's last time. -/
def rend (x : Rn) : Int := x.1 + x.2.2 - 1
/-- May a run be, by itself? -/
def oneR (x : Rn) : Prop := 1 ≤ x.1 ∧ x.1 ≤ 1073741824 ∧ x.2.1 < 8 ∧ 1 ≤ x.2.2 ∧ x.2.2 ≤ 4096 ∧ x.1 + x.2.2 - 1 ≤ 1073741824
instance (x : Rn) : Decidable (oneR x) := by unfold oneR; infer_instance
/-- May a run stand behind another one? -/
def stepR (x y : Rn) : Prop := x.1 + x.2.2 - 1 < y.1 ∧ ¬ (y.2.1 = x.2.1 ∧ y.1 = x.1 + x.2.2 - 1 + 1)
instance (x y : Rn) : Decidable (stepR x y) := by unfold stepR; infer_instance
/-- Runs that may stand behind one another, behind a run that stands ahead. -/
def chainA (x : Rn) : List Rn → Prop
  | [] => True
  | y :: l => oneR y ∧ stepR x y ∧ chainA y l
def chainR : List Rn → Prop
  | [] => True
  | x :: l => oneR x ∧ chainA x l
instance chainA_dec : (x : Rn) → (l : List Rn) → Decidable (chainA x l)
  | _, [] => isTrue trivial
  | x, y :: l => by unfold chainA; have := chainA_dec y l; infer_instance
instance (l : List Rn) : Decidable (chainR l) := by cases l <;> unfold chainR <;> infer_instance
/-- How many stamps. -/
def long (p : List Rn) : Int := p.foldl (fun n x => n + x.2.2) 0
theorem long_snoc (p : List Rn) (x : Rn) : long (p ++ [x]) = long p + x.2.2 := by simp [long]
theorem long_acc (p : List Rn) : ∀ a : Int, p.foldl (fun n x => n + x.2.2) a = a + long p := by
  induction p with
  | nil => intro a; simp [long]
  | cons x p ih =>
    intro a
    have h1 := ih (a + x.2.2)
    have h2 := ih (0 + x.2.2)
    simp only [long, List.foldl_cons] at *
    rw [h1, h2]
    omega
theorem long_cons (x : Rn) (p : List Rn) : long (x :: p) = x.2.2 + long p := by
  have := long_acc p (0 + x.2.2)
  simp only [long, List.foldl_cons] at *
  rw [this]
  omega
theorem long_append (p q : List Rn) : long (p ++ q) = long p + long q := by
  induction p with
  | nil => simp [long]
  | cons x p ih => rw [List.cons_append, long_cons, long_cons, ih]; omega
/-- May a place be? -/
def mayR (p : List Rn) : Prop := 1 ≤ p.length ∧ p.length ≤ 64 ∧ chainR p ∧ long p ≤ 4096
instance (p : List Rn) : Decidable (mayR p) := by unfold mayR; infer_instance
/-- Is it the beginning, or may it be? -/
def anyR (p : List Rn) : Prop := p = [] ∨ mayR p
instance (p : List Rn) : Decidable (anyR p) := by unfold anyR; infer_instance

theorem chainA_snoc (y : Rn) : ∀ (l : List Rn) (x : Rn), chainA x (l ++ [y]) ↔ chainA x l ∧ oneR y ∧ stepR ((x :: l).getLast (by simp)) y := by
  intro l
  induction l with
  | nil => intro x; simp [chainA]
  | cons z l ih =>
    intro x
    simp only [List.cons_append, chainA, ih z]
    rw [List.getLast_cons (by simp : z :: l ≠ [])]
    constructor
    · rintro ⟨a, b, c, d, e⟩; exact ⟨⟨a, b, c⟩, d, e⟩
    · rintro ⟨⟨a, b, c⟩, d, e⟩; exact ⟨a, b, c, d, e⟩
theorem chainR_one (y : Rn) : chainR [y] ↔ oneR y := by simp [chainR, chainA]
theorem chainR_snoc {l : List Rn} (h : l ≠ []) (y : Rn) : chainR (l ++ [y]) ↔ chainR l ∧ oneR y ∧ stepR (l.getLast h) y := by
  match l, h with
  | x :: l, _ =>
    simp only [List.cons_append, chainR, chainA_snoc]
    constructor
    · rintro ⟨a, b, c, d⟩; exact ⟨⟨a, b⟩, c, d⟩
    · rintro ⟨⟨a, b⟩, c, d⟩; exact ⟨a, b, c, d⟩
theorem chainR_tail {x : Rn} {l : List Rn} (h : chainR (x :: l)) : chainR l := by
  cases l with
  | nil => trivial
  | cons y l => exact ⟨h.2.1, h.2.2.2⟩
theorem chainR_mem {l : List Rn} (h : chainR l) : ∀ x ∈ l, oneR x := by
  induction l with
  | nil => intro x hx; cases hx
  | cons y l ih =>
    intro x hx
    rcases List.mem_cons.1 hx with rfl | hx
    · exact h.1
    · exact ih (chainR_tail h) x hx
theorem chainR_append {p q : List Rn} (h : chainR (p ++ q)) : chainR p ∧ chainR q := by
  induction p with
  | nil => exact ⟨trivial, h⟩
  | cons x p ih =>
    obtain ⟨h1, h2⟩ := ih (chainR_tail h)
    refine ⟨?_, h2⟩
    cases p with
    | nil => exact ⟨h.1, trivial⟩
    | cons y p => exact ⟨h.1, h1.1, h.2.2.1, h1.2⟩

/-- A run's stamps. -/
def ofR (x : Rn) : List Id2 := (List.range x.2.2.toNat).map fun (i : Nat) => (x.1 + (i : Int), x.2.1)
theorem ofR_len (x : Rn) : (ofR x).length = x.2.2.toNat := by simp [ofR]
/-- A place's stamps. -/
def allR (p : List Rn) : List Id2 := p.flatMap ofR
theorem allR_cons (x : Rn) (p : List Rn) : allR (x :: p) = ofR x ++ allR p := by simp [allR]
theorem allR_append (p q : List Rn) : allR (p ++ q) = allR p ++ allR q := by simp [allR]
/-- A run cut in two. -/
theorem ofR_cut (x : Rn) (k : Nat) (h : (k : Int) ≤ x.2.2) : ofR x = ofR (x.1, x.2.1, (k : Int)) ++ ofR (x.1 + (k : Int), x.2.1, x.2.2 - (k : Int)) := by
  unfold ofR
  obtain ⟨m, hm⟩ : ∃ m : Nat, x.2.2 = (k : Int) + (m : Int) := ⟨(x.2.2 - k).toNat, by omega⟩
  have e1 : x.2.2.toNat = k + m := by omega
  have e2 : (x.2.2 - (k : Int)).toNat = m := by omega
  have e3 : ((k : Int)).toNat = k := by omega
  simp only [e1, e2, e3, List.range_add, List.map_append, List.map_map]
  congr 1
  apply List.map_congr_left
  intro i _
  simp only [Function.comp]
  rw [show x.1 + ((k + i : Nat) : Int) = x.1 + (k : Int) + (i : Int) by omega]
theorem ofR_cons (x : Rn) (h : 1 ≤ x.2.2) : ofR x = (x.1, x.2.1) :: ofR (x.1 + 1, x.2.1, x.2.2 - 1) := by
  have := ofR_cut x 1 (by omega)
  rw [this]
  simp [ofR]
theorem ofR_zero (t r : Int) : ofR (t, r, 0) = [] := by simp [ofR]
theorem allR_long {p : List Rn} (h : ∀ x ∈ p, 0 ≤ x.2.2) : ((allR p).length : Int) = long p := by
  induction p with
  | nil => rfl
  | cons x p ih =>
    rw [allR_cons, List.length_append, ofR_len, long_cons]
    have h1 := h x List.mem_cons_self
    have h2 := ih (fun y hy => h y (List.mem_cons_of_mem _ hy))
    omega

/-! ### the order of stamps' lists -/
/-- Which of two stamps is less. -/
def ltI (x y : Id2) : Prop := x.1 < y.1 ∨ x.1 = y.1 ∧ x.2 < y.2
instance (x y : Id2) : Decidable (ltI x y) := by unfold ltI; infer_instance
theorem ltI_tri (x y : Id2) : ltI x y ∨ x = y ∨ ltI y x := by
  unfold ltI
  rcases Int.lt_trichotomy x.1 y.1 with h | h | h
  · exact .inl (.inl h)
  · rcases Int.lt_trichotomy x.2 y.2 with g | g | g
    · exact .inl (.inr ⟨h, g⟩)
    · exact .inr (.inl (Prod.ext h g))
    · exact .inr (.inr (.inr ⟨h.symm, g⟩))
  · exact .inr (.inr (.inl h))
theorem ltI_asymm {x y : Id2} (h : ltI x y) : ¬ ltI y x := by unfold ltI at *; omega
theorem ltI_irrefl (x : Id2) : ¬ ltI x x := by unfold ltI; omega
theorem ltI_trans {x y z : Id2} (h : ltI x y) (h2 : ltI y z) : ltI x z := by unfold ltI at *; omega

/-- How two lists of stamps are held against each other. -/
def cmpS : List Id2 → List Id2 → Int
  | [], [] => 0
  | [], _ :: _ => -1
  | _ :: _, [] => 1
  | x :: a, y :: b => if x = y then cmpS a b else if ltI y x then -1 else 1
theorem cmpS_self (a : List Id2) : cmpS a a = 0 := by
  induction a with
  | nil => rfl
  | cons x a ih => simp [cmpS, ih]
theorem cmpS_pre (c a b : List Id2) : cmpS (c ++ a) (c ++ b) = cmpS a b := by
  induction c with
  | nil => rfl
  | cons x c ih => simp [cmpS, ih]
theorem cmpS_nil (y : Id2) (b : List Id2) : cmpS [] (y :: b) = -1 := rfl
theorem cmpS_nil' (x : Id2) (a : List Id2) : cmpS (x :: a) [] = 1 := rfl
theorem cmpS_ne {x y : Id2} (h : x ≠ y) (a b : List Id2) : cmpS (x :: a) (y :: b) = if ltI y x then -1 else 1 := by simp [cmpS, h]
theorem cmpS_range (a b : List Id2) : cmpS a b = -1 ∨ cmpS a b = 0 ∨ cmpS a b = 1 := by
  induction a generalizing b with
  | nil => cases b <;> simp [cmpS]
  | cons x a ih =>
    cases b with
    | nil => simp [cmpS]
    | cons y b =>
      by_cases h : x = y
      · subst h; simp only [cmpS, if_true]; exact ih b
      · rw [cmpS_ne h]; split <;> simp
theorem cmpS_zero {a b : List Id2} (h : cmpS a b = 0) : a = b := by
  induction a generalizing b with
  | nil => cases b with
    | nil => rfl
    | cons y b => simp [cmpS] at h
  | cons x a ih =>
    cases b with
    | nil => simp [cmpS] at h
    | cons y b =>
      by_cases e : x = y
      · subst e; simp only [cmpS, if_true] at h; rw [ih h]
      · rw [cmpS_ne e] at h; split at h <;> omega
theorem cmpS_neg (a b : List Id2) : cmpS b a = - cmpS a b := by
  induction a generalizing b with
  | nil => cases b <;> simp [cmpS]
  | cons x a ih =>
    cases b with
    | nil => simp [cmpS]
    | cons y b =>
      by_cases e : x = y
      · subst e; simp only [cmpS, if_true]; exact ih b
      · rw [cmpS_ne e, cmpS_ne (Ne.symm e)]
        rcases ltI_tri x y with h | h | h
        · rw [if_pos h, if_neg (ltI_asymm h)]
        · exact absurd h e
        · rw [if_neg (ltI_asymm h), if_pos h]; rfl
theorem cmpS_trans {a b c : List Id2} (h1 : cmpS a b < 0) (h2 : cmpS b c < 0) : cmpS a c < 0 := by
  induction a generalizing b c with
  | nil =>
    cases c with
    | nil =>
      cases b with
      | nil => simp [cmpS] at h1
      | cons y b => simp [cmpS] at h2
    | cons z c => simp [cmpS]
  | cons x a ih =>
    cases b with
    | nil => simp [cmpS] at h1
    | cons y b =>
      cases c with
      | nil => simp [cmpS] at h2
      | cons z c =>
        by_cases e1 : x = y
        · subst e1
          simp only [cmpS, if_true] at h1
          by_cases e2 : x = z
          · subst e2
            simp only [cmpS, if_true] at h2 ⊢
            exact ih h1 h2
          · rw [cmpS_ne e2] at h2 ⊢
            exact h2
        · rw [cmpS_ne e1] at h1
          have l1 : ltI y x := by
            by_cases h : ltI y x
            · exact h
            · rw [if_neg h] at h1; omega
          by_cases e2 : y = z
          · subst e2
            rw [cmpS_ne e1, if_pos l1]
            omega
          · rw [cmpS_ne e2] at h2
            have l2 : ltI z y := by
              by_cases h : ltI z y
              · exact h
              · rw [if_neg h] at h2; omega
            have l3 := ltI_trans l2 l1
            have e3 : x ≠ z := fun e => ltI_irrefl z (by rw [e] at l3; exact l3)
            rw [cmpS_ne e3, if_pos l3]
            omega

/-! ### a place is made of its stamps -/
theorem allR_inj : ∀ {p q : List Rn}, chainR p → chainR q → allR p = allR q → p = q := by
  intro p
  induction p with
  | nil =>
    intro q _ hq h
    cases q with
    | nil => rfl
    | cons y q =>
      have := hq.1.2.2.2.1
      rw [allR_cons, ofR_cons y this] at h
      simp [allR] at h
  | cons x p ih =>
    intro q hp hq h
    cases q with
    | nil =>
      have := hp.1.2.2.2.1
      rw [allR_cons, ofR_cons x this] at h
      simp [allR] at h
    | cons y q =>
      have key : ∀ {x y : Rn} {p q : List Rn}, chainR (x :: p) → chainR (y :: q) → allR (x :: p) = allR (y :: q) → x.1 = y.1 ∧ x.2.1 = y.2.1 ∧ y.2.2 ≤ x.2.2 := by
        intro x y p q hp hq h
        have hx := hp.1.2.2.2.1
        have hy := hq.1.2.2.2.1
        have h0 := h
        rw [allR_cons, allR_cons, ofR_cons x hx, ofR_cons y hy] at h0
        simp only [List.cons_append, List.cons.injEq, Prod.mk.injEq] at h0
        obtain ⟨⟨e1, e2⟩, _⟩ := h0
        refine ⟨e1, e2, ?_⟩
        apply Classical.byContradiction
        intro hlt
        have hlt : x.2.2 < y.2.2 := by omega
        have hk : ((x.2.2.toNat : Nat) : Int) = x.2.2 := by omega
        have hc := ofR_cut y x.2.2.toNat (by omega)
        rw [hk] at hc
        rw [allR_cons, allR_cons, hc, List.append_assoc, ← e1, ← e2] at h
        have hxx : ofR (x.1, x.2.1, x.2.2) = ofR x := rfl
        rw [hxx] at h
        have h := List.append_cancel_left h
        rw [ofR_cons (x.1 + x.2.2, x.2.1, y.2.2 - x.2.2) (by simp only; omega)] at h
        cases p with
        | nil => simp [allR] at h
        | cons z p =>
          have hz := hp.2.1.2.2.2.1
          rw [allR_cons, ofR_cons z hz] at h
          simp only [List.cons_append, List.cons.injEq, Prod.mk.injEq] at h
          exact hp.2.2.1.2 ⟨h.1.2, by omega⟩
      obtain ⟨e1, e2, e3⟩ := key hp hq h
      obtain ⟨_, _, e4⟩ := key hq hp h.symm
      have hxy : x = y := Prod.ext e1 (Prod.ext e2 (by omega))
      subst hxy
      rw [allR_cons, allR_cons] at h
      rw [ih (chainR_tail hp) (chainR_tail hq) (List.append_cancel_left h)]

/-- The stamps of a place rise. -/
def rising : List Id2 → Prop
  | [] => True
  | [_] => True
  | x :: y :: l => x.1 < y.1 ∧ rising (y :: l)
end Go.Proofs.Ytbjfmkdjnglgbaa
