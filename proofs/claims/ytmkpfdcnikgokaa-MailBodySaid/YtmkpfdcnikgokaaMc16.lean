/-
  Texts of this claim, put together: Claims. What each theorem asks stands in its statement.
-/
import Derived.Test.YtmkpfdcnikgokaaMc1
set_option linter.unusedVariables false
set_option linter.unusedSimpArgs false
namespace Go.Proofs.Ytmkpfdcnikgokaa
open Go.RowKit
/-- What a claim says of a value, in a world. -/
abbrev Clm := Value → World → Prop
/-- An operand's value, by the slots' values. -/
def evalOf (ρ : Nat → Value) : Operand → Value
  | .tmp t => ρ t
  | .const v => v
  | .global g => .pointer (some ⟨g, 0, none⟩)
  | .func f => .func (.func f) #[] #[]
@[go_sem] theorem evalOf_tmp (ρ : Nat → Value) (t : Nat) : evalOf ρ (.tmp t) = ρ t := rfl
@[go_sem] theorem evalOf_const (ρ : Nat → Value) (v : Value) : evalOf ρ (.const v) = v := rfl
@[go_sem] theorem evalOf_global (ρ : Nat → Value) (g : Nat) : evalOf ρ (.global g) = .pointer (some ⟨g, 0, none⟩) := rfl
@[go_sem] theorem evalOf_func (ρ : Nat → Value) (f : FuncId) : evalOf ρ (.func f) = .func (.func f) #[] #[] := rfl
def slotsOf (a : Act) : Nat → Value := fun s => a.tmps.getD s undef
theorem eval_slots (a : Act) : a.eval = evalOf (slotsOf a) := funext fun x => by cases x <;> rfl
def boolOf (v : Value) : Option Bool := match v with | .bool b => some b | _ => none
/-- Is an operation wanted? -/
def askOf (ops : Array Oper) (o : Oper) (ρ : Nat → Value) : Bool :=
  match o.guard with
  | none => true
  | some (j, b) => match (ops[j]?).bind (·.dst) with
    | some d => boolOf (ρ d) == some b
    | none => false
theorem wanted_ask (ops : Array Oper) (o : Oper) (a : Act) : Region.wanted o (yielded ops a.tmps) = askOf ops o (slotsOf a) := by
  unfold Region.wanted askOf
  cases o.guard with
  | none => rfl
  | some g =>
    obtain ⟨j, b⟩ := g
    simp only [yielded]
    cases (ops[j]?).bind (·.dst) with
    | none => rfl
    | some d =>
      simp only [Option.bind_some, slotsOf]
      rw [Array.getD_eq_getD_getElem?]
      cases hd : a.tmps[d]? with
      | none => rfl
      | some v =>
        simp only [Option.getD_some]
        cases v <;> rfl
/-- One operation, carried out by the slots' values. -/
def opOK (P : Program) (o : Oper) (ρ : Nat → Value) (w : World) (R : Clm) : Prop :=
  match (execOp (evalOf ρ) o).run P w with
  | .ok (.value v) w' => R v w'
  | .ok .skip w' => R undef w'
  | .ok (.enter f args) w' => Calls P f args w' fun e w'' => ∃ v, e = .returned v ∧ R v w''
  | _ => False
theorem wp_of_opOK {P : Program} {o : Oper} {a : Act} {w : World} {R : Clm} {K : Act → World → Prop} {Q : Exit → Act → World → Prop} (h : opOK P o (slotsOf a) w R) (hk : ∀ v w', R v w' → K (a.put o.dst v) w') : o.wp P a w K Q := by
  unfold opOK at h
  unfold Oper.wp
  rw [eval_slots]
  generalize (execOp (evalOf (slotsOf a)) o).run P w = r at *
  cases r with
  | ok n w' =>
    cases n <;> simp only [Oper.upon] at h ⊢
    case value v => exact hk _ _ h
    case skip => exact hk _ _ h
    case enter f args => exact h.mono fun e w'' ⟨v, he, hr⟩ => by subst he; exact hk _ _ hr
  | halt x w' => exact h.elim
def writes (ops : Array Oper) (s : Nat) : Bool := ops.any fun o => o.dst == some s
def depends (o : Oper) (j : Nat) : Bool := o.after.any fun e => Region.binds .any e && e.on == j
def claimAt (ops : Array Oper) (Vs : List Clm) (ρ : Nat → Value) (w : World) (j : Nat) : Prop :=
  match ops[j]?, Vs[j]? with
  | some o, some V => match o.dst with
    | some d => V (ρ d) w
    | none => True
  | _, _ => True
def claimOf (Vs : List Clm) (i : Nat) (v : Value) (w : World) : Prop := match Vs[i]? with | some V => V v w | none => True
/-- Each operation stands on earlier ones alone; no slot is written twice; all slots are there. -/
def claimsB (ops : Array Oper) (n : Nat) : Bool :=
  ((List.range ops.size).all fun i => match ops[i]? with | some o => (o.after.all fun e => !Region.binds .any e || decide (e.on < i)) && (match o.dst with | some d => decide (d < n) | none => true) | none => true) &&
  ((List.range ops.size).all fun i => (List.range ops.size).all fun j => decide (i = j) || match ops[i]?, ops[j]? with | some o, some o' => o.dst == none || o.dst != o'.dst | _, _ => true)
theorem any_mem {α : Type} {l : Array α} {f : α → Bool} (h : l.any f = true) : ∃ x, x ∈ l ∧ f x = true := by
  rw [← Array.any_toList] at h
  obtain ⟨x, hx, hf⟩ := List.any_eq_true.1 h
  exact ⟨x, Array.mem_toList_iff.1 hx, hf⟩
theorem mem_any {α : Type} {l : Array α} {f : α → Bool} {x : α} (hx : x ∈ l) (h : f x = true) : l.any f = true := by
  rw [← Array.any_toList]
  exact List.any_eq_true.2 ⟨x, Array.mem_toList_iff.2 hx, h⟩
/-- What is to be shown of one operation. -/
def oblig (P : Program) (ops : Array Oper) (Vs : List Clm) (a0 : Act) (w0 : World) (i : Nat) (o : Oper) : Prop :=
  ∀ (ρ : Nat → Value) (w : World), Below w0.heap.size w0 w → (∀ s, writes ops s = false → ρ s = slotsOf a0 s) → (∀ j, depends o j = true → claimAt ops Vs ρ w j) →
    (askOf ops o ρ = true ∧ opOK P o ρ w fun v w' => Below w.heap.size w w' ∧ claimOf Vs i v w') ∨ (askOf ops o ρ = false ∧ claimOf Vs i undef w)
def obligs (P : Program) (ops : Array Oper) (Vs : List Clm) (a0 : Act) (w0 : World) : Nat → List Oper → Prop
  | _, [] => True
  | k, o :: l => oblig P ops Vs a0 w0 k o ∧ obligs P ops Vs a0 w0 (k + 1) l
theorem obligs_at {P : Program} {ops : Array Oper} {Vs : List Clm} {a0 : Act} {w0 : World} : ∀ (l : List Oper) (k : Nat), obligs P ops Vs a0 w0 k l → ∀ i o, l[i]? = some o → oblig P ops Vs a0 w0 (k + i) o
  | [], _, _, i, o, h => by simp at h
  | x :: l, k, h, i, o, ho => by
    cases i with
    | zero => simp at ho; subst ho; exact h.1
    | succ i => have := obligs_at l (k + 1) h.2 i o (by simpa using ho); rwa [show k + 1 + i = k + (i + 1) by omega] at this
/-- How many are not listed yet. -/
def cntU (listed : Array Bool) : Nat → Nat
  | 0 => 0
  | n + 1 => cntU listed n + (if listed.getD n true = true then 0 else 1)
theorem cntU_set (listed : Array Bool) (i : Nat) (hi : listed.getD i true = false) : ∀ n, cntU (listed.setIfInBounds i true) n + (if i < n then 1 else 0) = cntU listed n := by
  intro n
  induction n with
  | zero => simp [cntU]
  | succ n ih =>
    simp only [cntU]
    by_cases h : i = n
    · subst h
      have h1 : (listed.setIfInBounds i true).getD i true = true := by
        rcases Nat.lt_or_ge i listed.size with h' | h'
        · simp [h']
        · simp [Array.getElem?_eq_none h'] at hi
      rw [h1, hi]
      simp at ih ⊢
      omega
    · rw [getD_set_ne true h]
      have : (if i < n + 1 then 1 else 0) = (if i < n then 1 else 0) := by
        by_cases h2 : i < n
        · rw [if_pos h2, if_pos (by omega)]
        · rw [if_neg h2, if_neg (by omega)]
      omega
theorem cntU_zero {listed : Array Bool} : ∀ n, cntU listed n = 0 → ∀ j, j < n → listed.getD j true = true := by
  intro n
  induction n with
  | zero => intro _ j hj; omega
  | succ n ih =>
    intro h j hj
    simp only [cntU] at h
    by_cases hh : listed.getD n true = true
    · rw [if_pos hh] at h
      rcases Nat.lt_or_ge j n with h' | h'
      · exact ih (by omega) j h'
      · have : j = n := by omega
        subst this; exact hh
    · rw [if_neg hh] at h; omega
/-- What stands in the middle of such a region. -/
def midC (ops : Array Oper) (Vs : List Clm) (a0 : Act) (w0 : World) (listed : Array Bool) (a : Act) (w : World) : Prop :=
  listed.size = ops.size ∧ Below w0.heap.size w0 w ∧ a.defers = a0.defers ∧ a.tmps.size = a0.tmps.size ∧ (∀ s, writes ops s = false → slotsOf a s = slotsOf a0 s) ∧ ∀ j, listed.getD j false = true → claimAt ops Vs (slotsOf a) w j
theorem claims_any {P : Program} {ops : Array Oper} {Vs : List Clm} {a0 : Act} {w0 : World} {Q : Exit → Act → World → Prop} (hB : claimsB ops a0.tmps.size = true)
    (hmono : ∀ V ∈ Vs, ∀ v w w', V v w → Below w.heap.size w w' → V v w') (hop : ∀ i o, ops[i]? = some o → oblig P ops Vs a0 w0 i o)
    (hend : ∀ a w, Below w0.heap.size w0 w → a.defers = a0.defers → a.tmps.size = a0.tmps.size → (∀ s, writes ops s = false → slotsOf a s = slotsOf a0 s) → (∀ j, j < ops.size → claimAt ops Vs (slotsOf a) w j) → Q .normal a w) :
    ∀ (fuel : Nat) (listed : Array Bool) (a : Act) (w : World), cntU listed ops.size = fuel → midC ops Vs a0 w0 listed a w → wpAny P .any ops Q fuel listed a w := by
  unfold claimsB at hB
  rw [Bool.and_eq_true] at hB
  obtain ⟨hB1, hB2⟩ := hB
  have hedge : ∀ i o, ops[i]? = some o → (∀ e ∈ o.after, Region.binds .any e = true → e.on < i) ∧ ∀ d, o.dst = some d → d < a0.tmps.size := by
    intro i o ho
    have hlt : i < ops.size := (Array.getElem?_eq_some_iff.1 ho).1
    have := List.all_eq_true.1 hB1 i (List.mem_range.2 hlt)
    rw [ho] at this
    simp only [Bool.and_eq_true, Array.all_eq_true_iff_forall_mem, Bool.or_eq_true, Bool.not_eq_true', decide_eq_true_eq] at this
    refine ⟨fun e he hb => (this.1 e he).resolve_left (by simp [hb]), fun d hd => ?_⟩
    have h2 := this.2
    rw [hd] at h2
    simpa using h2
  have hdist : ∀ (i j : Nat) (o o' : Oper) (d : Tmp), ops[i]? = some o → ops[j]? = some o' → i ≠ j → o.dst = some d → o'.dst ≠ some d := by
    intro i j o o' d ho ho' hij hd he
    have hi : i < ops.size := (Array.getElem?_eq_some_iff.1 ho).1
    have hj : j < ops.size := (Array.getElem?_eq_some_iff.1 ho').1
    have := List.all_eq_true.1 (List.all_eq_true.1 hB2 i (List.mem_range.2 hi)) j (List.mem_range.2 hj)
    rw [ho, ho'] at this
    simp [hij, hd, he] at this
  have hdone : ∀ (listed : Array Bool) (a : Act) (w : World), midC ops Vs a0 w0 listed a w → Region.ready .any ops listed = [] → Q .normal a w := by
    intro listed a w hm hr
    obtain ⟨hsz, hb, hdf, hs, hf, hc⟩ := hm
    have hall : ∀ n, n ≤ ops.size → ∀ j, j < n → listed.getD j false = true := by
      intro n
      induction n with
      | zero => intro _ j hj; omega
      | succ n ih =>
        intro hn j hj
        rcases Nat.lt_or_ge j n with h' | h'
        · exact ih (by omega) j h'
        · have hjn : j = n := by omega
          subst hjn
          have hlj : j < ops.size := by omega
          have hls : j < listed.size := by omega
          cases hx : listed.getD j true with
          | true => simpa [hls] using hx
          | false =>
            have : j ∈ Region.ready .any ops listed := mem_ready.2 ⟨hx, ops[j], by simp [hlj], fun e he hbi => ih (by omega) e.on ((hedge j ops[j] (by simp [hlj])).1 e he hbi)⟩
            rw [hr] at this
            cases this
    exact hend a w hb hdf hs hf (fun j hj => hc j (hall ops.size (Nat.le_refl _) j hj))
  intro fuel
  induction fuel with
  | zero =>
    intro listed a w hcnt hm
    have hr : Region.ready .any ops listed = [] := by
      refine List.eq_nil_iff_forall_not_mem.2 fun j hj => ?_
      obtain ⟨h0, o, ho, -⟩ := mem_ready.1 hj
      have := cntU_zero _ hcnt j (Array.getElem?_eq_some_iff.1 ho).1
      rw [h0] at this
      cases this
    exact ⟨hr, hdone _ _ _ hm hr⟩
  | succ fuel ih =>
    intro listed a w hcnt hm
    refine ⟨fun hr => hdone _ _ _ hm hr, fun i hi => ?_⟩
    obtain ⟨hsz, hb, hdf, hs, hf, hc⟩ := hm
    obtain ⟨h0, o, ho, hall⟩ := mem_ready.1 hi
    have hlt : i < ops.size := (Array.getElem?_eq_some_iff.1 ho).1
    have hob := hop i o ho (slotsOf a) w hb hf (fun j hj => by
      unfold depends at hj
      obtain ⟨e, he, hej⟩ := any_mem hj
      simp only [Bool.and_eq_true, beq_iff_eq] at hej
      exact hc j (hej.2 ▸ hall e he hej.1))
    have hcnt' : cntU (listed.setIfInBounds i true) ops.size = fuel := by
      have := cntU_set listed i h0 ops.size
      rw [if_pos hlt] at this
      omega
    have hnext : ∀ v w', Below w.heap.size w w' → claimOf Vs i v w' → midC ops Vs a0 w0 (listed.setIfInBounds i true) (a.put o.dst v) w' := by
      intro v w' hb' hv
      refine ⟨by simp [hsz], hb.trans (hb'.mono hb.size), ?_, ?_, ?_, ?_⟩
      · cases o.dst <;> exact hdf
      · cases o.dst <;> simp [Act.put, hs]
      · intro s hs'
        rw [← hf s hs']
        unfold slotsOf
        cases hd : o.dst with
        | none => rfl
        | some d =>
          have hne : d ≠ s := by
            intro e
            subst e
            unfold writes at hs'
            have : (ops.any fun o => o.dst == some d) = true := mem_any (Array.mem_of_getElem? ho) (by simp [hd])
            rw [this] at hs'
            cases hs'
          simp [Act.put, Array.getElem?_setIfInBounds_ne hne]
      · intro j hj
        by_cases hij : i = j
        · subst hij
          unfold claimAt
          rw [ho]
          unfold claimOf at hv
          cases hV : Vs[i]? with
          | none => trivial
          | some V =>
            rw [hV] at hv
            cases hd : o.dst with
            | none => simp only [hd]
            | some d =>
              have hdlt := (hedge i o ho).2 d hd
              rw [← hs] at hdlt
              simp only [hd]
              have : slotsOf (a.put (some d) v) d = v := by simp [slotsOf, Act.put, hdlt]
              rw [this]
              exact hv
        · rw [getD_set_ne false hij] at hj
          have hcj := hc j hj
          unfold claimAt at hcj ⊢
          cases hoj : ops[j]? with
          | none => trivial
          | some o' =>
            rw [hoj] at hcj
            cases hV : Vs[j]? with
            | none => trivial
            | some V =>
              rw [hV] at hcj
              cases hd' : o'.dst with
              | none => simp only [hd']
              | some d' =>
                simp only [hd'] at hcj ⊢
                have hne : o.dst ≠ some d' := hdist j i o' o d' hoj ho (fun e => hij e.symm) hd'
                have : slotsOf (a.put o.dst v) d' = slotsOf a d' := by
                  unfold slotsOf
                  cases hd : o.dst with
                  | none => rfl
                  | some d =>
                    have : d ≠ d' := fun e => hne (by rw [hd, e])
                    simp [Act.put, Array.getElem?_setIfInBounds_ne this]
                rw [this]
                exact hmono V (List.mem_of_getElem? hV) _ _ _ hcj hb'
    unfold wpOp
    rw [ho]
    simp only
    rw [wanted_ask]
    rcases hob with ⟨hw, hx⟩ | ⟨hw, hx⟩
    · rw [if_pos hw]
      exact .inl (wp_of_opOK hx fun v w' ⟨h1, h2⟩ => ih _ _ _ hcnt' (hnext v w' h1 h2))
    · rw [hw]
      exact ih _ _ _ hcnt' (hnext undef w (Below.refl _ _) hx)
/-- The region, its operations written out. -/
theorem wp_region_claims {P : Program} {id : Nat} {l : List Oper} {Q : Exit → Act → World → Prop} {a : Act} {w : World} (Vs : List Clm) (hm : P.follows .mixedOrders = true) (n : Nat) (hn : a.tmps.size = n) (hB : claimsB l.toArray n = true)
    (hmono : ∀ V ∈ Vs, ∀ v w w', V v w → Below w.heap.size w w' → V v w') (hop : obligs P l.toArray Vs a w 0 l)
    (hend : ∀ a' w', Below w.heap.size w w' → a'.defers = a.defers → a'.tmps.size = n → (∀ s, writes l.toArray s = false → slotsOf a' s = slotsOf a s) → (∀ j, j < l.length → claimAt l.toArray Vs (slotsOf a') w' j) → Q .normal a' w') :
    (Code.region id l.toArray true).wp P Q a w := by
  subst hn
  refine wp_region_any hm (claims_any (w0 := w) (a0 := a) (Vs := Vs) hB hmono (fun i o ho => by have := obligs_at l 0 hop i o (by simpa using ho); rwa [Nat.zero_add] at this) (fun a' w' h1 h2 h3 h4 h5 => hend a' w' h1 h2 h3 h4 (fun j hj => h5 j (by simpa using hj))) _ _ _ _ ?_ ?_)
  · have : ∀ n m, n ≤ m → cntU (Array.replicate m false) n = n := by
      intro n
      induction n with
      | zero => intro m _; rfl
      | succ n ih =>
        intro m hm
        simp only [cntU]
        rw [ih m (by omega)]
        have : (Array.replicate m false).getD n true = false := by simp [show n < m by omega]
        rw [this]
        simp
    exact this _ _ (Nat.le_refl _)
  · refine ⟨by simp, (Below.refl _ _).drew, rfl, rfl, fun _ _ => rfl, fun j hj => ?_⟩
    exfalso
    rcases Nat.lt_or_ge j l.length with h | h
    · simp [h] at hj
    · simp [Array.getElem?_eq_none (xs := Array.replicate l.length false) (i := j) (by simpa using h)] at hj
/-- One operation's step, what follows behind a variable. -/
theorem opOK_step {P : Program} {o : Oper} {ρ : Nat → Value} {w : World} {S : Clm} (h : ∀ R : Clm, (∀ v w', S v w' → R v w') → opOK P o ρ w R) : opOK P o ρ w S := h S fun _ _ h => h
theorem ask_of {ops : Array Oper} {o : Oper} {ρ : Nat → Value} {j d : Nat} {b : Bool} (hg : o.guard = some (j, b)) (hd : (ops[j]?).bind (·.dst) = some d) (h : ρ d = .bool b) : askOf ops o ρ = true := by
  unfold askOf
  rw [hg]
  simp only [hd, h, boolOf, beq_self_eq_true]
theorem ask_not {ops : Array Oper} {o : Oper} {ρ : Nat → Value} {j d : Nat} {b : Bool} (hg : o.guard = some (j, b)) (hd : (ops[j]?).bind (·.dst) = some d) (h : ρ d = .bool (!b)) : askOf ops o ρ = false := by
  unfold askOf
  rw [hg]
  simp only [hd, h, boolOf]
  cases b <;> rfl
end Go.Proofs.Ytmkpfdcnikgokaa
