/-
  Texts of this claim, put together: Inv, InvList. What each theorem asks stands in its statement.
-/
import Derived.Test.YtmkpfdcnikgokaaMc16
set_option linter.unusedVariables false
set_option linter.unusedSimpArgs false
namespace Go.Proofs.Ytmkpfdcnikgokaa
open Go.RowKit
/-- What is done, with one more. -/
def upd (done : Nat → Bool) (i : Nat) : Nat → Bool := fun j => decide (j = i) || done j
/-- The slots' values, with one more. -/
def putS (ρ : Nat → Value) (d : Option Tmp) (v : Value) : Nat → Value := match d with
  | none => ρ
  | some d => fun s => if s = d then v else ρ s
abbrev Inv := (Nat → Bool) → (Nat → Value) → World → Prop
/-- What is to be shown of one operation. -/
def duty (P : Program) (ops : Array Oper) (I : Inv) (a0 : Act) (i : Nat) (o : Oper) : Prop :=
  ∀ (done : Nat → Bool) (ρ : Nat → Value) (w : World), done i = false → (∀ s, writes ops s = false → ρ s = slotsOf a0 s) → (∀ j, depends o j = true → done j = true) → I done ρ w →
    (askOf ops o ρ = true ∧ opOK P o ρ w fun v w' => I (upd done i) (putS ρ o.dst v) w') ∨ (askOf ops o ρ = false ∧ I (upd done i) (putS ρ o.dst undef) w)
def duties (P : Program) (ops : Array Oper) (I : Inv) (a0 : Act) : Nat → List Oper → Prop
  | _, [] => True
  | k, o :: l => duty P ops I a0 k o ∧ duties P ops I a0 (k + 1) l
theorem duties_at {P : Program} {ops : Array Oper} {I : Inv} {a0 : Act} : ∀ (l : List Oper) (k : Nat), duties P ops I a0 k l → ∀ i o, l[i]? = some o → duty P ops I a0 (k + i) o
  | [], _, _, i, o, h => by simp at h
  | x :: l, k, h, i, o, ho => by
    cases i with
    | zero => simp at ho; subst ho; exact h.1
    | succ i => have := duties_at l (k + 1) h.2 i o (by simpa using ho); rwa [show k + 1 + i = k + (i + 1) by omega] at this
/-- What stands in the middle of such a region. -/
def midI (ops : Array Oper) (I : Inv) (a0 : Act) (listed : Array Bool) (a : Act) (w : World) : Prop :=
  listed.size = ops.size ∧ a.defers = a0.defers ∧ a.tmps.size = a0.tmps.size ∧ (∀ s, writes ops s = false → slotsOf a s = slotsOf a0 s) ∧ I (fun j => listed.getD j false) (slotsOf a) w
theorem inv_any {P : Program} {ops : Array Oper} {I : Inv} {a0 : Act} {Q : Exit → Act → World → Prop} (hB : claimsB ops a0.tmps.size = true)
    (hop : ∀ i o, ops[i]? = some o → duty P ops I a0 i o)
    (hend : ∀ a w, a.defers = a0.defers → a.tmps.size = a0.tmps.size → (∀ s, writes ops s = false → slotsOf a s = slotsOf a0 s) → I (fun j => decide (j < ops.size)) (slotsOf a) w → Q .normal a w) :
    ∀ (fuel : Nat) (listed : Array Bool) (a : Act) (w : World), cntU listed ops.size = fuel → midI ops I a0 listed a w → wpAny P .any ops Q fuel listed a w := by
  unfold claimsB at hB
  rw [Bool.and_eq_true] at hB
  obtain ⟨hB1, hB2⟩ := hB
  have hedge : ∀ i o, ops[i]? = some o → (∀ e ∈ o.after, Region.binds .any e = true → e.on < i) ∧ ∀ d, o.dst = some d → d < a0.tmps.size := by
    intro i o ho
    have hlt : i < ops.size := (Array.getElem?_eq_some_iff.1 ho).1
    have := List.all_eq_true.1 hB1 i (List.mem_range.2 hlt)
    rw [ho] at this
    simp only [Bool.and_eq_true, Array.all_eq_true_iff_forall_mem, Bool.or_eq_true, Bool.not_eq_true', decide_eq_true_eq] at this
    refine ⟨fun e he hb => (this.1 e he).resolve_left (by simp [hb]), fun d hd => ?_⟩
    have h2 := this.2
    rw [hd] at h2
    simpa using h2
  have hdone : ∀ (listed : Array Bool) (a : Act) (w : World), midI ops I a0 listed a w → Region.ready .any ops listed = [] → Q .normal a w := by
    intro listed a w hm hr
    obtain ⟨hsz, hdf, hs, hf, hI⟩ := hm
    have hall : ∀ n, n ≤ ops.size → ∀ j, j < n → listed.getD j false = true := by
      intro n
      induction n with
      | zero => intro _ j hj; omega
      | succ n ih =>
        intro hn j hj
        rcases Nat.lt_or_ge j n with h' | h'
        · exact ih (by omega) j h'
        · have hjn : j = n := by omega
          subst hjn
          have hlj : j < ops.size := by omega
          have hls : j < listed.size := by omega
          cases hx : listed.getD j true with
          | true => simpa [hls] using hx
          | false =>
            have : j ∈ Region.ready .any ops listed := mem_ready.2 ⟨hx, ops[j], by simp [hlj], fun e he hbi => ih (by omega) e.on ((hedge j ops[j] (by simp [hlj])).1 e he hbi)⟩
            rw [hr] at this
            cases this
    refine hend a w hdf hs hf ?_
    have e : (fun j => listed.getD j false) = fun j => decide (j < ops.size) := by
      funext j
      rcases Nat.lt_or_ge j ops.size with h | h
      · rw [hall ops.size (Nat.le_refl _) j h, decide_eq_true h]
      · rw [decide_eq_false (by omega)]
        simp [Array.getElem?_eq_none (xs := listed) (i := j) (by omega)]
    rw [← e]
    exact hI
  intro fuel
  induction fuel with
  | zero =>
    intro listed a w hcnt hm
    have hr : Region.ready .any ops listed = [] := by
      refine List.eq_nil_iff_forall_not_mem.2 fun j hj => ?_
      obtain ⟨h0, o, ho, -⟩ := mem_ready.1 hj
      have := cntU_zero _ hcnt j (Array.getElem?_eq_some_iff.1 ho).1
      rw [h0] at this
      cases this
    exact ⟨hr, hdone _ _ _ hm hr⟩
  | succ fuel ih =>
    intro listed a w hcnt hm
    refine ⟨fun hr => hdone _ _ _ hm hr, fun i hi => ?_⟩
    obtain ⟨hsz, hdf, hs, hf, hI⟩ := hm
    obtain ⟨h0, o, ho, hall⟩ := mem_ready.1 hi
    have hlt : i < ops.size := (Array.getElem?_eq_some_iff.1 ho).1
    have hli : listed.getD i false = false := by
      cases hx : listed.getD i false with
      | false => rfl
      | true =>
        have hls : i < listed.size := by omega
        simp [hls] at hx h0
        rw [hx] at h0
        cases h0
    have hob := hop i o ho (fun j => listed.getD j false) (slotsOf a) w hli hf (fun j hj => by
      unfold depends at hj
      obtain ⟨e, he, hej⟩ := any_mem hj
      simp only [Bool.and_eq_true, beq_iff_eq] at hej
      exact hej.2 ▸ hall e he hej.1) hI
    have hcnt' : cntU (listed.setIfInBounds i true) ops.size = fuel := by
      have := cntU_set listed i h0 ops.size
      rw [if_pos hlt] at this
      omega
    have hnext : ∀ v w', I (upd (fun j => listed.getD j false) i) (putS (slotsOf a) o.dst v) w' → midI ops I a0 (listed.setIfInBounds i true) (a.put o.dst v) w' := by
      intro v w' hv
      refine ⟨by simp [hsz], ?_, ?_, ?_, ?_⟩
      · cases o.dst <;> exact hdf
      · cases o.dst <;> simp [Act.put, hs]
      · intro s hs'
        rw [← hf s hs']
        unfold slotsOf
        cases hd : o.dst with
        | none => rfl
        | some d =>
          have hne : d ≠ s := by
            intro e
            subst e
            unfold writes at hs'
            have : (ops.any fun o => o.dst == some d) = true := mem_any (Array.mem_of_getElem? ho) (by simp [hd])
            rw [this] at hs'
            cases hs'
          simp [Act.put, Array.getElem?_setIfInBounds_ne hne]
      · have e1 : (fun j => (listed.setIfInBounds i true).getD j false) = upd (fun j => listed.getD j false) i := by
          funext j
          unfold upd
          by_cases hij : i = j
          · subst hij
            have hls : i < listed.size := by omega
            simp [hls]
          · rw [getD_set_ne false hij, decide_eq_false (fun e => hij e.symm), Bool.false_or]
        have e2 : slotsOf (a.put o.dst v) = putS (slotsOf a) o.dst v := by
          funext s
          unfold slotsOf putS
          cases hd : o.dst with
          | none => rfl
          | some d =>
            have hdlt := (hedge i o ho).2 d hd
            rw [← hs] at hdlt
            by_cases hsd : s = d
            · subst hsd
              simp [Act.put, hdlt]
            · have hne : d ≠ s := fun e => hsd e.symm
              simp [Act.put, Array.getElem?_setIfInBounds_ne hne, hsd]
        rw [e1, e2]
        exact hv
    unfold wpOp
    rw [ho]
    simp only
    rw [wanted_ask]
    rcases hob with ⟨hw, hx⟩ | ⟨hw, hx⟩
    · rw [if_pos hw]
      exact .inl (wp_of_opOK hx fun v w' h2 => ih _ _ _ hcnt' (hnext v w' h2))
    · rw [hw]
      exact ih _ _ _ hcnt' (hnext undef w hx)
/-- The region, its operations written out. -/
theorem wp_region_inv {P : Program} {id : Nat} {l : List Oper} {Q : Exit → Act → World → Prop} {a : Act} {w : World} (I : Inv) (hm : P.follows .mixedOrders = true) (n : Nat) (hn : a.tmps.size = n) (hB : claimsB l.toArray n = true)
    (h0 : I (fun _ => false) (slotsOf a) w.drew) (hop : duties P l.toArray I a 0 l)
    (hend : ∀ a' w', a'.defers = a.defers → a'.tmps.size = n → (∀ s, writes l.toArray s = false → slotsOf a' s = slotsOf a s) → I (fun j => decide (j < l.length)) (slotsOf a') w' → Q .normal a' w') :
    (Code.region id l.toArray true).wp P Q a w := by
  subst hn
  refine wp_region_any hm (inv_any (a0 := a) (I := I) hB (fun i o ho => by have := duties_at l 0 hop i o (by simpa using ho); rwa [Nat.zero_add] at this) (fun a' w' h2 h3 h4 h5 => hend a' w' h2 h3 h4 (by simpa using h5)) _ _ _ _ ?_ ?_)
  · have : ∀ n m, n ≤ m → cntU (Array.replicate m false) n = n := by
      intro n
      induction n with
      | zero => intro m _; rfl
      | succ n ih =>
        intro m hm
        simp only [cntU]
        rw [ih m (by omega)]
        have : (Array.replicate m false).getD n true = false := by simp [show n < m by omega]
        rw [this]
        simp
    exact this _ _ (Nat.le_refl _)
  · refine ⟨by simp, rfl, rfl, fun _ _ => rfl, ?_⟩
    have e : (fun j => (Array.replicate l.toArray.size false).getD j false) = fun _ => false := by
      funext j
      rcases Nat.lt_or_ge j l.length with h | h
      · simp [h]
      · simp [Array.getElem?_eq_none (xs := Array.replicate l.length false) (i := j) (by simpa using h)]
    rw [e]
    exact h0
/-- append at a step of such a region. -/
theorem opOK_append {P : Program} {o : Oper} {ρ : Nat → Value} {w : World} {R : Clm} (s x : Operand) (t : TypeId) (ho : o.op = .call { callee := .builtin .append, args := #[s, x], argTypes := #[t, t] })
    (v xv : Value) (hs : evalOf ρ s = v) (hx : evalOf ρ x = xv) (v' : Value) (w' : World) (hrun : (Builtin.append_ #[t, t] o.type #[v, xv]).run P w = .ok v' w') (h : R v' w') : opOK P o ρ w R := by
  unfold opOK execOp
  simp only [ho, resolve, invoke, builtin, Sem.run_bind, Sem.run_pure, Result.andThen_ok, List.map_toArray, List.map_cons, List.map_nil, hs, hx, hrun]
  exact h
end Go.Proofs.Ytmkpfdcnikgokaa
namespace Go.Proofs.Ytmkpfdcnikgokaa
open Go.RowKit
/-- The slots that are written, once each. -/
def oncesB (S : List (Option Nat)) : Bool := (List.range S.length).all fun i => (List.range S.length).all fun j => decide (i = j) || (match (S[i]?).join, (S[j]?).join with | some a, some b => decide (a ≠ b) | _, _ => true)
/-- The values of what is done; and a property of the world. -/
def LI (L : List (Option (Nat × Value))) (Wp : World → Prop) : Inv := fun done ρ w => Wp w ∧ ∀ i s v, (L[i]?).join = some (s, v) → done i = true → ρ s = v
theorem LI.start (L : List (Option (Nat × Value))) {Wp : World → Prop} {ρ : Nat → Value} {w : World} (h : Wp w) : LI L Wp (fun _ => false) ρ w := ⟨h, fun _ _ _ _ h => by cases h⟩
theorem LI.get {L : List (Option (Nat × Value))} {Wp : World → Prop} {done : Nat → Bool} {ρ : Nat → Value} {w : World} (h : LI L Wp done ρ w) (i s : Nat) (v : Value) (hi : (L[i]?).join = some (s, v)) (hd : done i = true) : ρ s = v := h.2 i s v hi hd
theorem LI.put {L : List (Option (Nat × Value))} {Wp : World → Prop} {done : Nat → Bool} {ρ : Nat → Value} {w w' : World} (h : LI L Wp done ρ w) (S : List (Option Nat)) (hS : L.map (Option.map Prod.fst) = S) (hB : oncesB S = true) (i d : Nat) (v : Value) (hi : (L[i]?).join = some (d, v)) (hw : Wp w') :
    LI L Wp (upd done i) (putS ρ (some d) v) w' := by
  refine ⟨hw, fun j s u hj hd => ?_⟩
  have slot : ∀ (k s : Nat) (u : Value), (L[k]?).join = some (s, u) → (S[k]?).join = some s ∧ k < S.length := by
    intro k s u hk
    rw [← hS, List.getElem?_map, List.length_map]
    cases hx : L[k]? with
    | none => rw [hx] at hk; cases hk
    | some o =>
      rw [hx] at hk
      simp only [Option.join] at hk
      refine ⟨?_, (List.getElem?_eq_some_iff.1 hx).1⟩
      simp [Option.join] at hk ⊢
      exact ⟨u, hk⟩
  by_cases hij : j = i
  · subst hij
    rw [hi] at hj
    simp only [Option.some.injEq, Prod.mk.injEq] at hj
    obtain ⟨rfl, rfl⟩ := hj
    simp [putS]
  · obtain ⟨s1, s2⟩ := slot j s u hj
    obtain ⟨s3, s4⟩ := slot i d v hi
    have hne : s ≠ d := by
      have := List.all_eq_true.1 (List.all_eq_true.1 hB j (List.mem_range.2 s2)) i (List.mem_range.2 s4)
      rw [s1, s3] at this
      simpa [hij] using this
    simp only [putS, hne, if_false]
    refine h.2 j s u hj ?_
    simpa [upd, hij] using hd
theorem LI.world {L : List (Option (Nat × Value))} {Wp : World → Prop} {done : Nat → Bool} {ρ : Nat → Value} {w w' : World} (h : LI L Wp done ρ w) (i : Nat) (v : Value) (hi : (L[i]?).join = none) (hw : Wp w') : LI L Wp (upd done i) (putS ρ none v) w' := by
  refine ⟨hw, fun j s u hj hd => h.2 j s u hj ?_⟩
  have hij : j ≠ i := fun e => by rw [e, hi] at hj; cases hj
  simpa [upd, hij] using hd
theorem arr_list (T : Array Value) (n : Nat) (h : T.size = n) : T = ((List.range n).map fun i => T.getD i undef).toArray := by
  refine Array.ext (by simp [h]) fun i h1 h2 => ?_
  simp [Array.getD, h1]
end Go.Proofs.Ytmkpfdcnikgokaa
