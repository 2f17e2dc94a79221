/-
  Texts of this claim, put together: ListMath. What each theorem asks stands in its statement.
-/
import Derived.Test.YtmkpfdcnikgokaaGa13
import Derived.Test.YtmkpfdcnikgokaaGa17
namespace Go.Proofs.Ytmkpfdcnikgokaa
open Go.RowKit
/-- An operation, wherever it lies. -/
abbrev OpP := Int × Int × Int × List Rn × Int
instance : DecidableEq OpP := fun a b => decidable_of_iff (a.1 = b.1 ∧ a.2.1 = b.2.1 ∧ a.2.2.1 = b.2.2.1 ∧ a.2.2.2.1 = b.2.2.2.1 ∧ a.2.2.2.2 = b.2.2.2.2) (by
  obtain ⟨a0, a1, a2, a3, a4⟩ := a
  obtain ⟨b0, b1, b2, b3, b4⟩ := b
  simp only [Prod.mk.injEq])
def OpL.op (x : OpL) : OpP := (x.k, x.t, x.r, x.p, x.z)
def opP (o : OpP) : List UInt8 := opB o.1 o.2.1 o.2.2.1 o.2.2.2.1 o.2.2.2.2
def mayP (o : OpP) : Prop := mayO o.1 o.2.1 o.2.2.1 o.2.2.2.1 o.2.2.2.2
/-- What may be, in parts of its types. -/
def goodP (o : OpP) : Prop := mayP o ∧ (∀ x ∈ o.2.2.2.1, okR x) ∧ 1 ≤ o.1 ∧ o.1 ≤ 4 ∧ 0 ≤ o.2.2.1
/-- So many operations that bytes go on with, from a place on. -/
def goL (b : List UInt8) : Nat → Nat → List OpP → Option (List OpP × Nat)
  | 0, a, acc => some (acc, a)
  | m + 1, a, acc => match getP (b.drop a) with
    | none => none
    | some (k, t, r, p, z, n) => goL b m (a + n) (acc ++ [(k, t, r, p, z)])
/-- The list that bytes begin with. -/
def readL (b : List UInt8) : Option (List OpP × Nat) := (nxt b 0 0 1024).bind fun q => goL b q.1.toNat q.2 []
def outL : Option (List OpP × Nat) → List OpP × Nat × Int
  | some (l, n) => (l, n, 0)
  | none => ([], 0, 8)
theorem lastR_nnL {p : List Rn} (hp : mayR p) (ho : ∀ x ∈ p, okR x) : 0 ≤ (lastR p).2 := by
  have hne : p ≠ [] := fun e => by rw [e] at hp; have := hp.1; simp at this
  obtain ⟨q, x, rfl⟩ : ∃ q x, p = q ++ [x] := ⟨p.dropLast, p.getLast hne, (List.dropLast_concat_getLast hne).symm⟩
  rw [lastR_snoc q x hp]
  have := ho x (by simp)
  unfold okR at this
  simp only
  omega
theorem getP_nnL {b : List UInt8} {k t r : Int} {p : List Rn} {z : Int} {n : Nat} (h : getP b = some (k, t, r, p, z, n)) : 0 ≤ r := by
  simp only [getP, Option.bind_eq_some_iff] at h
  obtain ⟨⟨k', a1⟩, hk, ⟨m, a2⟩, hm, ⟨p', w, a3⟩, hr, ⟨k2, t2, r2, p2, z2, n2⟩, ht, h⟩ := h
  simp only at hm hr ht h
  split at h
  · rename_i hmay
    simp only [Option.some.injEq, Prod.mk.injEq] at h
    obtain ⟨rfl, rfl, rfl, rfl, rfl, rfl⟩ := h
    obtain ⟨t1, l1⟩ := nxt_take (L := []) hk (by omega) (by simp [nbs])
    obtain ⟨t2', l2⟩ := nxt_take hm l1 t1
    obtain ⟨-, -, -, -, g5, -, -⟩ := rdRuns_inv m.toNat a2 0 _ p' w a3 (by omega) l2 t2' hr
    unfold rdTail at ht
    split at ht
    · rw [Option.map_eq_some_iff] at ht
      obtain ⟨⟨z', a4⟩, hz, he⟩ := ht
      simp only [Prod.mk.injEq] at he
      obtain ⟨rfl, rfl, rfl, rfl, rfl, rfl⟩ := he
      exact lastR_nnL hmay.2.1 g5
    · split at ht
      · simp only [Option.some.injEq, Prod.mk.injEq] at ht
        obtain ⟨rfl, rfl, rfl, rfl, rfl, rfl⟩ := ht
        exact lastR_nnL hmay.2.1 g5
      · simp only [Option.bind_eq_some_iff, Option.map_eq_some_iff] at ht
        obtain ⟨⟨d, a4⟩, hd, ⟨r', a5⟩, hr', he⟩ := ht
        simp only [Prod.mk.injEq] at hd hr' he
        obtain ⟨rfl, rfl, rfl, rfl, rfl, rfl⟩ := he
        exact (nxt_inv hr').1
  · cases h
theorem getP_goodP {b : List UInt8} {k t r : Int} {p : List Rn} {z : Int} {n : Nat} (h : getP b = some (k, t, r, p, z, n)) : goodP (k, t, r, p, z) := by
  obtain ⟨h1, -, -, h4, h5, h6⟩ := getP_inv h
  exact ⟨h1, h4, h5, h6, getP_nnL h⟩
theorem goL_inv {b : List UInt8} {pre : List UInt8} : ∀ (m a : Nat) (acc l : List OpP) (n : Nat), goL b m a acc = some (l, n) → a ≤ b.length → b.take a = pre ++ acc.flatMap opP → (∀ o ∈ acc, goodP o) →
    (∀ o ∈ l, goodP o) ∧ l.length = acc.length + m ∧ n ≤ b.length ∧ b.take n = pre ++ l.flatMap opP
  | 0, a, acc, l, n, h, ha, ht, hg => by
    simp only [goL, Option.some.injEq, Prod.mk.injEq] at h
    obtain ⟨rfl, rfl⟩ := h
    exact ⟨hg, rfl, ha, ht⟩
  | m + 1, a, acc, l, n, h, ha, ht, hg => by
    unfold goL at h
    cases hp : getP (b.drop a) with
    | none => rw [hp] at h; cases h
    | some o =>
      obtain ⟨k, t, r, p, z, s⟩ := o
      rw [hp] at h
      simp only at h
      have hgo := getP_goodP hp
      obtain ⟨-, h2, h3, -⟩ := getP_inv hp
      rw [List.length_drop] at h3
      obtain ⟨g1, g2, g3, g4⟩ := goL_inv m (a + s) (acc ++ [(k, t, r, p, z)]) l n h (by omega) (by
        rw [List.take_add, ht, h2, List.flatMap_append, List.flatMap_singleton, List.append_assoc]
        rfl) (fun o ho => by
        rcases List.mem_append.1 ho with h' | h'
        · exact hg o h'
        · simp only [List.mem_singleton] at h'
          subst h'
          exact hgo)
      refine ⟨g1, ?_, g3, g4⟩
      rw [g2, List.length_append, List.length_singleton]
      omega
theorem readL_inv {b : List UInt8} {l : List OpP} {n : Nat} (h : readL b = some (l, n)) : (∀ o ∈ l, goodP o) ∧ l.length ≤ 1024 ∧ n ≤ b.length ∧ b.take n = nbs [(l.length : Int)] ++ l.flatMap opP := by
  unfold readL at h
  rw [Option.bind_eq_some_iff] at h
  obtain ⟨⟨m, a⟩, hm, hg⟩ := h
  simp only at hg
  obtain ⟨h1, h2, h3, -, -, -, -⟩ := nxt_inv hm
  obtain ⟨t1, l1⟩ := nxt_take (L := []) hm (by omega) (by simp [nbs])
  rw [List.nil_append] at t1
  obtain ⟨g1, g2, g3, g4⟩ := goL_inv (pre := nbs [m]) m.toNat a [] l n hg l1 (by rw [t1]; simp) (fun o ho => by cases ho)
  have hlm : (l.length : Int) = m := by
    rw [g2, List.length_nil]
    omega
  refine ⟨g1, by omega, g3, ?_⟩
  rw [hlm]
  exact g4
/-- A list of operations in memory of the call's own. -/
def OO (w : World) (base : Nat) (A : Option Addr) (c : Nat) (L : List OpL) : Prop :=
  w.ownsRow base 115 5 (.slice A L.length c) L.length (opcs L) ∧ ∀ x ∈ L, w.ownsRow base 123 3 (.slice x.A x.p.length x.c) x.p.length (rns x.p)
theorem OO.below {w w' : World} {base c : Nat} {A : Option Addr} {L : List OpL} (h : OO w base A c L) (hb : Below w.heap.size w w') : OO w' base A c L :=
  ⟨own_below h.1 hb (Nat.le_refl _), fun x hx => own_below (h.2 x hx) hb (Nat.le_refl _)⟩
theorem OO.ro {w : World} {base c : Nat} {A : Option Addr} {L : List OpL} (h : OO w base A c L) : RO w w.heap.size A L :=
  ⟨RD.of_own h.1, fun x hx => RR.of_own (h.2 x hx) rfl⟩
theorem OO.nil (w : World) (base : Nat) : OO w base none 0 [] := ⟨World.ownsRow_nil _ _ _ _, fun x hx => by cases hx⟩
theorem opcs_append (L M : List OpL) : opcs (L ++ M) = opcs L ++ opcs M := by simp [opcs]
theorem opcs_one (x : OpL) : opcs [x] = x.cells := by simp [opcs]
theorem cells_one (x : OpL) : ∀ u ∈ x.cells, u.oneCell' = true := by
  intro u hu
  simp only [OpL.cells, List.mem_cons, List.not_mem_nil, or_false] at hu
  rcases hu with rfl | rfl | rfl | rfl | rfl <;> rfl
theorem opinfo : (Try.prog.info? 115).map (fun i => (i.zero, i.size, i.bytes)) = some (some (.agg #[.int .u8 0, .int .u32 0, .int .u8 0, .slice none 0 0, .int .i64 0]), 5, 48) := by kernel_rfl
theorem own_less {w : World} {base B : Nat} {e : TypeId} {size n : Nat} {v : Value} {L : List Value} (h : w.ownsRow base e size v n L) (hB : B ≤ base) : w.ownsRow B e size v n L := by
  refine ⟨h.1, ?_⟩
  rcases h.2 with h0 | ⟨g, cap, cur, h1, h2, h3⟩
  · exact .inl h0
  · exact .inr ⟨g, cap, cur, h1, Nat.le_trans hB h2, h3⟩
theorem own_kept {w w' : World} {base : Nat} {e e' : TypeId} {size n : Nat} {v : Value} {L : List Value} (h : w.ownsRow base e size v n L) (hne : e ≠ e') (hk : ∀ (b : Nat) (o' : Obj), w.heap[b]? = some o' → (∀ cur, o' ≠ .cells cur e' (0, 0)) → w'.heap[b]? = some o') : w'.ownsRow base e size v n L := by
  refine ⟨h.1, ?_⟩
  rcases h.2 with h0 | ⟨g, cap, cur, h1, h2, h3, h4⟩
  · exact .inl h0
  · exact .inr ⟨g, cap, cur, h1, h2, hk g _ h3 (fun cur e => by simp only [Obj.cells.injEq] at e; exact hne e.2.1), h4⟩
end Go.Proofs.Ytmkpfdcnikgokaa
