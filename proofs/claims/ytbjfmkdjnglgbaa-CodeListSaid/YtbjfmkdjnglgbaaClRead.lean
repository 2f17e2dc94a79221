/-
  What code.Read does, and Great. Condition: fewer than 2^30 bytes; parts of their types.
-/
import Derived.Test.YtbjfmkdjnglgbaaListMath
import Derived.Test.YtbjfmkdjnglgbaaCodeGetMath
import Derived.Test.YtbjfmkdjnglgbaaInvList
import Derived.Test.YtbjfmkdjnglgbaaCodeGet
import Derived.Test.YtbjfmkdjnglgbaaCodeAll
namespace Go.Proofs.Ytbjfmkdjnglgbaa
open Go.RowKit

theorem run_append_held {P : Program} (w : World) (base : Nat) (t ty e : TypeId) (i : TypeInfo) (z : Value) (size bytes : Nat) (ht : P.underlying t = some (.slice e)) (hi : P.info? e = some i) (hz : i.zero = some z)
    (hsize : i.size = size) (hby : i.bytes = bytes) (hzs : z.cells.size = size) (hsz : 0 < size)
    (v : Value) (n : Nat) (xs : List Value) (hown : w.ownsRow base e size v n xs)
    (B : Nat) (A : Option Addr) (m c : Nat) (news : List Value) (hr : RD w B size A m news) (h1 : ∀ u ∈ news, u.oneCell' = true)
    (h63 : n + m ≤ 1073741824) (hbytes : bytes ≤ 65536) (hbase : base ≤ w.heap.size) :
    ∃ v' w', (Builtin.append_ #[t, t] ty #[v, .slice A m c]).run P w = .ok v' w' ∧ w'.ownsRow base e size v' (n + m) (xs ++ news) ∧ Below base w w' ∧ (∀ (b : Nat) (o' : Obj), w.heap[b]? = some o' → (∀ cur, o' ≠ .cells cur e (0, 0)) → w'.heap[b]? = some o') := by
  have hb' : (n + m) * bytes ≤ 140737488355328 := by
    have : (n + m) * bytes ≤ (n + m) * 65536 := Nat.mul_le_mul_left _ hbytes
    omega
  obtain ⟨v', w', hrun, h2, h3⟩ := run_append_src (P := P) w base t ty e i z size bytes ht hi hz hsize hby hzs hsz v n xs hown B A m c news hr h1 (by unfold maxLen; omega) hb' hbase
  refine ⟨v', w', hrun, h2, grown_below hown h3 hbase, ?_⟩
  intro b o' hb hne
  obtain ⟨-, -, -, -, hk⟩ := h3
  rw [hk b (Array.getElem?_eq_some_iff.1 hb).1 ?_]
  · exact hb
  · rcases hown.2 with ⟨rfl, _⟩ | ⟨g, cap, cur, rfl, _, hg, _⟩
    · intro e1; cases e1
    · intro e1
      simp only [Value.ownBlock, Option.some.injEq] at e1
      subst e1
      rw [hg] at hb
      exact hne cur (Option.some.inj hb).symm
theorem upd_ne {done : Nat → Bool} {i j : Nat} (h : j ≠ i) : upd done i j = done j := by simp [upd, h]
theorem upd_eq {done : Nat → Bool} {i : Nat} : upd done i i = true := by simp [upd]
theorem upd_true {done : Nat → Bool} {i j : Nat} (h : done j = true) : upd done i j = true := by simp [upd, h]
theorem upd_false {done : Nat → Bool} {i j : Nat} (h : upd done i j = false) : done j = false := by
  cases hx : done j
  · rfl
  · rw [upd_true hx] at h; cases h
theorem put_ne {ρ : Nat → Value} {d s : Nat} {v : Value} (h : s ≠ d) : putS ρ (some d) v s = ρ s := by simp [putS, h]
theorem put_eq {ρ : Nat → Value} {d : Nat} {v : Value} : putS ρ (some d) v d = v := by simp [putS]
/-- An operation whose value is no fixed one. -/
theorem LI.skip {L : List (Option (Nat × Value))} {Wp : World → Prop} {done : Nat → Bool} {ρ : Nat → Value} {w w' : World} (h : LI L Wp done ρ w) (S : List (Option Nat)) (hS : L.map (Option.map Prod.fst) = S) (i d : Nat) (v : Value) (hi : (L[i]?).join = none) (hB : (S.all fun o => decide (o ≠ some d)) = true) (hw : Wp w') :
    LI L Wp (upd done i) (putS ρ (some d) v) w' := by
  refine ⟨hw, fun j s u hj hd => ?_⟩
  have hij : j ≠ i := fun e => by rw [e, hi] at hj; cases hj
  have hne : s ≠ d := by
    intro e
    subst e
    have hm : some s ∈ S := by
      rw [← hS]
      obtain ⟨o, ho, he⟩ : ∃ o, L[j]? = some o ∧ o = some (s, u) := by
        cases hx : L[j]? with
        | none => rw [hx] at hj; cases hj
        | some o => rw [hx] at hj; exact ⟨o, rfl, by simpa [Option.join] using hj⟩
      exact List.mem_map.2 ⟨o, List.mem_of_getElem? ho, by rw [he]; rfl⟩
    have := List.all_eq_true.1 hB _ hm
    simp at this
  rw [put_ne hne]
  refine h.2 j s u hj ?_
  rwa [upd_ne hij] at hd
theorem OO.only {w w' : World} {base g n c a c' : Nat} {A A' : Option Addr} {bad : Bool} {L : List OpL} (h : OO w base A' c' L) (hR : RDR w g A n c a bad) (ho : OnlyAt g w w') : OO w' base A' c' L := by
  refine ⟨⟨h.1.1, ?_⟩, fun x hx => own_only (h.2 x hx) hR ho⟩
  rcases h.1.2 with h0 | ⟨q, cap, cur, h1, h2, h3, h4⟩
  · exact .inl h0
  · have hne : q ≠ g := by
      intro e
      unfold RDR at hR
      rw [← e, h3] at hR
      simp at hR
    exact .inr ⟨q, cap, cur, h1, h2, (ho.2 q hne (Array.getElem?_eq_some_iff.1 h3).1).trans h3, h4⟩

/-- The region's fixed values. -/
def stepV (gr a s : Nat) (V : Value) (y : OpL) : List (Option (Nat × Value)) :=
  [some (30, .pointer (some ⟨gr, 0, none⟩)), some (31, V), some (32, opv y.k y.t y.r y.A y.p.length y.c y.z), none, none, some (35, .pointer (some ⟨gr, 0, none⟩)), some (36, .pointer (some ⟨gr, 0, none⟩)), some (37, .pointer (some ⟨gr, 1, none⟩)), some (38, .int .i64 (a : Int)), some (39, .int .i64 (s : Int)), some (40, .int .i64 ((a : Int) + (s : Int))), none, some (41, .pointer (some ⟨gr, 0, none⟩)), some (42, .pointer (some ⟨gr, 1, none⟩)), none]
def stepS : List (Option Nat) := [some 30, some 31, some 32, none, none, some 35, some 36, some 37, some 38, some 39, some 40, none, some 41, some 42, none]
/-- What else holds in the middle of the region. -/
structure RJ (w0 : World) (gb gr : Nat) (A : Option Addr) (n c a s : Nat) (A' : Option Addr) (m c' : Nat) (L : List OpL) (y : OpL) (done : Nat → Bool) (ρ : Nat → Value) (w : World) : Prop where
  b : Below w0.heap.size w0 w
  e2 : done 11 = false → ρ 2 = .slice A' m c'
  f2 : done 2 = false → FB w gb (.int .u8 y.k) (.int .u32 y.t) (.int .u8 y.r) (.slice y.A y.p.length y.c) (.int .i64 y.z)
  m3 : done 3 = true → done 4 = false → ∃ g, ρ 33 = .slice (some ⟨g, 0, none⟩) 1 1 ∧ w.heap[g]? = some (.cells #[.int .u8 y.k, .int .u32 y.t, .int .u8 y.r, .slice y.A y.p.length y.c, .int .i64 y.z] 47 (0, 0))
  m4 : done 4 = false → OO w w0.heap.size A' c' L ∧ w.ownsRow w0.heap.size 41 3 (.slice y.A y.p.length y.c) y.p.length (rns y.p)
  n4 : done 4 = true → ∃ A2 c2, ρ 34 = .slice A2 (m + 1) c2 ∧ OO w w0.heap.size A2 c2 (L ++ [y]) ∧ (done 11 = true → ρ 2 = .slice A2 (m + 1) c2)
  r1 : done 14 = false → RDR w gr A n c a false
  r2 : done 14 = true → RDR w gr A n c (a + s) false
  z3 : done 3 = true → done 2 = true
  z4 : done 4 = true → done 3 = true
  z41 : done 4 = true → done 1 = true
  z11 : done 11 = true → done 4 = true
  z10 : done 10 = true → done 8 = true
  z14 : done 14 = true → done 8 = true

section
variable {w0 : World} {gb gr : Nat} {A : Option Addr} {n c a s : Nat} {A' : Option Addr} {m c' : Nat} {L : List OpL} {y : OpL} {done : Nat → Bool} {ρ : Nat → Value} {w : World}
theorem RJ.plain (h : RJ w0 gb gr A n c a s A' m c' L y done ρ w) (i d : Nat) (v : Value) (h3 : 3 ≠ i) (h4 : 4 ≠ i) (h11 : 11 ≠ i) (h14 : 14 ≠ i) (d2 : 2 ≠ d) (d33 : 33 ≠ d) (d34 : 34 ≠ d) (z : i = 10 → done 8 = true) : RJ w0 gb gr A n c a s A' m c' L y (upd done i) (putS ρ (some d) v) w :=
  { b := h.b
    e2 := fun k => by rw [upd_ne h11] at k; rw [put_ne d2]; exact h.e2 k
    f2 := fun k => h.f2 (upd_false k)
    m3 := fun k l => by rw [upd_ne h3] at k; rw [upd_ne h4] at l; rw [put_ne d33]; exact h.m3 k l
    m4 := fun k => by rw [upd_ne h4] at k; exact h.m4 k
    n4 := fun k => by
      rw [upd_ne h4] at k
      obtain ⟨A2, c2, k1, k2, k3⟩ := h.n4 k
      exact ⟨A2, c2, by rw [put_ne d34]; exact k1, k2, fun l => by rw [upd_ne h11] at l; rw [put_ne d2]; exact k3 l⟩
    r1 := fun k => by rw [upd_ne h14] at k; exact h.r1 k
    r2 := fun k => by rw [upd_ne h14] at k; exact h.r2 k
    z3 := fun k => by rw [upd_ne h3] at k; exact upd_true (h.z3 k)
    z4 := fun k => by rw [upd_ne h4] at k; exact upd_true (h.z4 k)
    z41 := fun k => by rw [upd_ne h4] at k; exact upd_true (h.z41 k)
    z11 := fun k => by rw [upd_ne h11] at k; exact upd_true (h.z11 k)
    z10 := fun k => by
      by_cases e : 10 = i
      · exact upd_true (z e.symm)
      · rw [upd_ne e] at k; exact upd_true (h.z10 k)
    z14 := fun k => by rw [upd_ne h14] at k; exact upd_true (h.z14 k) }
theorem RJ.row (h : RJ w0 gb gr A n c a s A' m c' L y done ρ w) (hn : done 3 = false) (h2 : done 2 = true) :
    RJ w0 gb gr A n c a s A' m c' L y (upd done 3) (putS ρ (some 33) (.slice (some ⟨w.heap.size, 0, none⟩) 1 1)) (w.alloc (.cells #[.int .u8 y.k, .int .u32 y.t, .int .u8 y.r, .slice y.A y.p.length y.c, .int .i64 y.z] 47)) := by
  have n4 : done 4 = false := by
    cases hx : done 4 with
    | false => rfl
    | true => rw [h.z4 hx] at hn; cases hn
  have n11 : done 11 = false := by
    cases hx : done 11 with
    | false => rfl
    | true => rw [h.z11 hx] at n4; cases n4
  have hb := boxed w (.cells #[.int .u8 y.k, .int .u32 y.t, .int .u8 y.r, .slice y.A y.p.length y.c, .int .i64 y.z] 47)
  exact
  { b := fresh h.b hb
    e2 := fun _ => by rw [put_ne (by decide)]; exact h.e2 n11
    f2 := fun k => by have := upd_false k; rw [h2] at this; cases this
    m3 := fun _ _ => ⟨w.heap.size, put_eq, heap_alloc_new _ _⟩
    m4 := fun _ => ⟨(h.m4 n4).1.below hb, own_below (h.m4 n4).2 hb (Nat.le_refl _)⟩
    n4 := fun k => by rw [upd_ne (by decide), n4] at k; cases k
    r1 := fun k => (h.r1 (upd_false k)).below hb
    r2 := fun k => by rw [upd_ne (by decide)] at k; exact (h.r2 k).below hb
    z3 := fun _ => upd_true h2
    z4 := fun k => by rw [upd_ne (by decide), n4] at k; cases k
    z41 := fun k => by rw [upd_ne (by decide), n4] at k; cases k
    z11 := fun k => by rw [upd_ne (by decide), n11] at k; cases k
    z10 := fun k => by rw [upd_ne (by decide)] at k; exact upd_true (h.z10 k)
    z14 := fun k => by rw [upd_ne (by decide)] at k; exact upd_true (h.z14 k) }
theorem RJ.app (h : RJ w0 gb gr A n c a s A' m c' L y done ρ w) (hn : done 4 = false) (h3 : done 3 = true) (h1 : done 1 = true) {w' : World} {A2 : Option Addr} {c2 : Nat} (hOO : OO w' w0.heap.size A2 c2 (L ++ [y])) (hb : Below w0.heap.size w w') (hk : ∀ (b : Nat) (o' : Obj), w.heap[b]? = some o' → (∀ cur, o' ≠ .cells cur 47 (0, 0)) → w'.heap[b]? = some o') :
    RJ w0 gb gr A n c a s A' m c' L y (upd done 4) (putS ρ (some 34) (.slice A2 (m + 1) c2)) w' := by
  have n11 : done 11 = false := by
    cases hx : done 11 with
    | false => rfl
    | true => rw [h.z11 hx] at hn; cases hn
  have hR : ∀ {a' : Nat}, RDR w gr A n c a' false → RDR w' gr A n c a' false := fun hr => hk gr _ hr (fun cur e => by simp at e)
  exact
  { b := h.b.trans hb
    e2 := fun _ => by rw [put_ne (by decide)]; exact h.e2 n11
    f2 := fun k => by have := upd_false k; rw [h.z3 h3] at this; cases this
    m3 := fun _ k => by rw [upd_eq] at k; cases k
    m4 := fun k => by rw [upd_eq] at k; cases k
    n4 := fun _ => ⟨A2, c2, put_eq, hOO, fun k => by rw [upd_ne (by decide), n11] at k; cases k⟩
    r1 := fun k => hR (h.r1 (upd_false k))
    r2 := fun k => by rw [upd_ne (by decide)] at k; exact hR (h.r2 k)
    z3 := fun k => by rw [upd_ne (by decide)] at k; exact upd_true (h.z3 k)
    z4 := fun _ => upd_true h3
    z41 := fun _ => upd_true h1
    z11 := fun k => by rw [upd_ne (by decide), n11] at k; cases k
    z10 := fun k => by rw [upd_ne (by decide)] at k; exact upd_true (h.z10 k)
    z14 := fun k => by rw [upd_ne (by decide)] at k; exact upd_true (h.z14 k) }
theorem RJ.asg (h : RJ w0 gb gr A n c a s A' m c' L y done ρ w) (h4 : done 4 = true) {v : Value} (hv : v = ρ 34) :
    RJ w0 gb gr A n c a s A' m c' L y (upd done 11) (putS ρ (some 2) v) w :=
  { b := h.b
    e2 := fun k => by rw [upd_eq] at k; cases k
    f2 := fun k => h.f2 (upd_false k)
    m3 := fun _ k => by rw [upd_ne (by decide), h4] at k; cases k
    m4 := fun k => by rw [upd_ne (by decide), h4] at k; cases k
    n4 := fun _ => by
      obtain ⟨A2, c2, k1, k2, -⟩ := h.n4 h4
      exact ⟨A2, c2, by rw [put_ne (by decide)]; exact k1, k2, fun _ => by rw [put_eq, hv]; exact k1⟩
    r1 := fun k => h.r1 (upd_false k)
    r2 := fun k => by rw [upd_ne (by decide)] at k; exact h.r2 k
    z3 := fun k => by rw [upd_ne (by decide)] at k; exact upd_true (h.z3 k)
    z4 := fun k => by rw [upd_ne (by decide)] at k; exact upd_true (h.z4 k)
    z41 := fun k => by rw [upd_ne (by decide)] at k; exact upd_true (h.z41 k)
    z11 := fun _ => upd_true h4
    z10 := fun k => by rw [upd_ne (by decide)] at k; exact upd_true (h.z10 k)
    z14 := fun k => by rw [upd_ne (by decide)] at k; exact upd_true (h.z14 k) }
theorem RJ.store (h : RJ w0 gb gr A n c a s A' m c' L y done ρ w) (hn : done 14 = false) (h10 : done 10 = true) (hgr : w0.heap.size ≤ gr) (hne : gb ≠ gr) (v : Value) :
    RJ w0 gb gr A n c a s A' m c' L y (upd done 14) (putS ρ none v) (w.setCell ⟨gr, 1, none⟩ (.int .i64 ((a : Int) + (s : Int)))) := by
  have hR := h.r1 hn
  have ho := OnlyAt.set gr 1 w (.int .i64 ((a : Int) + (s : Int)))
  have hR2 : RDR (w.setCell ⟨gr, 1, none⟩ (.int .i64 ((a : Int) + (s : Int)))) gr A n c (a + s) false := by
    have := hR.set1 (a + s)
    rwa [show ((a + s : Nat) : Int) = (a : Int) + (s : Int) by omega] at this
  exact
  { b := h.b.setCell hgr _
    e2 := fun k => by rw [upd_ne (by decide)] at k; exact h.e2 k
    f2 := fun k => (h.f2 (upd_false k)).only ho hne
    m3 := fun k l => by
      rw [upd_ne (by decide)] at k l
      obtain ⟨g, k1, k2⟩ := h.m3 k l
      refine ⟨g, k1, ?_⟩
      have hgg : g ≠ gr := by
        intro e
        unfold RDR at hR
        rw [← e, k2] at hR
        simp at hR
      exact (heap_setCell_other _ _ _ _ hgg).trans k2
    m4 := fun k => by
      rw [upd_ne (by decide)] at k
      exact ⟨(h.m4 k).1.only hR ho, own_only (h.m4 k).2 hR ho⟩
    n4 := fun k => by
      rw [upd_ne (by decide)] at k
      obtain ⟨A2, c2, k1, k2, k3⟩ := h.n4 k
      exact ⟨A2, c2, k1, k2.only hR ho, fun l => by rw [upd_ne (by decide)] at l; exact k3 l⟩
    r1 := fun k => by rw [upd_eq] at k; cases k
    r2 := fun _ => hR2
    z3 := fun k => by rw [upd_ne (by decide)] at k; exact upd_true (h.z3 k)
    z4 := fun k => by rw [upd_ne (by decide)] at k; exact upd_true (h.z4 k)
    z41 := fun k => by rw [upd_ne (by decide)] at k; exact upd_true (h.z41 k)
    z11 := fun k => by rw [upd_ne (by decide)] at k; exact upd_true (h.z11 k)
    z10 := fun k => by rw [upd_ne (by decide)] at k; exact upd_true (h.z10 k)
    z14 := fun _ => upd_true (h.z10 h10) }
end
/-- append at the step. -/
theorem step_append {o : Oper} {ρ : Nat → Value} {w w0 : World} {R : Clm} (s x : Operand) (ho : o.op = .call { callee := .builtin .append, args := #[s, x], argTypes := #[79, 79] })
    {A' : Option Addr} {m c' : Nat} {L : List OpL} {y : OpL} {g : Nat} (hs : evalOf ρ s = .slice A' m c') (hx : evalOf ρ x = .slice (some ⟨g, 0, none⟩) 1 1) (hm : L.length = m) (hOO : OO w w0.heap.size A' c' L) (hy : w.ownsRow w0.heap.size 41 3 (.slice y.A y.p.length y.c) y.p.length (rns y.p))
    (hg : w.heap[g]? = some (.cells #[.int .u8 y.k, .int .u32 y.t, .int .u8 y.r, .slice y.A y.p.length y.c, .int .i64 y.z] 47 (0, 0))) (h63 : m + 1 ≤ 1073741824) (hb : w0.heap.size ≤ w.heap.size)
    (h : ∀ A2 c2 w', OO w' w0.heap.size A2 c2 (L ++ [y]) → Below w0.heap.size w w' → (∀ (b : Nat) (o' : Obj), w.heap[b]? = some o' → (∀ cur, o' ≠ .cells cur 47 (0, 0)) → w'.heap[b]? = some o') → R (.slice A2 (m + 1) c2) w') : opOK Try.prog o ρ w R := by
  subst hm
  obtain ⟨i0, hi0, hz0, hz1, hz2⟩ := info_parts opinfo
  have hr : RD w w.heap.size 5 (some ⟨g, 0, none⟩) 1 y.cells := by
    refine ⟨rfl, fun _ => ⟨g, 0, rfl, (Array.getElem?_eq_some_iff.1 hg).1, fun j u hu => ?_⟩⟩
    rw [Nat.zero_add, cell_of_row _ _ _ _ _ _ hg, ← Array.getElem?_toList]
    exact hu
  obtain ⟨v', w', hrun, h1, h2, h3⟩ := run_append_held (P := Try.prog) w w0.heap.size 79 o.type 47 i0 (.agg #[.int .u8 0, .int .u32 0, .int .u8 0, .slice none 0 0, .int .i64 0]) 5 48 Try.underlying79 hi0 hz0 hz1 hz2 rfl (by decide) _ L.length (opcs L) hOO.1 w.heap.size (some ⟨g, 0, none⟩) 1 1 y.cells hr (cells_one y) h63 (by decide) hb
  obtain ⟨A2, c2, rfl, -, -, -⟩ := own_slice h1
  refine opOK_append s x _ ho _ _ hs hx _ w' hrun (h A2 c2 w' ⟨?_, fun q hq => ?_⟩ h2 h3)
  · rw [opcs_append, opcs_one, List.length_append, List.length_singleton]
    exact h1
  · rcases List.mem_append.1 hq with hq | hq
    · exact own_kept (hOO.2 q hq) (by decide) h3
    · simp only [List.mem_singleton] at hq
      subst hq
      exact own_kept hy (by decide) h3
end Go.Proofs.Ytbjfmkdjnglgbaa
namespace Go.Proofs.Ytbjfmkdjnglgbaa
open Go.RowKit

theorem RB.rest0 {w : World} {B : Nat} {A SA : Option Addr} {b : List UInt8} {n c a SC : Nat} (hr : RB w B A b) (hn : b.length = n) (ha : a ≤ n) (hc : n ≤ c) (h : c = a ∧ SA = A ∧ SC = 0 ∨ ¬ c = a ∧ SA = Option.map (fun x => x.add a) A ∧ SC = c - a) : RB w B SA (b.drop a) := by
  rcases Nat.lt_or_ge a n with hlt | hge
  · obtain ⟨b0, o0, rfl, -⟩ := RB.cell hr (by omega)
    rcases h with ⟨h1, -, -⟩ | ⟨-, rfl, -⟩
    · omega
    · have := hr.sub a b.length (Nat.le_refl _)
      rw [List.take_length] at this
      have e : Option.map (fun x : Addr => x.add a) (some ⟨b0, o0, none⟩) = some ⟨b0, o0 + a, none⟩ := by simp [add_none]
      rw [e]
      exact this
  · rw [List.drop_eq_nil_of_le (by omega)]
    exact RD.nil_

set_option maxHeartbeats 25600000 in
set_option maxRecDepth 100000 in
theorem cread_any (A : Option Addr) (b : List UInt8) (n c : Nat) (w : World) (hr : RB w w.heap.size A b) (hn : b.length = n) (hl : n < 1073741824) (hc : n ≤ c) (hA : A = none → c = 0) :
    Calls Try.prog 76 #[.slice A n c] w fun e w' => ∃ A' c' L', e = .returned (.tuple #[.slice A' (List.length (α := OpP) (outL (readL b)).1) c', .int .i64 ((outL (readL b)).2.1 : Int), .int .i64 (outL (readL b)).2.2]) ∧ L'.map OpL.op = (outL (readL b)).1 ∧ OO w' w.heap.size A' c' L' ∧ Below w.heap.size w w' := by
  obtain ⟨w2, hw2⟩ : ∃ w2, w.alloc (.cells #[.slice A n c, .int .i64 0, .bool false] 117) = w2 := ⟨_, rfl⟩
  have hR2 : RDR w2 w.heap.size A n c 0 false := by rw [← hw2]; exact heap_alloc_new _ _
  have hb2 : Below w.heap.size w w2 := by rw [← hw2]; exact boxed _ _
  have hN := hide (next_ok A b n c w.heap.size 0 0 1024 w2 hR2 ((RD.below hr hb2).more hb2.size) hn hl (Nat.zero_le _) hc hA)
  have HRB := hide hr
  have HA := hide hA
  have Hn := hide hn
  clear hR2 hr hn hA
  cases hx : nxt b 0 0 1024 with
  | none =>
    have Hx := hide hx
    have Hno := hide (show readL b = none by unfold readL; rw [hx]; rfl)
    clear hx
    go_enter Try.func76, Try.ntmps76
    go_wp2_with fail
    refine hN.out.mono ?_
    rintro e w3 ⟨x, a', bd, rfl, hR3, ho3, -, -, hq⟩
    obtain ⟨rfl, rfl⟩ := hq Hx.out
    have hb3 : Below w.heap.size w w3 := hb2.trans ho3.1
    obtain ⟨r0, r1, r2⟩ := hR3.cells
    clear hR3 ho3 hw2
    go_wp2_with fail
    go_loopw [2, 14] (fun u i wr => u = .slice none 0 0 ∧ i = .int .i64 0 ∧ wr = w3) (fun _ _ _ => 0)
    case atStart => exact ⟨rfl, rfl, rfl⟩
    obtain ⟨rfl, rfl, rfl⟩ := hrel
    go_wp2_with fail
    refine bodyPost_ret (v := .tuple #[.slice none 0 0, .int .i64 0, .int .i64 8]) (by simp [results, Try.results76, go_sem]) rfl ?_
    exact ⟨none, 0, [], by rw [Hno.out]; rfl, by rw [Hno.out]; rfl, OO.nil _ _, hb3⟩
  | some y =>
    obtain ⟨x0, q⟩ := y
    obtain ⟨x1, x2, -, -, -, x3, -⟩ := nxt_inv hx
    obtain ⟨M, rfl⟩ : ∃ M : Nat, x0 = M := ⟨x0.toNat, by omega⟩
    have Hx := hide hx
    have Hrd := hide (show readL b = goL b M q [] by unfold readL; rw [hx]; rfl)
    have Hq := hide (show q ≤ n by rw [← Hn.out]; exact x3 (Nat.zero_le _))
    clear hx x3
    go_enter Try.func76, Try.ntmps76
    go_wp2_with fail
    refine hN.out.mono ?_
    rintro e w3 ⟨x, a0, bd, rfl, hR3, ho3, -, hq, -⟩
    obtain ⟨rfl, rfl, rfl⟩ := hq _ _ Hx.out
    have hb3 : Below w.heap.size w w3 := hb2.trans ho3.1
    have HR3 := hide hR3
    clear hR3 ho3 hw2 hN hb2 hq
    go_wp2_with fail
    go_loopw [2, 14] (fun v i wr => ∃ (j a : Nat) (A' : Option Addr) (c' : Nat) (L' : List OpL), j ≤ M ∧ a ≤ n ∧ i = .int .i64 (j : Int) ∧ v = .slice A' j c' ∧ Hid (L'.length = j) ∧ Hid (RDR wr w.heap.size A n c a false) ∧ Hid (OO wr w.heap.size A' c' L') ∧ Hid (readL b = goL b (M - j) a (L'.map OpL.op)) ∧ Below w.heap.size w wr) (fun _ i _ => M - (intOf i).toNat)
    case atStart => exact ⟨0, a0, none, 0, [], by omega, Hq.out, rfl, rfl, hide rfl, HR3, hide (OO.nil _ _), Hrd, hb3⟩
    case round =>
      obtain ⟨j, a, A', c', L', hj, ha, rfl, rfl, HLl, HR, HOO, HG, hb⟩ := hrel
      clear HR3 hb3 Hrd Hq
      by_cases hlt : j < M
      · have z0 : (j : Int) < M := by omega
        have z1 : (0 : Int) ≤ a := by omega
        have z2 : (a : Int) ≤ n := by omega
        have z3 : (n : Int) ≤ c := by omega
        have z4 : (a : Int) ≤ c := by omega
        have hlt9 := HR.out.lt
        obtain ⟨SA, SC, hSA⟩ : ∃ SA SC, (c = a ∧ SA = A ∧ SC = 0 ∨ ¬ c = a ∧ SA = Option.map (fun x => x.add a) A ∧ SC = c - a) := by
          by_cases h : c = a
          · exact ⟨_, _, .inl ⟨h, rfl, rfl⟩⟩
          · exact ⟨_, _, .inr ⟨h, rfl, rfl⟩⟩
        have G := hide (cget_any SA (b.drop a) (n - a) SC wr (RB.rest0 ((RD.below HRB.out hb).more hb.size) Hn.out ha hc hSA) (by rw [List.length_drop, Hn.out]) (by omega) (by rcases hSA with ⟨h1, -, h2⟩ | ⟨h1, -, h2⟩ <;> omega) (by
          intro e
          rcases hSA with ⟨-, -, h2⟩ | ⟨-, h1, h2⟩
          · exact h2
          · rw [h1, Option.map_eq_none_iff] at e
            have := HA.out e
            omega))
        have HG1 := hide (show readL b = match getP (b.drop a) with
          | none => none
          | some (k, t, r, p, z, n) => goL b (M - (j + 1)) (a + n) (L'.map OpL.op ++ [(k, t, r, p, z)]) by
            rw [HG.out, show M - j = (M - (j + 1)) + 1 by omega]
            rfl)
        obtain ⟨r0, r1, r2⟩ := HR.out.cells
        clear HG
        rcases hSA with ⟨hca, hA', hC'⟩ | ⟨hca, hA', hC'⟩
        all_goals
         replace hA' := hA'.symm
         replace hC' := hC'.symm
         subst hA' hC'
         go_wp2_with fail
         refine G.out.mono ?_
         rintro e w4 ⟨A4, c4, rfl, hown4, hb4⟩
         have hb04 := fresh hb hb4
         have HR4 := hide (HR.out.below hb4)
         have HOO4 := hide (HOO.out.below hb4)
         have Hown4 := hide (own_less hown4 hb.size)
         clear hown4 HR HOO r0 r1 r2 G
         cases hg : getP (b.drop a) with
         | none =>
          have Hno := hide (show readL b = none by rw [HG1.out, hg])
          simp only [outP]
          clear hg HG1 Hown4
          go_wp2_with fail
          refine bodyPost_ret (v := .tuple #[.slice none 0 0, .int .i64 0, .int .i64 8]) (by simp [results, Try.results76, go_sem]) rfl ?_
          exact ⟨none, 0, [], by rw [Hno.out]; rfl, by rw [Hno.out]; rfl, OO.nil _ _, fresh hb04 (boxed _ _)⟩
         | some o =>
          obtain ⟨k, t, r, p, z, s⟩ := o
          obtain ⟨-, -, hs9, -, -, -⟩ := getP_inv hg
          rw [List.length_drop, Hn.out] at hs9
          have HG2 := hide (show readL b = goL b (M - (j + 1)) (a + s) (L'.map OpL.op ++ [(k, t, r, p, z)]) by rw [HG1.out, hg])
          rw [hg] at Hown4
          simp only [outP] at Hown4 ⊢
          clear hg HG1
          obtain ⟨w5, hw5, F5, hs5, hb5⟩ := five_fb w4 (.int .u8 k) (.int .u32 t) (.int .u8 r) (.slice A4 p.length c4) (.int .i64 z)
          have hb05 := fresh hb04 hb5
          have HR5 := hide (HR4.out.below hb5)
          have HOO5 := hide (HOO4.out.below hb5)
          have Hown5 := hide (own_below Hown4.out hb5 (Nat.le_refl _))
          obtain ⟨gb, hgb⟩ : ∃ g, g = w4.heap.size := ⟨_, rfl⟩
          rw [← hgb] at F5
          have HF5 := hide F5
          have Hne := hide (show gb ≠ w.heap.size by rw [hgb]; have := hb4.size; omega)
          have z5 : IntKind.i64.wrap ((a : Int) + (s : Int)) = (a : Int) + (s : Int) := IntWalk.i64_in _ (by omega)
          clear F5 HR4 HOO4 Hown4
          go_wp2_with fail
          rw [← hgb]
          clear hw5 hgb hs5 hlt9
          refine wp_region_inv (fun done ρ W => LI (stepV w.heap.size a s (.slice A' j c') ⟨k, t, r, A4, c4, p, z⟩) (fun _ => True) done ρ W ∧ RJ w gb w.heap.size A n c a s A' j c' L' ⟨k, t, r, A4, c4, p, z⟩ done ρ W) (by kernel_rfl) 53 (by rfl) (by kernel_rfl) ?_ ?_ ?_
          · exact ⟨LI.start _ trivial, ⟨hb05.drew, fun _ => rfl, fun _ => HF5.out, fun e => (by cases e), fun _ => ⟨HOO5.out, Hown5.out⟩, fun e => (by cases e), fun _ => HR5.out, fun e => (by cases e), fun e => (by cases e), fun e => (by cases e), fun e => (by cases e), fun e => (by cases e), fun e => (by cases e), fun e => (by cases e)⟩⟩
          · refine ⟨?_, ?_, ?_, ?_, ?_, ?_, ?_, ?_, ?_, ?_, ?_, ?_, ?_, ?_, ?_, trivial⟩
            · -- 0: slot 30
              intro done ρ W hn hf hd h
              have q5 := hf 5 (by kernel_rfl)
              change ρ 5 = .pointer (some ⟨w.heap.size, 0, none⟩) at q5
              clear hf
              refine .inl ⟨rfl, opOK_step fun R hR => ?_⟩
              unfold opOK
              go_simp
              exact hR _ _ ⟨h.1.put stepS rfl (by decide) 0 30 _ rfl trivial, h.2.plain 0 30 _ (by decide) (by decide) (by decide) (by decide) (by decide) (by decide) (by decide) (fun e => by cases e)⟩
            · -- 1: slot 31
              intro done ρ W hn hf hd h
              have q2 := h.2.e2 (by
                cases hx : done 11 with
                | false => rfl
                | true => rw [h.2.z41 (h.2.z11 hx)] at hn; cases hn)
              clear hf
              refine .inl ⟨rfl, opOK_step fun R hR => ?_⟩
              unfold opOK
              go_simp
              exact hR _ _ ⟨h.1.put stepS rfl (by decide) 1 31 _ rfl trivial, h.2.plain 1 31 _ (by decide) (by decide) (by decide) (by decide) (by decide) (by decide) (by decide) (fun e => by cases e)⟩
            · -- 2: slot 32
              intro done ρ W hn hf hd h
              have q6 := hf 6 (by kernel_rfl)
              change ρ 6 = .pointer (some ⟨gb, 0, none⟩) at q6
              obtain ⟨y0, y1, y2, y3, y4⟩ := (h.2.f2 hn).cells
              clear hf
              refine .inl ⟨rfl, opOK_step fun R hR => ?_⟩
              unfold opOK
              go_simp
              exact hR _ _ ⟨h.1.put stepS rfl (by decide) 2 32 _ rfl trivial, h.2.plain 2 32 _ (by decide) (by decide) (by decide) (by decide) (by decide) (by decide) (by decide) (fun e => by cases e)⟩
            · -- 3: slot 33
              intro done ρ W hn hf hd h
              have q32 := h.1.get 2 32 _ rfl (hd 2 (by kernel_rfl))
              clear hf
              refine .inl ⟨rfl, opOK_step fun R hR => ?_⟩
              unfold opOK
              go_simp
              exact hR _ _ ⟨h.1.skip stepS rfl 3 33 _ rfl rfl trivial, h.2.row hn (hd 2 (by kernel_rfl))⟩
            · -- 4: slot 34
              intro done ρ W hn hf hd h
              have q31 := h.1.get 1 31 _ rfl (hd 1 (by kernel_rfl))
              obtain ⟨g, k1, k2⟩ := h.2.m3 (hd 3 (by kernel_rfl)) hn
              obtain ⟨k3, k4⟩ := h.2.m4 hn
              clear hf
              refine .inl ⟨rfl, opOK_step fun R hR => ?_⟩
              refine step_append (.tmp 31) (.tmp 33) rfl q31 k1 HLl.out k3 k4 k2 (by omega) h.2.b.size fun A2 c2 W' j1 j2 j3 => hR _ _ ⟨h.1.skip stepS rfl 4 34 _ rfl rfl trivial, h.2.app hn (hd 3 (by kernel_rfl)) (hd 1 (by kernel_rfl)) j1 j2 j3⟩
            · -- 5: slot 35
              intro done ρ W hn hf hd h
              have q5 := hf 5 (by kernel_rfl)
              change ρ 5 = .pointer (some ⟨w.heap.size, 0, none⟩) at q5
              clear hf
              refine .inl ⟨rfl, opOK_step fun R hR => ?_⟩
              unfold opOK
              go_simp
              exact hR _ _ ⟨h.1.put stepS rfl (by decide) 5 35 _ rfl trivial, h.2.plain 5 35 _ (by decide) (by decide) (by decide) (by decide) (by decide) (by decide) (by decide) (fun e => by cases e)⟩
            · -- 6: slot 36
              intro done ρ W hn hf hd h
              have q35 := h.1.get 5 35 _ rfl (hd 5 (by kernel_rfl))
              clear hf
              refine .inl ⟨rfl, opOK_step fun R hR => ?_⟩
              unfold opOK
              go_simp
              exact hR _ _ ⟨h.1.put stepS rfl (by decide) 6 36 _ rfl trivial, h.2.plain 6 36 _ (by decide) (by decide) (by decide) (by decide) (by decide) (by decide) (by decide) (fun e => by cases e)⟩
            · -- 7: slot 37
              intro done ρ W hn hf hd h
              have q36 := h.1.get 6 36 _ rfl (hd 6 (by kernel_rfl))
              clear hf
              refine .inl ⟨rfl, opOK_step fun R hR => ?_⟩
              unfold opOK
              go_simp
              exact hR _ _ ⟨h.1.put stepS rfl (by decide) 7 37 _ rfl trivial, h.2.plain 7 37 _ (by decide) (by decide) (by decide) (by decide) (by decide) (by decide) (by decide) (fun e => by cases e)⟩
            · -- 8: slot 38
              intro done ρ W hn hf hd h
              have q37 := h.1.get 7 37 _ rfl (hd 7 (by kernel_rfl))
              obtain ⟨y0, y1, y2⟩ := (h.2.r1 (by
                cases hx : done 14 with
                | false => rfl
                | true => rw [h.2.z14 hx] at hn; cases hn)).cells
              clear hf
              refine .inl ⟨rfl, opOK_step fun R hR => ?_⟩
              unfold opOK
              go_simp
              exact hR _ _ ⟨h.1.put stepS rfl (by decide) 8 38 _ rfl trivial, h.2.plain 8 38 _ (by decide) (by decide) (by decide) (by decide) (by decide) (by decide) (by decide) (fun e => by cases e)⟩
            · -- 9: slot 39
              intro done ρ W hn hf hd h
              have q7 := hf 7 (by kernel_rfl)
              change ρ 7 = .int .i64 (s : Int) at q7
              clear hf
              refine .inl ⟨rfl, opOK_step fun R hR => ?_⟩
              unfold opOK
              go_simp
              exact hR _ _ ⟨h.1.put stepS rfl (by decide) 9 39 _ rfl trivial, h.2.plain 9 39 _ (by decide) (by decide) (by decide) (by decide) (by decide) (by decide) (by decide) (fun e => by cases e)⟩
            · -- 10: slot 40
              intro done ρ W hn hf hd h
              have q38 := h.1.get 8 38 _ rfl (hd 8 (by kernel_rfl))
              have q39 := h.1.get 9 39 _ rfl (hd 9 (by kernel_rfl))
              clear hf
              refine .inl ⟨rfl, opOK_step fun R hR => ?_⟩
              unfold opOK
              go_simp
              exact hR _ _ ⟨h.1.put stepS rfl (by decide) 10 40 _ rfl trivial, h.2.plain 10 40 _ (by decide) (by decide) (by decide) (by decide) (by decide) (by decide) (by decide) (fun _ => hd 8 (by kernel_rfl))⟩
            · -- 11: slot 2
              intro done ρ W hn hf hd h
              obtain ⟨A2, c2, k1, -, -⟩ := h.2.n4 (hd 4 (by kernel_rfl))
              clear hf
              refine .inl ⟨rfl, opOK_step fun R hR => ?_⟩
              unfold opOK
              go_simp
              exact hR _ _ ⟨h.1.skip stepS rfl 11 2 _ rfl rfl trivial, h.2.asg (hd 4 (by kernel_rfl)) k1.symm⟩
            · -- 12: slot 41
              intro done ρ W hn hf hd h
              have q30 := h.1.get 0 30 _ rfl (hd 0 (by kernel_rfl))
              clear hf
              refine .inl ⟨rfl, opOK_step fun R hR => ?_⟩
              unfold opOK
              go_simp
              exact hR _ _ ⟨h.1.put stepS rfl (by decide) 12 41 _ rfl trivial, h.2.plain 12 41 _ (by decide) (by decide) (by decide) (by decide) (by decide) (by decide) (by decide) (fun e => by cases e)⟩
            · -- 13: slot 42
              intro done ρ W hn hf hd h
              have q41 := h.1.get 12 41 _ rfl (hd 12 (by kernel_rfl))
              clear hf
              refine .inl ⟨rfl, opOK_step fun R hR => ?_⟩
              unfold opOK
              go_simp
              exact hR _ _ ⟨h.1.put stepS rfl (by decide) 13 42 _ rfl trivial, h.2.plain 13 42 _ (by decide) (by decide) (by decide) (by decide) (by decide) (by decide) (by decide) (fun e => by cases e)⟩
            · -- 14: the store
              intro done ρ W hn hf hd h
              have q42 := h.1.get 13 42 _ rfl (hd 13 (by kernel_rfl))
              have q40 := h.1.get 10 40 _ rfl (hd 10 (by kernel_rfl))
              have HR := h.2.r1 hn
              obtain ⟨y0, y1, y2⟩ := HR.cells
              have f1 := frozen_of_row W w.heap.size 1 _ _ HR
              clear hf
              refine .inl ⟨rfl, opOK_step fun R hR => ?_⟩
              unfold opOK
              go_simp
              exact hR _ _ ⟨h.1.world 14 _ rfl trivial, h.2.store hn (hd 10 (by kernel_rfl)) (Nat.le_refl _) Hne.out _⟩
          · intro a' w6 hdf hsz hf h
            obtain ⟨A2, c2, -, hOO6, k3⟩ := h.2.n4 (by kernel_rfl)
            have h2 := k3 (by kernel_rfl)
            have hR6 := h.2.r2 (by kernel_rfl)
            have hb06 := h.2.b
            have h0 : slotsOf a' 0 = .slice A n c := hf 0 (by kernel_rfl)
            have h5 : slotsOf a' 5 = .pointer (some ⟨w.heap.size, 0, none⟩) := hf 5 (by kernel_rfl)
            have h13 : slotsOf a' 13 = .int .i64 (M : Int) := hf 13 (by kernel_rfl)
            have h14 : slotsOf a' 14 = .int .i64 (j : Int) := hf 14 (by kernel_rfl)
            have h1 : slotsOf a' 1 = undef := hf 1 (by kernel_rfl)
            have h9 : slotsOf a' 9 = .slice A n c := hf 9 (by kernel_rfl)
            have h10 : slotsOf a' 10 = .agg #[.slice A n c, .int .i64 0, .bool false] := hf 10 (by kernel_rfl)
            have h11 : slotsOf a' 11 = .pointer (some ⟨w.heap.size, 0, none⟩) := hf 11 (by kernel_rfl)
            have h12 : slotsOf a' 12 = .pointer (some ⟨w.heap.size, 0, none⟩) := hf 12 (by kernel_rfl)
            have h44 : slotsOf a' 44 = undef := hf 44 (by kernel_rfl)
            have h45 : slotsOf a' 45 = undef := hf 45 (by kernel_rfl)
            have h46 : slotsOf a' 46 = undef := hf 46 (by kernel_rfl)
            have h47 : slotsOf a' 47 = undef := hf 47 (by kernel_rfl)
            have h48 : slotsOf a' 48 = undef := hf 48 (by kernel_rfl)
            have h49 : slotsOf a' 49 = undef := hf 49 (by kernel_rfl)
            have h50 : slotsOf a' 50 = undef := hf 50 (by kernel_rfl)
            have h51 : slotsOf a' 51 = undef := hf 51 (by kernel_rfl)
            have h52 : slotsOf a' 52 = undef := hf 52 (by kernel_rfl)
            have HR6 := hide hR6
            have HOO6 := hide hOO6
            clear hR6 hOO6 k3 HR5 HOO5 Hown5 HF5 hb05 hb5 hb4 hb04
            obtain ⟨T, D⟩ := a'
            have hD : D = [] := hdf
            subst hD
            obtain ⟨f, hT, hff⟩ : ∃ f : Nat → Value, T = ((List.range 53).map f).toArray ∧ slotsOf ⟨T, []⟩ = f := ⟨_, arr_list T 53 hsz, rfl⟩
            rw [hff] at h0 h2 h5 h13 h14 h1 h9 h10 h11 h12 h44 h45 h46 h47 h48 h49 h50 h51 h52
            clear hff hsz hf h hdf
            have hT' : T = #[f 0, f 1, f 2, f 3, f 4, f 5, f 6, f 7, f 8, f 9, f 10, f 11, f 12, f 13, f 14, f 15, f 16, f 17, f 18, f 19, f 20, f 21, f 22, f 23, f 24, f 25, f 26, f 27, f 28, f 29, f 30, f 31, f 32, f 33, f 34, f 35, f 36, f 37, f 38, f 39, f 40, f 41, f 42, f 43, f 44, f 45, f 46, f 47, f 48, f 49, f 50, f 51, f 52] := hT.trans (by kernel_rfl)
            clear hT
            subst hT'
            rw [h0, h2, h5, h13, h14, h1, h9, h10, h11, h12, h44, h45, h46, h47, h48, h49, h50, h51, h52]
            clear h0 h2 h5 h13 h14 h1 h9 h10 h11 h12 h44 h45 h46 h47 h48 h49 h50 h51 h52
            go_wp2_with fail
            go_roundw
            case rel =>
              refine ⟨j + 1, a + s, A2, c2, L' ++ [⟨k, t, r, A4, c4, p, z⟩], by omega, by omega, by go_num, rfl, hide ?_, HR6, HOO6, hide ?_, hb06⟩
              · rw [List.length_append, HLl.out]; rfl
              · rw [HG2.out, List.map_append]; rfl
            case measure => simp [intOf]; omega
      · have z0 : ¬ (j : Int) < M := by omega
        obtain rfl : j = M := by omega
        have HG0 := hide (show readL b = some (L'.map OpL.op, a) by
          have := HG.out
          rw [Nat.sub_self] at this
          exact this)
        have hlt9 := HR.out.lt
        obtain ⟨r0, r1, r2⟩ := HR.out.cells
        clear HG HR
        go_wp2_with fail
        go_quiet (fail)
        go_wp2_with fail
        refine bodyPost_ret (v := .tuple #[.slice A' j c', .int .i64 (a : Int), .int .i64 0]) (by simp [results, Try.results76, go_sem]) rfl ?_
        exact ⟨A', c', L', by rw [HG0.out]; simp only [outL]; rw [List.length_map, HLl.out], by rw [HG0.out]; rfl, HOO.out, below_drewN hb _⟩
end Go.Proofs.Ytbjfmkdjnglgbaa
namespace Go.Proofs.Ytbjfmkdjnglgbaa
open Go.RowKit

/-- What Great's answer says. -/
def greatV (n : Nat) (m : Int) (L : List OpL) (v : Value) : Prop := ∃ g, v = .bool g ∧ (g = false → (n : Int) ≤ m ∧ (n ≤ 300 → ∀ x ∈ L, x.p.length ≤ 100))

set_option maxHeartbeats 3200000 in
set_option maxRecDepth 100000 in
theorem great_any (A : Option Addr) (n c : Nat) (m : Int) (L : List OpL) (w : World) (hr : RO w w.heap.size A L) (hn : L.length = n) (hok : ∀ x ∈ L, ∀ y ∈ x.p, okR y) :
    Calls Try.prog 68 #[.slice A n c, .int .i64 m] w fun e w' => ∃ v, e = .returned v ∧ greatV n m L v ∧ Below w.heap.size w w' := by
  have Hok := hide hok
  have Hn := hide hn
  have HR := hide hr
  clear hok hn hr
  go_enter Try.func68, Try.ntmps68
  go_wp2_with fail
  go_loopw [5, 6] (fun s i wr => ∃ (j : Nat) (sv : Int), j ≤ n ∧ (j : Int) ≤ 300 ∧ i = .int .i64 (j : Int) ∧ s = .int .i64 sv ∧ 0 ≤ sv ∧ sv ≤ j * 51000 ∧ Hid (∀ x ∈ L.take j, x.p.length ≤ 100) ∧ Below w.heap.size w wr) (fun _ i _ => n - (intOf i).toNat)
  case atStart => exact ⟨0, 0, by omega, by omega, rfl, rfl, by omega, by omega, hide (fun x hx => by cases hx), Below.refl _ _⟩
  case round =>
    obtain ⟨j, sv, hj, hj3, rfl, rfl, hs0, hs1, hP, hb⟩ := hrel
    by_cases hlt : j < n
    · have z0 : (j : Int) < n := by omega
      by_cases z3 : (j : Int) < 300
      · have hltL : j < L.length := by rw [Hn.out]; exact hlt
        have zj : (0 : Int) ≤ j := by omega
        obtain ⟨bb, bo, rfl, hB, hC⟩ := RO.cell (HR.out.below hb) (by omega)
        obtain ⟨x, hx⟩ : ∃ x, L[j] = x := ⟨_, rfl⟩
        obtain ⟨d0, d1, d2, d3, d4⟩ := hC j hltL
        rw [hx] at d0 d1 d2 d3 d4
        have hxm : x ∈ L := by rw [← hx]; exact List.getElem_mem hltL
        have Hrx := hide (show RR wr wr.heap.size x.A x.p from ((HR.out.below hb).more hb.size).2 x hxm)
        have HoX := hide (Hok.out x hxm)
        have Htake := hide (show L.take (j + 1) = L.take j ++ [x] by rw [List.take_succ_eq_append_getElem hltL, hx])
        clear hC hx d0 d1 d2 d4 hxm
        by_cases hg : (100 : Int) < x.p.length
        · go_wp2_with fail
          go_ret
          exact ⟨_, rfl, ⟨true, rfl, fun h => (Bool.noConfusion h)⟩, hb⟩
        · have Hx100 := hide (show x.p.length ≤ 100 by omega)
          go_wp2_with fail
          go_loopw [5, 7] (fun s k wi => ∃ (q : Nat) (sq : Int), q ≤ x.p.length ∧ k = .int .i64 (q : Int) ∧ s = .int .i64 sq ∧ 0 ≤ sq ∧ sq ≤ sv + q * 501 ∧ wi = wr) (fun _ k _ => x.p.length - (intOf k).toNat)
          case atStart => exact ⟨0, sv, by omega, rfl, rfl, by omega, by omega, rfl⟩
          case round =>
            obtain ⟨q, sq, hq, rfl, rfl, hq0, hq1, rfl⟩ := hrel
            by_cases hltq : q < x.p.length
            · have zq : (q : Int) < x.p.length := by omega
              have zq0 : (0 : Int) ≤ q := by omega
              obtain ⟨rb, ro, hA, -, rC⟩ := RR.cell Hrx.out (by omega)
              obtain ⟨-, -, e2⟩ := rC q hltq
              have hoy := HoX.out x.p[q] (List.getElem_mem hltq)
              obtain ⟨y, hy⟩ : ∃ y, x.p[q].2.2 = y := ⟨_, rfl⟩
              unfold okR at hoy
              rw [hy] at e2 hoy
              obtain ⟨-, -, -, -, hy0, hy1⟩ := hoy
              rw [hA] at d3
              clear rC hy
              clear hA
              go_wp2_with fail
              refine ⟨⟨q + 1, _, by omega, by go_num, rfl, ?_, ?_, trivial⟩, by simp [intOf]; omega⟩
              · split <;> (try split) <;> omega
              · split <;> (try split) <;> omega
            · have zq : ¬ (q : Int) < x.p.length := by omega
              have hqe : q = x.p.length := by omega
              have hx100 := Hx100.out
              go_wp2_with fail
              go_roundw
              case rel =>
                refine ⟨j + 1, sq, by omega, by omega, by go_num, rfl, hq0, by omega, hide ?_, hb⟩
                rw [Htake.out]
                intro u hu
                rcases List.mem_append.1 hu with h | h
                · exact hP.out u h
                · simp only [List.mem_singleton] at h
                  subst h
                  exact Hx100.out
              case measure => simp [intOf]; omega
      · have hj9 : j = 300 := by omega
        have Hlen := hide (show ¬ n ≤ 300 by omega)
        go_wp2_with fail
        all_goals
          go_ret
          refine ⟨_, rfl, ⟨_, rfl, fun h => ?_⟩, hb⟩
          simp at h
        try exact ⟨h.1, fun h3 => absurd h3 Hlen.out⟩
    · have hjn : j = n := by omega
      have z0 : ¬ (j : Int) < n := by omega
      have htk : L.take j = L := List.take_of_length_le (by rw [Hn.out]; omega)
      rw [htk] at hP
      clear htk
      go_wp2_with fail
      all_goals
        go_ret
        refine ⟨_, rfl, ⟨_, rfl, fun h => ?_⟩, hb⟩
        simp at h
      try exact ⟨h.1, fun _ => hP.out⟩
end Go.Proofs.Ytbjfmkdjnglgbaa
