/-
  Runs that came in, opened. No condition.
-/
import Derived.Test.YtbjfmkdjnglgbaaOpenMore
import Derived.Test.YtbjfmkdjnglgbaaPlaceBase
import Derived.Lib.SmallJoins
import Derived.Deep.SlicePairs
namespace Go.Proofs.Ytbjfmkdjnglgbaa
open Go.Joins Go.ChangeShapes Go.WideShapes Go.ChangeAt Go.RowKit Go.Deep

theorem okR_of {t r m : Int} (h1 : (Lit.int .u32 t).wf = true) (h2 : (Lit.int .u8 r).wf = true) (h3 : (Lit.int .i64 m).wf = true) : okR (t, r, m) := by
  simp [Lit.wf, IntKind.min, IntKind.max, IntKind.signed, IntKind.bits] at h1 h2 h3
  unfold okR
  simp only
  omega
theorem okI_of {t r : Int} (h1 : (Lit.int .u32 t).wf = true) (h2 : (Lit.int .u8 r).wf = true) : okI (t, r) := by
  simp [Lit.wf, IntKind.min, IntKind.max, IntKind.signed, IntKind.bits] at h1 h2
  unfold okI
  simp only
  omega
/-- A stamp by value. -/
theorem open_id {H : Type} {enc : TypeId × Value → H} {P : Program} {W : World} {b0 base : Nat} {r : Reach} {spare : Nat → Bool} {held : Bool} {t : TypeId} {f0 f1 : Field} {v : Value} {d : DataW H} {p : List MemPlace}
    (hs : P.underlying t = some (.struct #[f0, f1])) (h0 : P.underlying f0.type = some (.int .u32)) (h1 : P.underlying f1.type = some (.int .u8)) (hone : oneCellFields P #[f0, f1] = true) (hC : P.cellsOf t = 2)
    (hv : Value.okWide P W r b0 t v) (h : DataW.Trod enc P W base spare held t v d p) : ∃ a b, v = .agg #[.int .u32 a, .int .u8 b] ∧ okI (a, b) := by
  obtain ⟨v0, v1, y0, y1, n, rfl, -, -, g0, g1⟩ := open_agg2 hs hone hC hv h
  obtain ⟨a, e0, -, wa⟩ := DataW.trod_int h0 g0
  obtain ⟨b, e1, -, wb⟩ := DataW.trod_int h1 g1
  simp only [List.cons.injEq, and_true] at e0 e1
  subst e0 e1
  exact ⟨a, b, rfl, okI_of wa wb⟩

/-- A slice of runs. -/
theorem open_runs {H : Type} {enc : TypeId × Value → H} {P : Program} {W : World} {b0 base : Nat} {r : Reach} {spare : Nat → Bool} {held : Bool} {t e : TypeId} {f0 f1 f2 : Field} {v : Value} {d : DataW H} {p : List MemPlace}
    (ht : P.underlying t = some (.slice e)) (he : P.underlying e = some (.struct #[f0, f1, f2])) (ce : P.cellsOf e = 3) (o0 : f0.offset = 0) (o1 : f1.offset = 1) (o2 : f2.offset = 2) (c0 : P.cellsOf f0.type = 1) (c1 : P.cellsOf f1.type = 1) (c2 : P.cellsOf f2.type = 1)
    (h0 : P.underlying f0.type = some (.int .u32)) (h1 : P.underlying f1.type = some (.int .u8)) (h2 : P.underlying f2.type = some (.int .i64)) (hv : Value.okWide P W r b0 t v) (h : DataW.Trod enc P W base spare held t v d p) :
    ∃ A l c, v = .slice A (List.length (α := Rn) l) c ∧ RR W W.heap.size A l ∧ l.length ≤ c ∧ c ≤ maxLen ∧ (∀ x ∈ l, okR x) ∧ (A = none → c = 0) := by
  obtain ⟨A, n, c, rfl⟩ := okWide_slice ht hv
  obtain ⟨fuel, hf⟩ := h
  rcases open_slice ht hf with ⟨hcs, _⟩ | ⟨x, l, c', m, n', D, Pl, hcs, _, hl, hm, hmm, _, hx⟩
  · simp [Value.cells] at hcs
    obtain ⟨rfl, rfl, rfl⟩ := hcs
    exact ⟨none, [], 0, rfl, RD.nil_, Nat.le_refl _, Nat.zero_le _, fun a ha => (by cases ha), fun _ => rfl⟩
  · simp [Value.cells] at hcs
    obtain ⟨rfl, rfl, rfl⟩ := hcs
    have hnm : n ≤ m := by rw [hmm]; split <;> omega
    have hel : ∀ i, ∃ q : Rn, i < n → okR q ∧ W.cell? (x.add (i * 3)) = some (.int .u32 q.1) ∧ W.cell? (x.add (i * 3 + 1)) = some (.int .u8 q.2.1) ∧ W.cell? (x.add (i * 3 + 2)) = some (.int .i64 q.2.2) := by
      intro i
      by_cases hi : i < n
      · obtain ⟨cs', k1, k2⟩ := hx i (by omega)
        rw [ce] at k1
        obtain ⟨_, hlen, hcell⟩ := World.cells?_some k1
        obtain ⟨xs, k, hk, hxy, _, hxl, hg⟩ := DataW.trod_struct he k2
        match xs, hxl, cs', hlen with
        | [y0, y1, y2], _, [v0, v1, v2], _ =>
          have g0 := hg 0 f0 rfl
          have g1 := hg 1 f1 rfl
          have g2 := hg 2 f2 rfl
          simp [o0, o1, o2, c0, c1, c2] at g0 g1 g2
          have e0 := hcell 0 (by omega)
          have e1 := hcell 1 (by omega)
          have e2 := hcell 2 (by omega)
          rw [add_add] at e0 e1 e2
          obtain ⟨a, q0, -, wa⟩ := DataW.trod_int h0 g0
          obtain ⟨b, q1, -, wb⟩ := DataW.trod_int h1 g1
          obtain ⟨d, q2, -, wd⟩ := DataW.trod_int h2 g2
          simp only [List.cons.injEq, and_true] at q0 q1 q2
          subst q0 q1 q2
          exact ⟨(a, b, d), fun _ => ⟨okR_of wa wb wd, by simpa using e0, by simpa using e1, by simpa using e2⟩⟩
      · exact ⟨(0, 0, 0), fun h => absurd h hi⟩
    obtain ⟨F, hF⟩ := Classical.axiomOfChoice hel
    refine ⟨some x, (List.range n).map F, c, by simp, ?_, by simpa using hl, hm, ?_, fun h => (by cases h)⟩
    · unfold RR
      rw [List.length_map, List.length_range]
      refine ⟨by rw [rns_len]; simp, fun hn => ?_⟩
      obtain ⟨_, k0, _⟩ := hF 0 hn
      have hsp : x.spot = none := by
        have := World.cell?_spot k0
        simpa [Addr.add] using this
      obtain ⟨bk, off, spot⟩ := x
      simp only at hsp
      subst hsp
      refine ⟨bk, off, rfl, by have := World.block_lt_of_cell? W _ k0; simpa [Addr.add] using this, fun j u hu => ?_⟩
      have hj : j < n * 3 := by
        have := (List.getElem?_eq_some_iff.1 hu).1
        rw [rns_len] at this
        simpa using this
      have hi : j / 3 < n := by omega
      obtain ⟨_, k0, k1, k2⟩ := hF (j / 3) hi
      obtain ⟨g0, g1, g2⟩ := rns_get ((List.range n).map F) (j / 3) (by simpa using hi)
      simp only [List.getElem_map, List.getElem_range] at g0 g1 g2
      rw [add_none] at k0 k1 k2
      have hmod : j % 3 = 0 ∨ j % 3 = 1 ∨ j % 3 = 2 := by omega
      rcases hmod with hp | hp | hp
      · have e : j / 3 * 3 = j := by omega
        rw [e] at k0 g0
        rw [k0, ← hu, g0]
      · have e : j / 3 * 3 + 1 = j := by omega
        rw [e] at k1 g1
        rw [k1, ← hu, g1]
      · have e : j / 3 * 3 + 2 = j := by omega
        rw [e] at k2 g2
        rw [k2, ← hu, g2]
    · intro a ha
      simp only [List.mem_map, List.mem_range] at ha
      obtain ⟨i, hi, rfl⟩ := ha
      exact (hF i hi).1
end Go.Proofs.Ytbjfmkdjnglgbaa
