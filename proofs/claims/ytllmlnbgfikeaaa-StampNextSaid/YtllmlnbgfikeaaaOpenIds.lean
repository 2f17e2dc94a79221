/-
  Stamps that came in, opened. No condition.
-/
import Derived.Test.YtllmlnbgfikeaaaOpenMore
import Derived.Test.YtllmlnbgfikeaaaStampNext
import Derived.Lib.SmallJoins
import Derived.Deep.SlicePairs
namespace Go.Proofs.Ytllmlnbgfikeaaa
open Go.Joins Go.ChangeShapes Go.WideShapes Go.ChangeAt Go.RowKit Go.Deep

theorem okI_of {t r : Int} (h1 : (Lit.int .u32 t).wf = true) (h2 : (Lit.int .u8 r).wf = true) : okI (t, r) := by
  simp [Lit.wf, IntKind.min, IntKind.max, IntKind.signed, IntKind.bits] at h1 h2
  unfold okI
  simp only
  omega

/-- A stamp by value. -/
theorem open_id {H : Type} {enc : TypeId × Value → H} {P : Program} {W : World} {b0 base : Nat} {r : Reach} {spare : Nat → Bool} {held : Bool} {t : TypeId} {f0 f1 : Field} {v : Value} {d : DataW H} {p : List MemPlace}
    (hs : P.underlying t = some (.struct #[f0, f1])) (h0 : P.underlying f0.type = some (.int .u32)) (h1 : P.underlying f1.type = some (.int .u8)) (hone : oneCellFields P #[f0, f1] = true) (hC : P.cellsOf t = 2)
    (hv : Value.okWide P W r b0 t v) (h : DataW.Trod enc P W base spare held t v d p) : ∃ a b, v = .agg #[.int .u32 a, .int .u8 b] ∧ okI (a, b) := by
  obtain ⟨v0, v1, y0, y1, n, rfl, -, -, g0, g1⟩ := open_agg2 hs hone hC hv h
  obtain ⟨a, e0, -, wa⟩ := DataW.trod_int h0 g0
  obtain ⟨b, e1, -, wb⟩ := DataW.trod_int h1 g1
  simp only [List.cons.injEq, and_true] at e0 e1
  subst e0 e1
  exact ⟨a, b, rfl, okI_of wa wb⟩

/-- A slice of stamps. -/
theorem open_ids {H : Type} {enc : TypeId × Value → H} {P : Program} {W : World} {b0 base : Nat} {r : Reach} {spare : Nat → Bool} {held : Bool} {t e : TypeId} {f0 f1 : Field} {v : Value} {d : DataW H} {p : List MemPlace}
    (ht : P.underlying t = some (.slice e)) (he : P.underlying e = some (.struct #[f0, f1])) (ce : P.cellsOf e = 2) (o0 : f0.offset = 0) (o1 : f1.offset = 1) (c0 : P.cellsOf f0.type = 1) (c1 : P.cellsOf f1.type = 1)
    (h0 : P.underlying f0.type = some (.int .u32)) (h1 : P.underlying f1.type = some (.int .u8)) (hv : Value.okWide P W r b0 t v) (h : DataW.Trod enc P W base spare held t v d p) :
    ∃ A l c, v = .slice A (List.length (α := Int × Int) l) c ∧ RI W W.heap.size A l ∧ l.length ≤ c ∧ c ≤ maxLen ∧ ∀ a ∈ l, okI a := by
  obtain ⟨A, n, c, rfl⟩ := okWide_slice ht hv
  obtain ⟨fuel, hf⟩ := h
  rcases open_slice_pairs ht he ce o0 o1 c0 c1 hf with ⟨hcs, _⟩ | ⟨x, l, c', m, n', V0, V1, D0, D1, P0, P1, hcs, _, hl, hm, hmm, _, hcell⟩
  · simp [Value.cells] at hcs
    obtain ⟨rfl, rfl, rfl⟩ := hcs
    exact ⟨none, [], 0, rfl, RD.nil_, Nat.le_refl _, Nat.zero_le _, fun a ha => by cases ha⟩
  · simp [Value.cells] at hcs
    obtain ⟨rfl, rfl, rfl⟩ := hcs
    have hnm : n ≤ m := by rw [hmm]; split <;> omega
    have hel : ∀ i, ∃ q : Int × Int, i < n → okI q ∧ W.cell? (x.add (i * 2)) = some (.int .u32 q.1) ∧ W.cell? (x.add (i * 2 + 1)) = some (.int .u8 q.2) := by
      intro i
      by_cases hi : i < n
      · obtain ⟨k0, k1, g0, g1⟩ := hcell i (by omega)
        obtain ⟨a, e0, -, wa⟩ := DataW.trod_int h0 g0
        obtain ⟨b, e1, -, wb⟩ := DataW.trod_int h1 g1
        simp only [List.cons.injEq, and_true] at e0 e1
        exact ⟨(a, b), fun _ => ⟨okI_of wa wb, by rw [k0, e0], by rw [k1, e1]⟩⟩
      · exact ⟨(0, 0), fun h => absurd h hi⟩
    obtain ⟨F, hF⟩ := Classical.axiomOfChoice hel
    refine ⟨some x, (List.range n).map F, c, by simp, ?_, by simpa using hl, hm, ?_⟩
    · unfold RI
      rw [List.length_map, List.length_range]
      refine ⟨by rw [ids_len]; simp, fun hn => ?_⟩
      obtain ⟨_, k0, _⟩ := hF 0 hn
      have hsp : x.spot = none := by
        have := World.cell?_spot k0
        simpa [Addr.add] using this
      obtain ⟨bk, off, spot⟩ := x
      simp only at hsp
      subst hsp
      refine ⟨bk, off, rfl, by have := World.block_lt_of_cell? W _ k0; simpa [Addr.add] using this, fun j u hu => ?_⟩
      have hj : j < n * 2 := by
        have := (List.getElem?_eq_some_iff.1 hu).1
        rw [ids_len] at this
        simpa using this
      have hi : j / 2 < n := by omega
      obtain ⟨_, k0, k1⟩ := hF (j / 2) hi
      obtain ⟨g0, g1⟩ := ids_get ((List.range n).map F) (j / 2) (by simpa using hi)
      simp only [List.getElem_map, List.getElem_range] at g0 g1
      rw [add_none] at k0 k1
      rcases Nat.mod_two_eq_zero_or_one j with hp | hp
      · have e : j / 2 * 2 = j := by omega
        rw [e] at k0 g0
        rw [k0, ← hu, g0]
      · have e : j / 2 * 2 + 1 = j := by omega
        rw [e] at k1 g1
        rw [k1, ← hu, g1]
    · intro a ha
      simp only [List.mem_map, List.mem_range] at ha
      obtain ⟨i, hi, rfl⟩ := ha
      exact (hF i hi).1
end Go.Proofs.Ytllmlnbgfikeaaa
