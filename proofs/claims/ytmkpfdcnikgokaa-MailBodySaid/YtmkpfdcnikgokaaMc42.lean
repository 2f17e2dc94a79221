/-
  Texts of this claim, put together: OpenOp, OpenOps. What each theorem asks stands in its statement.
-/
import Derived.SizedLaws
import Derived.Test.YtmkpfdcnikgokaaMc13
import Derived.Test.YtmkpfdcnikgokaaMc41
set_option linter.unusedVariables false
set_option linter.unusedSimpArgs false
namespace Go.Proofs.Ytmkpfdcnikgokaa
open Go.Joins Go.ChangeShapes Go.WideShapes Go.ChangeAt Go.RowKit Go.Deep
/-- A slice of runs in cells. -/
theorem open_runs_cs {H : Type} {enc : TypeId × Value → H} {P : Program} {W : World} {base : Nat} {spare : Nat → Bool} {held : Bool} {t e : TypeId} {f0 f1 f2 : Field} {cs : List Value} {y : DataW H × List MemPlace} {fuel : Nat}
    (ht : P.underlying t = some (.slice e)) (he : P.underlying e = some (.struct #[f0, f1, f2])) (ce : P.cellsOf e = 3) (o0 : f0.offset = 0) (o1 : f1.offset = 1) (o2 : f2.offset = 2) (c0 : P.cellsOf f0.type = 1) (c1 : P.cellsOf f1.type = 1) (c2 : P.cellsOf f2.type = 1)
    (h0 : P.underlying f0.type = some (.int .u32)) (h1 : P.underlying f1.type = some (.int .u8)) (h2 : P.underlying f2.type = some (.int .i64)) (hf : DataW.trod enc P W base spare held fuel t cs = some y) :
    ∃ A l c, cs = [.slice A (List.length (α := Rn) l) c] ∧ RR W W.heap.size A l ∧ l.length ≤ c ∧ c ≤ maxLen ∧ (∀ x ∈ l, okR x) ∧ (A = none → c = 0) := by
  rcases open_slice ht hf with ⟨hcs, _⟩ | ⟨x, n, c, m, n', D, Pl, hcs, _, hl, hm, hmm, _, hx⟩
  · subst hcs
    exact ⟨none, [], 0, rfl, RD.nil_, Nat.le_refl _, Nat.zero_le _, fun a ha => (by cases ha), fun _ => rfl⟩
  · subst hcs
    have hnm : n ≤ m := by rw [hmm]; split <;> omega
    have hel : ∀ i, ∃ q : Rn, i < n → okR q ∧ W.cell? (x.add (i * 3)) = some (.int .u32 q.1) ∧ W.cell? (x.add (i * 3 + 1)) = some (.int .u8 q.2.1) ∧ W.cell? (x.add (i * 3 + 2)) = some (.int .i64 q.2.2) := by
      intro i
      by_cases hi : i < n
      · obtain ⟨cs', k1, k2⟩ := hx i (by omega)
        rw [ce] at k1
        obtain ⟨_, hlen, hcell⟩ := World.cells?_some k1
        obtain ⟨xs, k, hk, hxy, _, hxl, hg⟩ := DataW.trod_struct he k2
        match xs, hxl, cs', hlen with
        | [y0, y1, y2], _, [v0, v1, v2], _ =>
          have g0 := hg 0 f0 rfl
          have g1 := hg 1 f1 rfl
          have g2 := hg 2 f2 rfl
          simp [o0, o1, o2, c0, c1, c2] at g0 g1 g2
          have e0 := hcell 0 (by omega)
          have e1 := hcell 1 (by omega)
          have e2 := hcell 2 (by omega)
          rw [add_add] at e0 e1 e2
          obtain ⟨a, q0, -, wa⟩ := DataW.trod_int h0 g0
          obtain ⟨b, q1, -, wb⟩ := DataW.trod_int h1 g1
          obtain ⟨d, q2, -, wd⟩ := DataW.trod_int h2 g2
          simp only [List.cons.injEq, and_true] at q0 q1 q2
          subst q0 q1 q2
          exact ⟨(a, b, d), fun _ => ⟨okR_of wa wb wd, by simpa using e0, by simpa using e1, by simpa using e2⟩⟩
      · exact ⟨(0, 0, 0), fun h => absurd h hi⟩
    obtain ⟨F, hF⟩ := Classical.axiomOfChoice hel
    refine ⟨some x, (List.range n).map F, c, by simp, ?_, by simpa using hl, hm, ?_, fun h => (by cases h)⟩
    · unfold RR
      rw [List.length_map, List.length_range]
      refine ⟨by rw [rns_len]; simp, fun hn => ?_⟩
      obtain ⟨_, k0, _⟩ := hF 0 hn
      have hsp : x.spot = none := by
        have := World.cell?_spot k0
        simpa [Addr.add] using this
      obtain ⟨bk, off, spot⟩ := x
      simp only at hsp
      subst hsp
      refine ⟨bk, off, rfl, by have := World.block_lt_of_cell? W _ k0; simpa [Addr.add] using this, fun j u hu => ?_⟩
      have hj : j < n * 3 := by
        have := (List.getElem?_eq_some_iff.1 hu).1
        rw [rns_len] at this
        simpa using this
      have hi : j / 3 < n := by omega
      obtain ⟨_, k0, k1, k2⟩ := hF (j / 3) hi
      obtain ⟨g0, g1, g2⟩ := rns_get ((List.range n).map F) (j / 3) (by simpa using hi)
      simp only [List.getElem_map, List.getElem_range] at g0 g1 g2
      rw [add_none] at k0 k1 k2
      have hmod : j % 3 = 0 ∨ j % 3 = 1 ∨ j % 3 = 2 := by omega
      rcases hmod with hp | hp | hp
      · have e : j / 3 * 3 = j := by omega
        rw [e] at k0 g0
        rw [k0, ← hu, g0]
      · have e : j / 3 * 3 + 1 = j := by omega
        rw [e] at k1 g1
        rw [k1, ← hu, g1]
      · have e : j / 3 * 3 + 2 = j := by omega
        rw [e] at k2 g2
        rw [k2, ← hu, g2]
    · intro a ha
      simp only [List.mem_map, List.mem_range] at ha
      obtain ⟨i, hi, rfl⟩ := ha
      exact (hF i hi).1
end Go.Proofs.Ytmkpfdcnikgokaa
namespace Go.Proofs.Ytmkpfdcnikgokaa
open Go.Joins Go.ChangeShapes Go.WideShapes Go.ChangeAt Go.RowKit Go.Deep
theorem weightsAll_in {H : Type} {P : Program} {e : TypeId} : ∀ {l : List (DataW H)} {d : DataW H}, d ∈ l → ∀ n ∈ d.weights P e, n ∈ DataW.weightsAll P e l
  | d' :: r, d, hd, n, hn => by
    simp only [DataW.weightsAll, List.mem_append]
    rcases List.mem_cons.1 hd with rfl | h
    · exact Or.inl hn
    · exact Or.inr (weightsAll_in h n hn)
/-- What a slice's datum weighs. -/
theorem weight_slice {H : Type} {enc : TypeId × Value → H} {P : Program} {W : World} {base : Nat} {spare : Nat → Bool} {held : Bool} {t e : TypeId} {A : Option Addr} {n c : Nat} {y : DataW H × List MemPlace} {fuel N : Nat}
    (ht : P.underlying t = some (.slice e)) (hf : DataW.trod enc P W base spare held fuel t [.slice A n c] = some y) (hN : ∀ n ∈ y.1.weights P t, n ≤ N) : n * P.bytesOf e ≤ N := by
  rcases open_slice ht hf with ⟨hcs, _⟩ | ⟨x, l, c', m, n', D, Pl, hcs, _, hl, hm, hmm, hy, hx⟩
  · simp at hcs
    obtain ⟨-, rfl, -⟩ := hcs
    simp
  · simp only [List.cons.injEq, Value.slice.injEq, and_true] at hcs
    obtain ⟨-, rfl, -⟩ := hcs
    rw [hy] at hN
    have h := hN _ (by simp only [DataW.weights, ht]; exact List.mem_cons_self)
    refine Nat.le_trans ?_ h
    refine Nat.mul_le_mul_right _ ?_
    rw [List.length_map, List.length_range]
    exact Nat.le_add_right _ _
/-- An operation's cells. -/
theorem open_op_cs {H : Type} {enc : TypeId × Value → H} {P : Program} {W : World} {base : Nat} {spare : Nat → Bool} {held : Bool} {t e : TypeId} {f0 f1 f2 f3 g0 g1 k0 k1 k2 : Field} {cs : List Value} {y : DataW H × List MemPlace} {fuel : Nat}
    (hs : P.underlying t = some (.struct #[f0, f1, f2, f3])) (hC : P.cellsOf t = 5) (a0 : f0.offset = 0) (a1 : f1.offset = 1) (a2 : f2.offset = 3) (a3 : f3.offset = 4)
    (d0 : P.cellsOf f0.type = 1) (d1 : P.cellsOf f1.type = 2) (d2 : P.cellsOf f2.type = 1) (d3 : P.cellsOf f3.type = 1)
    (u0 : P.underlying f0.type = some (.int .u8)) (u1 : P.underlying f1.type = some (.struct #[g0, g1])) (ht : P.underlying f2.type = some (.slice e)) (u3 : P.underlying f3.type = some (.int .i64))
    (b0' : g0.offset = 0) (b1' : g1.offset = 1) (x0 : P.cellsOf g0.type = 1) (x1 : P.cellsOf g1.type = 1) (y0 : P.underlying g0.type = some (.int .u32)) (y1 : P.underlying g1.type = some (.int .u8))
    (he : P.underlying e = some (.struct #[k0, k1, k2])) (ce : P.cellsOf e = 3) (o0 : k0.offset = 0) (o1 : k1.offset = 1) (o2 : k2.offset = 2) (c0 : P.cellsOf k0.type = 1) (c1 : P.cellsOf k1.type = 1) (c2 : P.cellsOf k2.type = 1)
    (h0 : P.underlying k0.type = some (.int .u32)) (h1 : P.underlying k1.type = some (.int .u8)) (h2 : P.underlying k2.type = some (.int .i64))
    (hf : DataW.trod enc P W base spare held fuel t cs = some y) :
    ∃ x : OpL, cs = x.cells ∧ (0 ≤ x.k ∧ okI (x.t, x.r) ∧ ∀ q ∈ x.p, okR q) ∧ RR W W.heap.size x.A x.p ∧ (x.A = none → x.c = 0) ∧ ∀ N, (∀ n ∈ y.1.weights P t, n ≤ N) → x.p.length * P.bytesOf e ≤ N := by
  obtain ⟨xs, n, _, hy, hlen5, hlen, hg⟩ := DataW.trod_struct hs hf
  rw [hC] at hlen5
  match cs, hlen5 with
  | [v0, v1, v2, v3, v4], _ =>
  match xs, hlen with
  | [q0, q1, q2, q3], _ =>
    have j0 := hg 0 f0 rfl
    have j1 := hg 1 f1 rfl
    have j2 := hg 2 f2 rfl
    have j3 := hg 3 f3 rfl
    simp [a0, a1, a2, a3, d0, d1, d2, d3] at j0 j1 j2 j3
    obtain ⟨k, e0, -, w0⟩ := DataW.trod_int u0 j0
    obtain ⟨z, e3, -, w3⟩ := DataW.trod_int u3 j3
    obtain ⟨z0, z1, m, _, _, i0, i1⟩ := trod_struct2 u1 j1
    simp [b0', b1', x0, x1] at i0 i1
    obtain ⟨tt, e1, -, w1⟩ := DataW.trod_int y0 i0
    obtain ⟨rr, e2, -, w2⟩ := DataW.trod_int y1 i1
    simp only [List.cons.injEq, and_true] at e0 e1 e2 e3
    subst e0 e1 e2 e3
    obtain ⟨A, l, c, ea, hr, hc, hm, hw, hn⟩ := open_runs_cs ht he ce o0 o1 o2 c0 c1 c2 h0 h1 h2 j2
    simp only [List.cons.injEq, and_true] at ea
    subst ea
    simp [Lit.wf, IntKind.min, IntKind.max, IntKind.signed, IntKind.bits] at w0
    refine ⟨⟨k, tt, rr, A, c, l, z⟩, rfl, ⟨by simp only; omega, okI_of w1 w2, hw⟩, hr, hn, fun N hN => weight_slice ht j2 fun n hn => hN n ?_⟩
    rw [hy]
    simp only [DataW.weights, hs]
    exact DataW.weights_mem_each (j := 2) (t := f2.type) (d := q2.1) rfl rfl n hn
end Go.Proofs.Ytmkpfdcnikgokaa
