/-
  Operations that came in, opened. No condition.
-/
import Derived.Test.YtbjfmkdjnglgbaaOpenOp
import Derived.Test.YtbjfmkdjnglgbaaCodeAll
import Derived.SizedLaws
namespace Go.Proofs.Ytbjfmkdjnglgbaa
open Go.Joins Go.ChangeShapes Go.WideShapes Go.ChangeAt Go.RowKit Go.Deep

theorem weightsAll_in {H : Type} {P : Program} {e : TypeId} : ∀ {l : List (DataW H)} {d : DataW H}, d ∈ l → ∀ n ∈ d.weights P e, n ∈ DataW.weightsAll P e l
  | d' :: r, d, hd, n, hn => by
    simp only [DataW.weightsAll, List.mem_append]
    rcases List.mem_cons.1 hd with rfl | h
    · exact Or.inl hn
    · exact Or.inr (weightsAll_in h n hn)
/-- What a slice's datum weighs. -/
theorem weight_slice {H : Type} {enc : TypeId × Value → H} {P : Program} {W : World} {base : Nat} {spare : Nat → Bool} {held : Bool} {t e : TypeId} {A : Option Addr} {n c : Nat} {y : DataW H × List MemPlace} {fuel N : Nat}
    (ht : P.underlying t = some (.slice e)) (hf : DataW.trod enc P W base spare held fuel t [.slice A n c] = some y) (hN : ∀ n ∈ y.1.weights P t, n ≤ N) : n * P.bytesOf e ≤ N := by
  rcases open_slice ht hf with ⟨hcs, _⟩ | ⟨x, l, c', m, n', D, Pl, hcs, _, hl, hm, hmm, hy, hx⟩
  · simp at hcs
    obtain ⟨-, rfl, -⟩ := hcs
    simp
  · simp only [List.cons.injEq, Value.slice.injEq, and_true] at hcs
    obtain ⟨-, rfl, -⟩ := hcs
    rw [hy] at hN
    have h := hN _ (by simp only [DataW.weights, ht]; exact List.mem_cons_self)
    refine Nat.le_trans ?_ h
    refine Nat.mul_le_mul_right _ ?_
    rw [List.length_map, List.length_range]
    exact Nat.le_add_right _ _
/-- An operation's cells. -/
theorem open_op_cs {H : Type} {enc : TypeId × Value → H} {P : Program} {W : World} {base : Nat} {spare : Nat → Bool} {held : Bool} {t e : TypeId} {f0 f1 f2 f3 g0 g1 k0 k1 k2 : Field} {cs : List Value} {y : DataW H × List MemPlace} {fuel : Nat}
    (hs : P.underlying t = some (.struct #[f0, f1, f2, f3])) (hC : P.cellsOf t = 5) (a0 : f0.offset = 0) (a1 : f1.offset = 1) (a2 : f2.offset = 3) (a3 : f3.offset = 4)
    (d0 : P.cellsOf f0.type = 1) (d1 : P.cellsOf f1.type = 2) (d2 : P.cellsOf f2.type = 1) (d3 : P.cellsOf f3.type = 1)
    (u0 : P.underlying f0.type = some (.int .u8)) (u1 : P.underlying f1.type = some (.struct #[g0, g1])) (ht : P.underlying f2.type = some (.slice e)) (u3 : P.underlying f3.type = some (.int .i64))
    (b0' : g0.offset = 0) (b1' : g1.offset = 1) (x0 : P.cellsOf g0.type = 1) (x1 : P.cellsOf g1.type = 1) (y0 : P.underlying g0.type = some (.int .u32)) (y1 : P.underlying g1.type = some (.int .u8))
    (he : P.underlying e = some (.struct #[k0, k1, k2])) (ce : P.cellsOf e = 3) (o0 : k0.offset = 0) (o1 : k1.offset = 1) (o2 : k2.offset = 2) (c0 : P.cellsOf k0.type = 1) (c1 : P.cellsOf k1.type = 1) (c2 : P.cellsOf k2.type = 1)
    (h0 : P.underlying k0.type = some (.int .u32)) (h1 : P.underlying k1.type = some (.int .u8)) (h2 : P.underlying k2.type = some (.int .i64))
    (hf : DataW.trod enc P W base spare held fuel t cs = some y) :
    ∃ x : OpL, cs = x.cells ∧ (0 ≤ x.k ∧ okI (x.t, x.r) ∧ ∀ q ∈ x.p, okR q) ∧ RR W W.heap.size x.A x.p ∧ (x.A = none → x.c = 0) ∧ ∀ N, (∀ n ∈ y.1.weights P t, n ≤ N) → x.p.length * P.bytesOf e ≤ N := by
  obtain ⟨xs, n, _, hy, hlen5, hlen, hg⟩ := DataW.trod_struct hs hf
  rw [hC] at hlen5
  match cs, hlen5 with
  | [v0, v1, v2, v3, v4], _ =>
  match xs, hlen with
  | [q0, q1, q2, q3], _ =>
    have j0 := hg 0 f0 rfl
    have j1 := hg 1 f1 rfl
    have j2 := hg 2 f2 rfl
    have j3 := hg 3 f3 rfl
    simp [a0, a1, a2, a3, d0, d1, d2, d3] at j0 j1 j2 j3
    obtain ⟨k, e0, -, w0⟩ := DataW.trod_int u0 j0
    obtain ⟨z, e3, -, w3⟩ := DataW.trod_int u3 j3
    obtain ⟨z0, z1, m, _, _, i0, i1⟩ := trod_struct2 u1 j1
    simp [b0', b1', x0, x1] at i0 i1
    obtain ⟨tt, e1, -, w1⟩ := DataW.trod_int y0 i0
    obtain ⟨rr, e2, -, w2⟩ := DataW.trod_int y1 i1
    simp only [List.cons.injEq, and_true] at e0 e1 e2 e3
    subst e0 e1 e2 e3
    obtain ⟨A, l, c, ea, hr, hc, hm, hw, hn⟩ := open_runs_cs ht he ce o0 o1 o2 c0 c1 c2 h0 h1 h2 j2
    simp only [List.cons.injEq, and_true] at ea
    subst ea
    simp [Lit.wf, IntKind.min, IntKind.max, IntKind.signed, IntKind.bits] at w0
    refine ⟨⟨k, tt, rr, A, c, l, z⟩, rfl, ⟨by simp only; omega, okI_of w1 w2, hw⟩, hr, hn, fun N hN => weight_slice ht j2 fun n hn => hN n ?_⟩
    rw [hy]
    simp only [DataW.weights, hs]
    exact DataW.weights_mem_each (j := 2) (t := f2.type) (d := q2.1) rfl rfl n hn

/-- A slice of operations. -/
theorem open_ops {H : Type} {enc : TypeId × Value → H} {P : Program} {W : World} {b0 base : Nat} {r : Reach} {spare : Nat → Bool} {held : Bool} {ts t e : TypeId} {f0 f1 f2 f3 g0 g1 k0 k1 k2 : Field} {v : Value} {d : DataW H} {p : List MemPlace}
    (hts : P.underlying ts = some (.slice t))
    (hs : P.underlying t = some (.struct #[f0, f1, f2, f3])) (hC : P.cellsOf t = 5) (a0 : f0.offset = 0) (a1 : f1.offset = 1) (a2 : f2.offset = 3) (a3 : f3.offset = 4)
    (d0 : P.cellsOf f0.type = 1) (d1 : P.cellsOf f1.type = 2) (d2 : P.cellsOf f2.type = 1) (d3 : P.cellsOf f3.type = 1)
    (u0 : P.underlying f0.type = some (.int .u8)) (u1 : P.underlying f1.type = some (.struct #[g0, g1])) (ht : P.underlying f2.type = some (.slice e)) (u3 : P.underlying f3.type = some (.int .i64))
    (b0' : g0.offset = 0) (b1' : g1.offset = 1) (x0 : P.cellsOf g0.type = 1) (x1 : P.cellsOf g1.type = 1) (y0 : P.underlying g0.type = some (.int .u32)) (y1 : P.underlying g1.type = some (.int .u8))
    (he : P.underlying e = some (.struct #[k0, k1, k2])) (ce : P.cellsOf e = 3) (o0 : k0.offset = 0) (o1 : k1.offset = 1) (o2 : k2.offset = 2) (c0 : P.cellsOf k0.type = 1) (c1 : P.cellsOf k1.type = 1) (c2 : P.cellsOf k2.type = 1)
    (h0 : P.underlying k0.type = some (.int .u32)) (h1 : P.underlying k1.type = some (.int .u8)) (h2 : P.underlying k2.type = some (.int .i64))
    (hv : Value.okWide P W r b0 ts v) (h : DataW.Trod enc P W base spare held ts v d p) :
    ∃ A L c, v = .slice A (List.length (α := OpL) L) c ∧ RO W W.heap.size A L ∧ L.length ≤ c ∧ c ≤ maxLen ∧ (A = none → c = 0) ∧ (∀ x ∈ L, 0 ≤ x.k ∧ okI (x.t, x.r) ∧ ∀ q ∈ x.p, okR q) ∧ (∀ N, (∀ n ∈ d.weights P ts, n ≤ N) → L.length * P.bytesOf t ≤ N ∧ ∀ x ∈ L, x.p.length * P.bytesOf e ≤ N) ∧ ∀ x ∈ L, x.A = none → x.c = 0 := by
  obtain ⟨A, n, c, rfl⟩ := okWide_slice hts hv
  obtain ⟨fuel, hf⟩ := h
  have hwt : ∀ N, (∀ n ∈ d.weights P ts, n ≤ N) → n * P.bytesOf t ≤ N := fun N hN => weight_slice hts (show DataW.trod enc P W base spare held fuel ts [.slice A n c] = some (d, p) by simpa [Value.cells] using hf) hN
  rcases open_slice hts hf with ⟨hcs, _⟩ | ⟨x, l, c', m, n', D, Pl, hcs, _, hl, hm, hmm, hy, hx⟩
  · simp [Value.cells] at hcs
    obtain ⟨rfl, rfl, rfl⟩ := hcs
    exact ⟨none, [], 0, rfl, ⟨RD.nil_, fun a ha => by cases ha⟩, Nat.le_refl _, Nat.zero_le _, fun _ => rfl, fun a ha => (by cases ha), fun N hN => ⟨hwt N hN, fun a ha => by cases ha⟩, fun a ha => by cases ha⟩
  · simp [Value.cells] at hcs
    obtain ⟨rfl, rfl, rfl⟩ := hcs
    have hnm : n ≤ m := by rw [hmm]; split <;> omega
    have hel : ∀ i, ∃ q : OpL, i < n → (∀ k, k < 5 → ∀ u, q.cells[k]? = some u → W.cell? (x.add (i * 5 + k)) = some u) ∧ (0 ≤ q.k ∧ okI (q.t, q.r) ∧ ∀ w ∈ q.p, okR w) ∧ RR W W.heap.size q.A q.p ∧ (q.A = none → q.c = 0) ∧ ∀ N, (∀ n ∈ (D i).weights P t, n ≤ N) → q.p.length * P.bytesOf e ≤ N := by
      intro i
      by_cases hi : i < n
      · obtain ⟨cs', k1', k2'⟩ := hx i (by omega)
        rw [hC] at k1'
        obtain ⟨_, hlen, hcell⟩ := World.cells?_some k1'
        obtain ⟨q, rfl, q1, q2, q4, q3⟩ := open_op_cs hs hC a0 a1 a2 a3 d0 d1 d2 d3 u0 u1 ht u3 b0' b1' x0 x1 y0 y1 he ce o0 o1 o2 c0 c1 c2 h0 h1 h2 k2'
        refine ⟨q, fun _ => ⟨fun k hk u hu => ?_, q1, q2, q4, q3⟩⟩
        have e := hcell k (by omega)
        rw [add_add] at e
        rw [e]
        simpa using hu
      · exact ⟨⟨0, 0, 0, none, 0, [], 0⟩, fun h => absurd h hi⟩
    obtain ⟨F, hF⟩ := Classical.axiomOfChoice hel
    refine ⟨some x, (List.range n).map F, c, by simp, ⟨?_, ?_⟩, by simpa using hl, hm, fun h => (by cases h), ?_, fun N hN => ⟨by simpa using hwt N hN, ?_⟩, ?_⟩
    · rw [List.length_map, List.length_range]
      refine ⟨by rw [opcs_len]; simp, fun hn => ?_⟩
      obtain ⟨k0', -⟩ := hF 0 hn
      have k0'' := k0' 0 (by decide) _ rfl
      have hsp : x.spot = none := by
        have := World.cell?_spot k0''
        simpa [Addr.add] using this
      obtain ⟨bk, off, spot⟩ := x
      simp only at hsp
      subst hsp
      refine ⟨bk, off, rfl, by have := World.block_lt_of_cell? W _ k0''; simpa [Addr.add] using this, fun j u hu => ?_⟩
      have hj : j < n * 5 := by
        have := (List.getElem?_eq_some_iff.1 hu).1
        rw [opcs_len] at this
        simpa using this
      have hi : j / 5 < n := by omega
      have hj5 : j / 5 * 5 + j % 5 = j := by omega
      have hg := opcs_get ((List.range n).map F) (j / 5) (by simpa using hi) (j % 5) (by omega)
      rw [hj5] at hg
      have hk := (hF (j / 5) hi).1 (j % 5) (by omega) u (by
        rw [hg] at hu
        simpa using hu)
      rw [hj5, add_none] at hk
      exact hk
    · intro a ha
      simp only [List.mem_map, List.mem_range] at ha
      obtain ⟨i, hi, rfl⟩ := ha
      exact (hF i hi).2.2.1
    · intro a ha
      simp only [List.mem_map, List.mem_range] at ha
      obtain ⟨i, hi, rfl⟩ := ha
      exact (hF i hi).2.1
    · intro a ha
      simp only [List.mem_map, List.mem_range] at ha
      obtain ⟨i, hi, rfl⟩ := ha
      refine (hF i hi).2.2.2.2 N fun n hn => hN n ?_
      simp only [Prod.mk.injEq] at hy
      rw [hy.1]
      simp only [DataW.weights, hts, List.mem_cons, List.mem_append]
      exact .inr (.inl (weightsAll_in (List.mem_map.2 ⟨i, List.mem_range.2 hi, rfl⟩) n hn))
    · intro a ha
      simp only [List.mem_map, List.mem_range] at ha
      obtain ⟨i, hi, rfl⟩ := ha
      exact (hF i hi).2.2.2.1
end Go.Proofs.Ytbjfmkdjnglgbaa
