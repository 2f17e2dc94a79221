/-
  Lists of frames that came in, opened. No condition.
-/
import Derived.Test.YtmkpfdcnikgokaaOpen
import Derived.Test.YtmkpfdcnikgokaaLinkMath
import Derived.Deep.Slices
namespace Go.Proofs.Ytmkpfdcnikgokaa
open Go.ChangeShapes Go.WideShapes Go.ChangeAt Go.RowKit Go.Deep

/-- A slice of bytes in cells. -/
theorem open_bytes_cs {H : Type} {enc : TypeId × Value → H} {P : Program} {W : World} {base : Nat} {spare : Nat → Bool} {held : Bool} {t e : TypeId} {cs : List Value} {y : DataW H × List MemPlace} {fuel : Nat}
    (ht : P.underlying t = some (.slice e)) (he : P.underlying e = some (.int .u8)) (hC : P.cellsOf e = 1) (hf : DataW.trod enc P W base spare held fuel t cs = some y) :
    ∃ x : FrL, cs = [x.cell] ∧ RB W W.heap.size x.A x.b ∧ x.b.length ≤ x.c ∧ x.c ≤ maxLen ∧ (x.A = none → x.c = 0) := by
  rcases open_ints ht he hC hf with ⟨hcs, _⟩ | ⟨x, l, c', zs, hcs, _, hl, hm, hz, _, hcell, hwz⟩
  · exact ⟨⟨none, 0, []⟩, by simpa [FrL.cell] using hcs, RD.nil_, Nat.le_refl _, Nat.zero_le _, fun _ => rfl⟩
  · have hle : l ≤ zs.length := by rw [hz]; split <;> omega
    have hb : ∀ n : Int, (Lit.int .u8 n).wf = true → ((UInt8.ofNat n.toNat).toNat : Int) = n := by
      intro k hn
      simp [Lit.wf, IntKind.min, IntKind.max, IntKind.signed, IntKind.bits] at hn
      rw [UInt8.toNat_ofNat', Nat.mod_eq_of_lt (by omega)]
      omega
    have hlen : ((zs.take l).map (fun n => UInt8.ofNat n.toNat)).length = l := by simp [Nat.min_eq_left hle]
    refine ⟨⟨some x, c', (zs.take l).map (fun n => UInt8.ofNat n.toNat)⟩, ?_, ?_, by simp only [hlen]; exact hl, hm, fun h => by cases h⟩
    · simp only [FrL.cell, hlen]
      exact hcs
    · refine ⟨by simp [u8s_len], fun hn => ?_⟩
      simp only [hlen] at hn
      have h0 := hcell 0 (by omega)
      have hsp : x.spot = none := by
        have := World.cell?_spot h0
        simpa [Addr.add] using this
      obtain ⟨b, off, spot⟩ := x
      simp only at hsp
      subst hsp
      refine ⟨b, off, rfl, by have := World.block_lt_of_cell? W _ h0; simpa [Addr.add] using this, fun j u hu => ?_⟩
      have hj : j < l := by
        have := (List.getElem?_eq_some_iff.1 hu).1
        simp [u8s_len] at this
        omega
      have hc := hcell j (by omega)
      rw [add_none] at hc
      rw [hc, ← hu]
      have hjz : j < zs.length := by omega
      simp only [u8s, List.map_map, List.getElem?_map, List.getElem?_take, if_pos hj, List.getElem?_eq_getElem hjz, List.getD_eq_getElem?_getD, Option.getD_some, Option.map_some, Function.comp]
      rw [hb _ (hwz _ (List.getElem_mem hjz))]
instance : Inhabited FrL := ⟨⟨none, 0, []⟩⟩
/-- A slice of slices of bytes. -/
theorem open_frs {H : Type} {enc : TypeId × Value → H} {P : Program} {W : World} {b0 base : Nat} {r : Reach} {spare : Nat → Bool} {held : Bool} {t e q : TypeId} {v : Value} {d : DataW H} {p : List MemPlace}
    (ht : P.underlying t = some (.slice e)) (he : P.underlying e = some (.slice q)) (hq : P.underlying q = some (.int .u8)) (ce : P.cellsOf e = 1) (cq : P.cellsOf q = 1) (hv : Value.okWide P W r b0 t v) (h : DataW.Trod enc P W base spare held t v d p) :
    ∃ A L c, v = .slice A (List.length (α := FrL) L) c ∧ RF W W.heap.size A L ∧ L.length ≤ c ∧ c ≤ maxLen ∧ (A = none → c = 0) ∧ ∀ x ∈ L, x.b.length ≤ x.c ∧ x.c ≤ maxLen ∧ (x.A = none → x.c = 0) := by
  obtain ⟨A, n, c, rfl⟩ := okWide_slice ht hv
  obtain ⟨fuel, hf⟩ := h
  rcases open_slice1 ht ce hf with ⟨hcs, _⟩ | ⟨a, len, cap, m, n', V, D, Pl, hcs, _, hl, hm, hmm, _, hx⟩
  · simp [Value.cells] at hcs
    obtain ⟨rfl, rfl, rfl⟩ := hcs
    exact ⟨none, [], 0, rfl, RF.nil _ _ _, Nat.le_refl _, Nat.zero_le _, fun _ => rfl, fun x hx => by cases hx⟩
  · simp [Value.cells] at hcs
    obtain ⟨rfl, rfl, rfl⟩ := hcs
    have hnm : n ≤ m := by rw [hmm]; split <;> omega
    obtain ⟨F, hF⟩ := choose_lt (n := n) (p := fun i (x : FrL) => W.cell? (a.add i) = some x.cell ∧ RB W W.heap.size x.A x.b ∧ x.b.length ≤ x.c ∧ x.c ≤ maxLen ∧ (x.A = none → x.c = 0)) (fun i hi => by
      obtain ⟨k1, k2⟩ := hx i (by omega)
      obtain ⟨x, hx1, hx2, hx3, hx4, hx5⟩ := open_bytes_cs he hq cq k2
      simp only [List.cons.injEq, and_true] at hx1
      exact ⟨x, by rw [k1, hx1], hx2, hx3, hx4, hx5⟩)
    refine ⟨some a, (List.range n).map F, c, by simp, ⟨⟨by rw [frs_len, Nat.mul_one], fun h0 => ?_⟩, fun x hx => ?_⟩, by simpa using hl, hm, fun h => (by cases h), fun x hx => ?_⟩
    · rw [List.length_map, List.length_range] at h0
      have h0' := (hF 0 h0).1
      have hsp : a.spot = none := by
        have := World.cell?_spot h0'
        simpa [Addr.add] using this
      obtain ⟨b, off, spot⟩ := a
      simp only at hsp
      subst hsp
      refine ⟨b, off, rfl, by have := World.block_lt_of_cell? W _ h0'; simpa [Addr.add] using this, fun j u hu => ?_⟩
      have hj : j < n := by
        have := (List.getElem?_eq_some_iff.1 hu).1
        simpa [frs] using this
      have hc := (hF j hj).1
      rw [add_none] at hc
      rw [hc]
      simpa [frs, hj] using hu
    · simp only [List.mem_map, List.mem_range] at hx
      obtain ⟨i, hi, rfl⟩ := hx
      exact (hF i hi).2.1
    · simp only [List.mem_map, List.mem_range] at hx
      obtain ⟨i, hi, rfl⟩ := hx
      exact (hF i hi).2.2
end Go.Proofs.Ytmkpfdcnikgokaa
