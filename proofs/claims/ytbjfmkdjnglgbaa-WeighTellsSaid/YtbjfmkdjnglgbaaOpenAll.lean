/-
  Arguments that came in, opened. No condition.
-/
import Derived.Test.YtbjfmkdjnglgbaaRows
import Derived.Test.YtbjfmkdjnglgbaaWords
import Derived.ProofKit
import Derived.OpenShut
import Derived.ShutString
import Derived.ChangeOld
import Derived.ChangeMaps5
import Derived.Test.YtbjfmkdjnglgbaaPlaceBase
import Derived.Lib.SmallJoins
import Derived.Deep.SlicePairs
import Derived.Test.YtbjfmkdjnglgbaaCodeAll
import Derived.SizedLaws
namespace Go.Proofs.Ytbjfmkdjnglgbaa
open Go.ChangeShapes Go.WideShapes Go.ChangeAt Go.RowKit

theorem own : ownKnob Try.prog.godebug = none := by kernel_rfl
theorem laidOut : laidOutB Try.prog = true := by kernel_rfl

/-- An integer of kind uint8 is a byte. -/
theorem byte_of_wf {k : Int} (h : (Lit.int .u8 k).wf = true) : ∃ x : UInt8, k = (x.toNat : Int) := by
  simp [Lit.wf, IntKind.min, IntKind.max, IntKind.signed, IntKind.bits] at h
  refine ⟨UInt8.ofNat k.toNat, ?_⟩
  rw [UInt8.toNat_ofNat', Nat.mod_eq_of_lt (by omega)]
  omega

/-- A slice of bytes that came in. -/
theorem open_bytes {H : Type} {enc : TypeId × Value → H} {P : Program} {W : World} {b0 base : Nat} {r : Reach} {spare : Nat → Bool} {held : Bool} {t e : TypeId} {v : Value} {d : DataW H} {p : List MemPlace}
    (ht : P.underlying t = some (.slice e)) (he : P.underlying e = some (.int .u8)) (hC : P.cellsOf e = 1) (hv : Value.okWide P W r b0 t v) (h : DataW.Trod enc P W base spare held t v d p) :
    ∃ A l c, v = .slice A (List.length (α := UInt8) l) c ∧ RB W W.heap.size A l ∧ l.length ≤ c ∧ c ≤ maxLen := by
  obtain ⟨A, n, c, rfl⟩ := okWide_slice ht hv
  obtain ⟨fuel, hf⟩ := h
  rcases open_ints ht he hC hf with ⟨hcs, _⟩ | ⟨x, l, c', zs, hcs, _, hl, hm, hz, _, hcell, hwz⟩
  · simp [Value.cells] at hcs
    obtain ⟨rfl, rfl, rfl⟩ := hcs
    exact ⟨none, [], 0, rfl, RD.nil_, Nat.le_refl _, Nat.zero_le _⟩
  · simp [Value.cells] at hcs
    obtain ⟨rfl, rfl, rfl⟩ := hcs
    have hle : n ≤ zs.length := by rw [hz]; split <;> omega
    have hb : ∀ n : Int, (Lit.int .u8 n).wf = true → ((UInt8.ofNat n.toNat).toNat : Int) = n := by
      intro k hn
      simp [Lit.wf, IntKind.min, IntKind.max, IntKind.signed, IntKind.bits] at hn
      rw [UInt8.toNat_ofNat', Nat.mod_eq_of_lt (by omega)]
      omega
    refine ⟨some x, (zs.take n).map (fun n => UInt8.ofNat n.toNat), c, ?_, ?_, by simp; omega, hm⟩
    · simp [Nat.min_eq_left hle]
    · refine ⟨by simp [u8s_len], fun hn => ?_⟩
      simp only [List.length_map, List.length_take, Nat.min_eq_left hle] at hn
      have h0 := hcell 0 (by omega)
      have hsp : x.spot = none := by
        have := World.cell?_spot h0
        simpa [Addr.add] using this
      obtain ⟨b, off, spot⟩ := x
      simp only at hsp
      subst hsp
      refine ⟨b, off, rfl, by have := World.block_lt_of_cell? W _ h0; simpa [Addr.add] using this, fun j u hu => ?_⟩
      have hj : j < n := by
        have := (List.getElem?_eq_some_iff.1 hu).1
        simp [u8s_len] at this
        omega
      have hc := hcell j (by omega)
      rw [add_none] at hc
      rw [hc, ← hu]
      have hjz : j < zs.length := by omega
      simp only [u8s, List.map_map, List.getElem?_map, List.getElem?_take, if_pos hj, List.getElem?_eq_getElem hjz, List.getD_eq_getElem?_getD, Option.getD_some, Option.map_some, Function.comp]
      rw [hb _ (hwz _ (List.getElem_mem hjz))]

/-- An array of integers that came in, by value. -/
theorem open_array {H : Type} {enc : TypeId × Value → H} {P : Program} {W : World} {b0 base : Nat} {r : Reach} {spare : Nat → Bool} {held : Bool} {t e : TypeId} {k : IntKind} {n : Nat} {v : Value} {d : DataW H} {p : List MemPlace}
    (ht : P.underlying t = some (.array n e)) (he : P.underlying e = some (.int k)) (hC : P.cellsOf e = 1) (hCt : P.cellsOf t = n) (hv : Value.okWide P W r b0 t v) (h : DataW.Trod enc P W base spare held t v d p) :
    ∃ zs : List Int, v = .agg (zs.map (Value.int k)).toArray ∧ zs.length = n ∧ ∀ z ∈ zs, (Lit.int k z).wf = true := by
  unfold Value.okWide at hv
  rw [ht] at hv
  obtain ⟨cs, rfl, hsz, _⟩ := hv
  obtain ⟨fuel, hf⟩ := h
  obtain ⟨xs, m, _, _, _, hxn, hx⟩ := DataW.trod_array ht hf
  rw [hCt] at hsz
  have hel : ∀ i (hi : i < n), ∃ z, cs[i]? = some (.int k z) ∧ (Lit.int k z).wf = true := by
    intro i hi
    have h1 := hx i hi
    rw [hC, Nat.mul_one, List.getElem?_eq_getElem (by omega)] at h1
    obtain ⟨z, e1, _, hw⟩ := DataW.trod_int he h1
    refine ⟨z, ?_, hw⟩
    have h2 : ((Value.agg cs).cells.toList.drop i).take 1 = [cs[i]'(by omega)] := by
      show (cs.toList.drop i).take 1 = _
      rw [List.drop_eq_getElem_cons (by simpa using by omega)]
      simp
    rw [h2] at e1
    injection e1 with e1
    rw [Array.getElem?_eq_getElem (by omega), e1]
  refine ⟨cs.toList.map intOf, ?_, by simp [hsz], ?_⟩
  · congr 1
    apply Array.ext_getElem?
    intro i
    by_cases hi : i < n
    · obtain ⟨z, hz, _⟩ := hel i hi
      simp [hz, intOf]
    · rw [Array.getElem?_eq_none (by omega), Array.getElem?_eq_none (by simp; omega)]
  · intro z hz
    rw [List.mem_map] at hz
    obtain ⟨u, hu, rfl⟩ := hz
    obtain ⟨i, hi, rfl⟩ := List.getElem_of_mem hu
    obtain ⟨z, hz, hw⟩ := hel i (by simpa [hsz] using hi)
    have : cs.toList[i] = .int k z := by
      have := (Array.getElem?_eq_some_iff.1 hz).2
      simpa using this
    rw [this]
    exact hw

/-- Four bytes by value. -/
theorem open_four {H : Type} {enc : TypeId × Value → H} {P : Program} {W : World} {b0 base : Nat} {r : Reach} {spare : Nat → Bool} {held : Bool} {t e : TypeId} {v : Value} {d : DataW H} {p : List MemPlace}
    (ht : P.underlying t = some (.array 4 e)) (he : P.underlying e = some (.int .u8)) (hC : P.cellsOf e = 1) (hCt : P.cellsOf t = 4) (hv : Value.okWide P W r b0 t v) (h : DataW.Trod enc P W base spare held t v d p) :
    ∃ a b c d : UInt8, v = .agg #[.int .u8 (a.toNat : Int), .int .u8 (b.toNat : Int), .int .u8 (c.toNat : Int), .int .u8 (d.toNat : Int)] := by
  obtain ⟨zs, rfl, hl, hw⟩ := open_array ht he hC hCt hv h
  match zs, hl, hw with
  | [z0, z1, z2, z3], _, hw =>
    obtain ⟨a, rfl⟩ := byte_of_wf (hw z0 (by simp))
    obtain ⟨b, rfl⟩ := byte_of_wf (hw z1 (by simp))
    obtain ⟨c, rfl⟩ := byte_of_wf (hw z2 (by simp))
    obtain ⟨d, rfl⟩ := byte_of_wf (hw z3 (by simp))
    exact ⟨a, b, c, d, rfl⟩
end Go.Proofs.Ytbjfmkdjnglgbaa
namespace Go.Proofs.Ytbjfmkdjnglgbaa
open Go.ChangeShapes Go.WideShapes Go.ChangeAt Go.RowKit

/-- A string that came in. -/
theorem open_str {H : Type} {enc : TypeId × Value → H} {P : Program} {W : World} {b0 base : Nat} {r : Reach} {spare : Nat → Bool} {held : Bool} {t : TypeId} {v : Value} {d : DataW H} {p : List MemPlace}
    (ht : P.underlying t = some .string) (hv : Value.okWide P W r b0 t v) (h : DataW.Trod enc P W base spare held t v d p) : ∃ l : List UInt8, v = .string ⟨l.toArray⟩ ∧ l.length ≤ maxLen := by
  obtain ⟨s, rfl, -, -, hs⟩ := Go.ChangeMaps.open_string ht hv h
  exact ⟨s.data.toList, rfl, by simpa using hs⟩

/-- A slice of whole numbers that came in. -/
theorem open_zs {H : Type} {enc : TypeId × Value → H} {P : Program} {W : World} {b0 base : Nat} {r : Reach} {spare : Nat → Bool} {held : Bool} {t e : TypeId} {k : IntKind} {v : Value} {d : DataW H} {p : List MemPlace}
    (ht : P.underlying t = some (.slice e)) (he : P.underlying e = some (.int k)) (hC : P.cellsOf e = 1) (hv : Value.okWide P W r b0 t v) (h : DataW.Trod enc P W base spare held t v d p) :
    ∃ A l c, v = .slice A (List.length (α := Int) l) c ∧ RD W W.heap.size 1 A l.length (l.map fun z => .int k z) ∧ l.length ≤ c ∧ c ≤ maxLen ∧ ∀ z ∈ l, (Lit.int k z).wf = true := by
  obtain ⟨A, n, c, rfl⟩ := okWide_slice ht hv
  obtain ⟨fuel, hf⟩ := h
  rcases open_ints ht he hC hf with ⟨hcs, _⟩ | ⟨x, l, c', zs, hcs, _, hl, hm, hz, _, hcell, hwz⟩
  · simp [Value.cells] at hcs
    obtain ⟨rfl, rfl, rfl⟩ := hcs
    exact ⟨none, [], 0, rfl, RD.nil_, Nat.le_refl _, Nat.zero_le _, fun z hz => by cases hz⟩
  · simp [Value.cells] at hcs
    obtain ⟨rfl, rfl, rfl⟩ := hcs
    have hle : n ≤ zs.length := by rw [hz]; split <;> omega
    refine ⟨some x, zs.take n, c, ?_, ?_, by simp; omega, hm, fun z hz => hwz z (List.mem_of_mem_take hz)⟩
    · simp [Nat.min_eq_left hle]
    · rw [List.length_take, Nat.min_eq_left hle]
      refine ⟨by simp [Nat.min_eq_left hle], fun hn => ?_⟩
      have h0 := hcell 0 (by omega)
      have hsp : x.spot = none := by
        have := World.cell?_spot h0
        simpa [Addr.add] using this
      obtain ⟨b, off, spot⟩ := x
      simp only at hsp
      subst hsp
      refine ⟨b, off, rfl, by have := World.block_lt_of_cell? W _ h0; simpa [Addr.add] using this, fun j u hu => ?_⟩
      have hj : j < n := by
        have := (List.getElem?_eq_some_iff.1 hu).1
        simp at this
        omega
      have hc := hcell j (by omega)
      rw [add_none] at hc
      rw [hc, ← hu]
      have hjz : j < zs.length := by omega
      simp [hj, List.getElem?_eq_getElem hjz, List.getD_eq_getElem?_getD]
end Go.Proofs.Ytbjfmkdjnglgbaa
namespace Go.Proofs.Ytbjfmkdjnglgbaa
open Go.Joins Go.ChangeShapes Go.WideShapes Go.ChangeAt Go.RowKit Go.Deep

theorem okR_of {t r m : Int} (h1 : (Lit.int .u32 t).wf = true) (h2 : (Lit.int .u8 r).wf = true) (h3 : (Lit.int .i64 m).wf = true) : okR (t, r, m) := by
  simp [Lit.wf, IntKind.min, IntKind.max, IntKind.signed, IntKind.bits] at h1 h2 h3
  unfold okR
  simp only
  omega
theorem okI_of {t r : Int} (h1 : (Lit.int .u32 t).wf = true) (h2 : (Lit.int .u8 r).wf = true) : okI (t, r) := by
  simp [Lit.wf, IntKind.min, IntKind.max, IntKind.signed, IntKind.bits] at h1 h2
  unfold okI
  simp only
  omega
/-- A stamp by value. -/
theorem open_id {H : Type} {enc : TypeId × Value → H} {P : Program} {W : World} {b0 base : Nat} {r : Reach} {spare : Nat → Bool} {held : Bool} {t : TypeId} {f0 f1 : Field} {v : Value} {d : DataW H} {p : List MemPlace}
    (hs : P.underlying t = some (.struct #[f0, f1])) (h0 : P.underlying f0.type = some (.int .u32)) (h1 : P.underlying f1.type = some (.int .u8)) (hone : oneCellFields P #[f0, f1] = true) (hC : P.cellsOf t = 2)
    (hv : Value.okWide P W r b0 t v) (h : DataW.Trod enc P W base spare held t v d p) : ∃ a b, v = .agg #[.int .u32 a, .int .u8 b] ∧ okI (a, b) := by
  obtain ⟨v0, v1, y0, y1, n, rfl, -, -, g0, g1⟩ := open_agg2 hs hone hC hv h
  obtain ⟨a, e0, -, wa⟩ := DataW.trod_int h0 g0
  obtain ⟨b, e1, -, wb⟩ := DataW.trod_int h1 g1
  simp only [List.cons.injEq, and_true] at e0 e1
  subst e0 e1
  exact ⟨a, b, rfl, okI_of wa wb⟩

/-- A slice of runs. -/
theorem open_runs {H : Type} {enc : TypeId × Value → H} {P : Program} {W : World} {b0 base : Nat} {r : Reach} {spare : Nat → Bool} {held : Bool} {t e : TypeId} {f0 f1 f2 : Field} {v : Value} {d : DataW H} {p : List MemPlace}
    (ht : P.underlying t = some (.slice e)) (he : P.underlying e = some (.struct #[f0, f1, f2])) (ce : P.cellsOf e = 3) (o0 : f0.offset = 0) (o1 : f1.offset = 1) (o2 : f2.offset = 2) (c0 : P.cellsOf f0.type = 1) (c1 : P.cellsOf f1.type = 1) (c2 : P.cellsOf f2.type = 1)
    (h0 : P.underlying f0.type = some (.int .u32)) (h1 : P.underlying f1.type = some (.int .u8)) (h2 : P.underlying f2.type = some (.int .i64)) (hv : Value.okWide P W r b0 t v) (h : DataW.Trod enc P W base spare held t v d p) :
    ∃ A l c, v = .slice A (List.length (α := Rn) l) c ∧ RR W W.heap.size A l ∧ l.length ≤ c ∧ c ≤ maxLen ∧ (∀ x ∈ l, okR x) ∧ (A = none → c = 0) := by
  obtain ⟨A, n, c, rfl⟩ := okWide_slice ht hv
  obtain ⟨fuel, hf⟩ := h
  rcases open_slice ht hf with ⟨hcs, _⟩ | ⟨x, l, c', m, n', D, Pl, hcs, _, hl, hm, hmm, _, hx⟩
  · simp [Value.cells] at hcs
    obtain ⟨rfl, rfl, rfl⟩ := hcs
    exact ⟨none, [], 0, rfl, RD.nil_, Nat.le_refl _, Nat.zero_le _, fun a ha => (by cases ha), fun _ => rfl⟩
  · simp [Value.cells] at hcs
    obtain ⟨rfl, rfl, rfl⟩ := hcs
    have hnm : n ≤ m := by rw [hmm]; split <;> omega
    have hel : ∀ i, ∃ q : Rn, i < n → okR q ∧ W.cell? (x.add (i * 3)) = some (.int .u32 q.1) ∧ W.cell? (x.add (i * 3 + 1)) = some (.int .u8 q.2.1) ∧ W.cell? (x.add (i * 3 + 2)) = some (.int .i64 q.2.2) := by
      intro i
      by_cases hi : i < n
      · obtain ⟨cs', k1, k2⟩ := hx i (by omega)
        rw [ce] at k1
        obtain ⟨_, hlen, hcell⟩ := World.cells?_some k1
        obtain ⟨xs, k, hk, hxy, _, hxl, hg⟩ := DataW.trod_struct he k2
        match xs, hxl, cs', hlen with
        | [y0, y1, y2], _, [v0, v1, v2], _ =>
          have g0 := hg 0 f0 rfl
          have g1 := hg 1 f1 rfl
          have g2 := hg 2 f2 rfl
          simp [o0, o1, o2, c0, c1, c2] at g0 g1 g2
          have e0 := hcell 0 (by omega)
          have e1 := hcell 1 (by omega)
          have e2 := hcell 2 (by omega)
          rw [add_add] at e0 e1 e2
          obtain ⟨a, q0, -, wa⟩ := DataW.trod_int h0 g0
          obtain ⟨b, q1, -, wb⟩ := DataW.trod_int h1 g1
          obtain ⟨d, q2, -, wd⟩ := DataW.trod_int h2 g2
          simp only [List.cons.injEq, and_true] at q0 q1 q2
          subst q0 q1 q2
          exact ⟨(a, b, d), fun _ => ⟨okR_of wa wb wd, by simpa using e0, by simpa using e1, by simpa using e2⟩⟩
      · exact ⟨(0, 0, 0), fun h => absurd h hi⟩
    obtain ⟨F, hF⟩ := Classical.axiomOfChoice hel
    refine ⟨some x, (List.range n).map F, c, by simp, ?_, by simpa using hl, hm, ?_, fun h => (by cases h)⟩
    · unfold RR
      rw [List.length_map, List.length_range]
      refine ⟨by rw [rns_len]; simp, fun hn => ?_⟩
      obtain ⟨_, k0, _⟩ := hF 0 hn
      have hsp : x.spot = none := by
        have := World.cell?_spot k0
        simpa [Addr.add] using this
      obtain ⟨bk, off, spot⟩ := x
      simp only at hsp
      subst hsp
      refine ⟨bk, off, rfl, by have := World.block_lt_of_cell? W _ k0; simpa [Addr.add] using this, fun j u hu => ?_⟩
      have hj : j < n * 3 := by
        have := (List.getElem?_eq_some_iff.1 hu).1
        rw [rns_len] at this
        simpa using this
      have hi : j / 3 < n := by omega
      obtain ⟨_, k0, k1, k2⟩ := hF (j / 3) hi
      obtain ⟨g0, g1, g2⟩ := rns_get ((List.range n).map F) (j / 3) (by simpa using hi)
      simp only [List.getElem_map, List.getElem_range] at g0 g1 g2
      rw [add_none] at k0 k1 k2
      have hmod : j % 3 = 0 ∨ j % 3 = 1 ∨ j % 3 = 2 := by omega
      rcases hmod with hp | hp | hp
      · have e : j / 3 * 3 = j := by omega
        rw [e] at k0 g0
        rw [k0, ← hu, g0]
      · have e : j / 3 * 3 + 1 = j := by omega
        rw [e] at k1 g1
        rw [k1, ← hu, g1]
      · have e : j / 3 * 3 + 2 = j := by omega
        rw [e] at k2 g2
        rw [k2, ← hu, g2]
    · intro a ha
      simp only [List.mem_map, List.mem_range] at ha
      obtain ⟨i, hi, rfl⟩ := ha
      exact (hF i hi).1
end Go.Proofs.Ytbjfmkdjnglgbaa
namespace Go.Proofs.Ytbjfmkdjnglgbaa
open Go.Joins Go.ChangeShapes Go.WideShapes Go.ChangeAt Go.RowKit Go.Deep

/-- A slice of runs in cells. -/
theorem open_runs_cs {H : Type} {enc : TypeId × Value → H} {P : Program} {W : World} {base : Nat} {spare : Nat → Bool} {held : Bool} {t e : TypeId} {f0 f1 f2 : Field} {cs : List Value} {y : DataW H × List MemPlace} {fuel : Nat}
    (ht : P.underlying t = some (.slice e)) (he : P.underlying e = some (.struct #[f0, f1, f2])) (ce : P.cellsOf e = 3) (o0 : f0.offset = 0) (o1 : f1.offset = 1) (o2 : f2.offset = 2) (c0 : P.cellsOf f0.type = 1) (c1 : P.cellsOf f1.type = 1) (c2 : P.cellsOf f2.type = 1)
    (h0 : P.underlying f0.type = some (.int .u32)) (h1 : P.underlying f1.type = some (.int .u8)) (h2 : P.underlying f2.type = some (.int .i64)) (hf : DataW.trod enc P W base spare held fuel t cs = some y) :
    ∃ A l c, cs = [.slice A (List.length (α := Rn) l) c] ∧ RR W W.heap.size A l ∧ l.length ≤ c ∧ c ≤ maxLen ∧ (∀ x ∈ l, okR x) ∧ (A = none → c = 0) := by
  rcases open_slice ht hf with ⟨hcs, _⟩ | ⟨x, n, c, m, n', D, Pl, hcs, _, hl, hm, hmm, _, hx⟩
  · subst hcs
    exact ⟨none, [], 0, rfl, RD.nil_, Nat.le_refl _, Nat.zero_le _, fun a ha => (by cases ha), fun _ => rfl⟩
  · subst hcs
    have hnm : n ≤ m := by rw [hmm]; split <;> omega
    have hel : ∀ i, ∃ q : Rn, i < n → okR q ∧ W.cell? (x.add (i * 3)) = some (.int .u32 q.1) ∧ W.cell? (x.add (i * 3 + 1)) = some (.int .u8 q.2.1) ∧ W.cell? (x.add (i * 3 + 2)) = some (.int .i64 q.2.2) := by
      intro i
      by_cases hi : i < n
      · obtain ⟨cs', k1, k2⟩ := hx i (by omega)
        rw [ce] at k1
        obtain ⟨_, hlen, hcell⟩ := World.cells?_some k1
        obtain ⟨xs, k, hk, hxy, _, hxl, hg⟩ := DataW.trod_struct he k2
        match xs, hxl, cs', hlen with
        | [y0, y1, y2], _, [v0, v1, v2], _ =>
          have g0 := hg 0 f0 rfl
          have g1 := hg 1 f1 rfl
          have g2 := hg 2 f2 rfl
          simp [o0, o1, o2, c0, c1, c2] at g0 g1 g2
          have e0 := hcell 0 (by omega)
          have e1 := hcell 1 (by omega)
          have e2 := hcell 2 (by omega)
          rw [add_add] at e0 e1 e2
          obtain ⟨a, q0, -, wa⟩ := DataW.trod_int h0 g0
          obtain ⟨b, q1, -, wb⟩ := DataW.trod_int h1 g1
          obtain ⟨d, q2, -, wd⟩ := DataW.trod_int h2 g2
          simp only [List.cons.injEq, and_true] at q0 q1 q2
          subst q0 q1 q2
          exact ⟨(a, b, d), fun _ => ⟨okR_of wa wb wd, by simpa using e0, by simpa using e1, by simpa using e2⟩⟩
      · exact ⟨(0, 0, 0), fun h => absurd h hi⟩
    obtain ⟨F, hF⟩ := Classical.axiomOfChoice hel
    refine ⟨some x, (List.range n).map F, c, by simp, ?_, by simpa using hl, hm, ?_, fun h => (by cases h)⟩
    · unfold RR
      rw [List.length_map, List.length_range]
      refine ⟨by rw [rns_len]; simp, fun hn => ?_⟩
      obtain ⟨_, k0, _⟩ := hF 0 hn
      have hsp : x.spot = none := by
        have := World.cell?_spot k0
        simpa [Addr.add] using this
      obtain ⟨bk, off, spot⟩ := x
      simp only at hsp
      subst hsp
      refine ⟨bk, off, rfl, by have := World.block_lt_of_cell? W _ k0; simpa [Addr.add] using this, fun j u hu => ?_⟩
      have hj : j < n * 3 := by
        have := (List.getElem?_eq_some_iff.1 hu).1
        rw [rns_len] at this
        simpa using this
      have hi : j / 3 < n := by omega
      obtain ⟨_, k0, k1, k2⟩ := hF (j / 3) hi
      obtain ⟨g0, g1, g2⟩ := rns_get ((List.range n).map F) (j / 3) (by simpa using hi)
      simp only [List.getElem_map, List.getElem_range] at g0 g1 g2
      rw [add_none] at k0 k1 k2
      have hmod : j % 3 = 0 ∨ j % 3 = 1 ∨ j % 3 = 2 := by omega
      rcases hmod with hp | hp | hp
      · have e : j / 3 * 3 = j := by omega
        rw [e] at k0 g0
        rw [k0, ← hu, g0]
      · have e : j / 3 * 3 + 1 = j := by omega
        rw [e] at k1 g1
        rw [k1, ← hu, g1]
      · have e : j / 3 * 3 + 2 = j := by omega
        rw [e] at k2 g2
        rw [k2, ← hu, g2]
    · intro a ha
      simp only [List.mem_map, List.mem_range] at ha
      obtain ⟨i, hi, rfl⟩ := ha
      exact (hF i hi).1

theorem trod_nil {H : Type} {enc : TypeId × Value → H} {P : Program} {W : World} {base : Nat} {spare : Nat → Bool} {held : Bool} {t e : TypeId} {A : Option Addr} {n c : Nat} {d : DataW H} {p : List MemPlace} (ht : P.underlying t = some (.slice e)) (h : DataW.Trod enc P W base spare held t (.slice A n c) d p) : A = none → c = 0 := by
  obtain ⟨fuel, hf⟩ := h
  intro hA
  rcases open_slice ht hf with ⟨hcs, _⟩ | ⟨x, _, _, _, _, _, _, hcs, _⟩
  · simp [Value.cells] at hcs
    exact hcs.2.2
  · simp [Value.cells] at hcs
    rw [hcs.1] at hA
    cases hA
/-- An operation by value. -/
theorem open_op {H : Type} {enc : TypeId × Value → H} {P : Program} {W : World} {b0 base : Nat} {r : Reach} {spare : Nat → Bool} {held : Bool} {t e : TypeId} {f0 f1 f2 f3 g0 g1 k0 k1 k2 : Field} {v : Value} {d : DataW H} {p : List MemPlace}
    (hs : P.underlying t = some (.struct #[f0, f1, f2, f3])) (hC : P.cellsOf t = 5) (a0 : f0.offset = 0) (a1 : f1.offset = 1) (a2 : f2.offset = 3) (a3 : f3.offset = 4)
    (d0 : P.cellsOf f0.type = 1) (d1 : P.cellsOf f1.type = 2) (d2 : P.cellsOf f2.type = 1) (d3 : P.cellsOf f3.type = 1)
    (u0 : P.underlying f0.type = some (.int .u8)) (u1 : P.underlying f1.type = some (.struct #[g0, g1])) (ht : P.underlying f2.type = some (.slice e)) (u3 : P.underlying f3.type = some (.int .i64))
    (b0' : g0.offset = 0) (b1' : g1.offset = 1) (x0 : P.cellsOf g0.type = 1) (x1 : P.cellsOf g1.type = 1) (y0 : P.underlying g0.type = some (.int .u32)) (y1 : P.underlying g1.type = some (.int .u8))
    (he : P.underlying e = some (.struct #[k0, k1, k2])) (ce : P.cellsOf e = 3) (o0 : k0.offset = 0) (o1 : k1.offset = 1) (o2 : k2.offset = 2) (c0 : P.cellsOf k0.type = 1) (c1 : P.cellsOf k1.type = 1) (c2 : P.cellsOf k2.type = 1)
    (h0 : P.underlying k0.type = some (.int .u32)) (h1 : P.underlying k1.type = some (.int .u8)) (h2 : P.underlying k2.type = some (.int .i64))
    (hv : Value.okWide P W r b0 t v) (h : DataW.Trod enc P W base spare held t v d p) :
    ∃ k tt rr A l c z, v = .agg #[.int .u8 k, .int .u32 tt, .int .u8 rr, .slice A (List.length (α := Rn) l) c, .int .i64 z] ∧ 0 ≤ k ∧ k < 256 ∧ okI (tt, rr) ∧ -9223372036854775808 ≤ z ∧ z ≤ 9223372036854775807 ∧ RR W W.heap.size A l ∧ l.length ≤ c ∧ c ≤ maxLen ∧ (∀ x ∈ l, okR x) ∧ (A = none → c = 0) := by
  obtain ⟨cs, rfl, hsz⟩ := okWide_struct hs hv
  obtain ⟨v0, v1, v2, v3, v4, rfl⟩ : ∃ v0 v1 v2 v3 v4, cs = #[v0, v1, v2, v3, v4] := by
    have h5 : cs.size = 5 := hsz.trans hC
    obtain ⟨l⟩ := cs
    match l, h5 with
    | [v0, v1, v2, v3, v4], _ => exact ⟨v0, v1, v2, v3, v4, rfl⟩
  obtain ⟨fuel, hf⟩ := h
  obtain ⟨xs, n, _, _, _, hlen, hg⟩ := DataW.trod_struct hs hf
  match xs, hlen with
  | [q0, q1, q2, q3], _ =>
    have j0 := hg 0 f0 rfl
    have j1 := hg 1 f1 rfl
    have j2 := hg 2 f2 rfl
    have j3 := hg 3 f3 rfl
    simp [Value.cells, a0, a1, a2, a3, d0, d1, d2, d3] at j0 j1 j2 j3
    obtain ⟨k, e0, -, w0⟩ := DataW.trod_int u0 j0
    obtain ⟨z, e3, -, w3⟩ := DataW.trod_int u3 j3
    obtain ⟨z0, z1, m, _, _, i0, i1⟩ := trod_struct2 u1 j1
    simp [b0', b1', x0, x1] at i0 i1
    obtain ⟨tt, e1, -, w1⟩ := DataW.trod_int y0 i0
    obtain ⟨rr, e2, -, w2⟩ := DataW.trod_int y1 i1
    simp only [List.cons.injEq, and_true] at e0 e1 e2 e3
    subst e0 e1 e2 e3
    obtain ⟨A, l, c, ea, hr, hc, hm, hw, hn⟩ := open_runs_cs ht he ce o0 o1 o2 c0 c1 c2 h0 h1 h2 j2
    simp only [List.cons.injEq, and_true] at ea
    subst ea
    simp [Lit.wf, IntKind.min, IntKind.max, IntKind.signed, IntKind.bits] at w0 w3
    exact ⟨k, tt, rr, A, l, c, z, rfl, by omega, by omega, okI_of w1 w2, by omega, by omega, hr, hc, hm, hw, hn⟩
end Go.Proofs.Ytbjfmkdjnglgbaa
namespace Go.Proofs.Ytbjfmkdjnglgbaa
open Go.Joins Go.ChangeShapes Go.WideShapes Go.ChangeAt Go.RowKit Go.Deep

theorem weightsAll_in {H : Type} {P : Program} {e : TypeId} : ∀ {l : List (DataW H)} {d : DataW H}, d ∈ l → ∀ n ∈ d.weights P e, n ∈ DataW.weightsAll P e l
  | d' :: r, d, hd, n, hn => by
    simp only [DataW.weightsAll, List.mem_append]
    rcases List.mem_cons.1 hd with rfl | h
    · exact Or.inl hn
    · exact Or.inr (weightsAll_in h n hn)
/-- What a slice's datum weighs. -/
theorem weight_slice {H : Type} {enc : TypeId × Value → H} {P : Program} {W : World} {base : Nat} {spare : Nat → Bool} {held : Bool} {t e : TypeId} {A : Option Addr} {n c : Nat} {y : DataW H × List MemPlace} {fuel N : Nat}
    (ht : P.underlying t = some (.slice e)) (hf : DataW.trod enc P W base spare held fuel t [.slice A n c] = some y) (hN : ∀ n ∈ y.1.weights P t, n ≤ N) : n * P.bytesOf e ≤ N := by
  rcases open_slice ht hf with ⟨hcs, _⟩ | ⟨x, l, c', m, n', D, Pl, hcs, _, hl, hm, hmm, hy, hx⟩
  · simp at hcs
    obtain ⟨-, rfl, -⟩ := hcs
    simp
  · simp only [List.cons.injEq, Value.slice.injEq, and_true] at hcs
    obtain ⟨-, rfl, -⟩ := hcs
    rw [hy] at hN
    have h := hN _ (by simp only [DataW.weights, ht]; exact List.mem_cons_self)
    refine Nat.le_trans ?_ h
    refine Nat.mul_le_mul_right _ ?_
    rw [List.length_map, List.length_range]
    exact Nat.le_add_right _ _
/-- An operation's cells. -/
theorem open_op_cs {H : Type} {enc : TypeId × Value → H} {P : Program} {W : World} {base : Nat} {spare : Nat → Bool} {held : Bool} {t e : TypeId} {f0 f1 f2 f3 g0 g1 k0 k1 k2 : Field} {cs : List Value} {y : DataW H × List MemPlace} {fuel : Nat}
    (hs : P.underlying t = some (.struct #[f0, f1, f2, f3])) (hC : P.cellsOf t = 5) (a0 : f0.offset = 0) (a1 : f1.offset = 1) (a2 : f2.offset = 3) (a3 : f3.offset = 4)
    (d0 : P.cellsOf f0.type = 1) (d1 : P.cellsOf f1.type = 2) (d2 : P.cellsOf f2.type = 1) (d3 : P.cellsOf f3.type = 1)
    (u0 : P.underlying f0.type = some (.int .u8)) (u1 : P.underlying f1.type = some (.struct #[g0, g1])) (ht : P.underlying f2.type = some (.slice e)) (u3 : P.underlying f3.type = some (.int .i64))
    (b0' : g0.offset = 0) (b1' : g1.offset = 1) (x0 : P.cellsOf g0.type = 1) (x1 : P.cellsOf g1.type = 1) (y0 : P.underlying g0.type = some (.int .u32)) (y1 : P.underlying g1.type = some (.int .u8))
    (he : P.underlying e = some (.struct #[k0, k1, k2])) (ce : P.cellsOf e = 3) (o0 : k0.offset = 0) (o1 : k1.offset = 1) (o2 : k2.offset = 2) (c0 : P.cellsOf k0.type = 1) (c1 : P.cellsOf k1.type = 1) (c2 : P.cellsOf k2.type = 1)
    (h0 : P.underlying k0.type = some (.int .u32)) (h1 : P.underlying k1.type = some (.int .u8)) (h2 : P.underlying k2.type = some (.int .i64))
    (hf : DataW.trod enc P W base spare held fuel t cs = some y) :
    ∃ x : OpL, cs = x.cells ∧ (0 ≤ x.k ∧ okI (x.t, x.r) ∧ ∀ q ∈ x.p, okR q) ∧ RR W W.heap.size x.A x.p ∧ (x.A = none → x.c = 0) ∧ ∀ N, (∀ n ∈ y.1.weights P t, n ≤ N) → x.p.length * P.bytesOf e ≤ N := by
  obtain ⟨xs, n, _, hy, hlen5, hlen, hg⟩ := DataW.trod_struct hs hf
  rw [hC] at hlen5
  match cs, hlen5 with
  | [v0, v1, v2, v3, v4], _ =>
  match xs, hlen with
  | [q0, q1, q2, q3], _ =>
    have j0 := hg 0 f0 rfl
    have j1 := hg 1 f1 rfl
    have j2 := hg 2 f2 rfl
    have j3 := hg 3 f3 rfl
    simp [a0, a1, a2, a3, d0, d1, d2, d3] at j0 j1 j2 j3
    obtain ⟨k, e0, -, w0⟩ := DataW.trod_int u0 j0
    obtain ⟨z, e3, -, w3⟩ := DataW.trod_int u3 j3
    obtain ⟨z0, z1, m, _, _, i0, i1⟩ := trod_struct2 u1 j1
    simp [b0', b1', x0, x1] at i0 i1
    obtain ⟨tt, e1, -, w1⟩ := DataW.trod_int y0 i0
    obtain ⟨rr, e2, -, w2⟩ := DataW.trod_int y1 i1
    simp only [List.cons.injEq, and_true] at e0 e1 e2 e3
    subst e0 e1 e2 e3
    obtain ⟨A, l, c, ea, hr, hc, hm, hw, hn⟩ := open_runs_cs ht he ce o0 o1 o2 c0 c1 c2 h0 h1 h2 j2
    simp only [List.cons.injEq, and_true] at ea
    subst ea
    simp [Lit.wf, IntKind.min, IntKind.max, IntKind.signed, IntKind.bits] at w0
    refine ⟨⟨k, tt, rr, A, c, l, z⟩, rfl, ⟨by simp only; omega, okI_of w1 w2, hw⟩, hr, hn, fun N hN => weight_slice ht j2 fun n hn => hN n ?_⟩
    rw [hy]
    simp only [DataW.weights, hs]
    exact DataW.weights_mem_each (j := 2) (t := f2.type) (d := q2.1) rfl rfl n hn

/-- A slice of operations. -/
theorem open_ops {H : Type} {enc : TypeId × Value → H} {P : Program} {W : World} {b0 base : Nat} {r : Reach} {spare : Nat → Bool} {held : Bool} {ts t e : TypeId} {f0 f1 f2 f3 g0 g1 k0 k1 k2 : Field} {v : Value} {d : DataW H} {p : List MemPlace}
    (hts : P.underlying ts = some (.slice t))
    (hs : P.underlying t = some (.struct #[f0, f1, f2, f3])) (hC : P.cellsOf t = 5) (a0 : f0.offset = 0) (a1 : f1.offset = 1) (a2 : f2.offset = 3) (a3 : f3.offset = 4)
    (d0 : P.cellsOf f0.type = 1) (d1 : P.cellsOf f1.type = 2) (d2 : P.cellsOf f2.type = 1) (d3 : P.cellsOf f3.type = 1)
    (u0 : P.underlying f0.type = some (.int .u8)) (u1 : P.underlying f1.type = some (.struct #[g0, g1])) (ht : P.underlying f2.type = some (.slice e)) (u3 : P.underlying f3.type = some (.int .i64))
    (b0' : g0.offset = 0) (b1' : g1.offset = 1) (x0 : P.cellsOf g0.type = 1) (x1 : P.cellsOf g1.type = 1) (y0 : P.underlying g0.type = some (.int .u32)) (y1 : P.underlying g1.type = some (.int .u8))
    (he : P.underlying e = some (.struct #[k0, k1, k2])) (ce : P.cellsOf e = 3) (o0 : k0.offset = 0) (o1 : k1.offset = 1) (o2 : k2.offset = 2) (c0 : P.cellsOf k0.type = 1) (c1 : P.cellsOf k1.type = 1) (c2 : P.cellsOf k2.type = 1)
    (h0 : P.underlying k0.type = some (.int .u32)) (h1 : P.underlying k1.type = some (.int .u8)) (h2 : P.underlying k2.type = some (.int .i64))
    (hv : Value.okWide P W r b0 ts v) (h : DataW.Trod enc P W base spare held ts v d p) :
    ∃ A L c, v = .slice A (List.length (α := OpL) L) c ∧ RO W W.heap.size A L ∧ L.length ≤ c ∧ c ≤ maxLen ∧ (A = none → c = 0) ∧ (∀ x ∈ L, 0 ≤ x.k ∧ okI (x.t, x.r) ∧ ∀ q ∈ x.p, okR q) ∧ (∀ N, (∀ n ∈ d.weights P ts, n ≤ N) → L.length * P.bytesOf t ≤ N ∧ ∀ x ∈ L, x.p.length * P.bytesOf e ≤ N) ∧ ∀ x ∈ L, x.A = none → x.c = 0 := by
  obtain ⟨A, n, c, rfl⟩ := okWide_slice hts hv
  obtain ⟨fuel, hf⟩ := h
  have hwt : ∀ N, (∀ n ∈ d.weights P ts, n ≤ N) → n * P.bytesOf t ≤ N := fun N hN => weight_slice hts (show DataW.trod enc P W base spare held fuel ts [.slice A n c] = some (d, p) by simpa [Value.cells] using hf) hN
  rcases open_slice hts hf with ⟨hcs, _⟩ | ⟨x, l, c', m, n', D, Pl, hcs, _, hl, hm, hmm, hy, hx⟩
  · simp [Value.cells] at hcs
    obtain ⟨rfl, rfl, rfl⟩ := hcs
    exact ⟨none, [], 0, rfl, ⟨RD.nil_, fun a ha => by cases ha⟩, Nat.le_refl _, Nat.zero_le _, fun _ => rfl, fun a ha => (by cases ha), fun N hN => ⟨hwt N hN, fun a ha => by cases ha⟩, fun a ha => by cases ha⟩
  · simp [Value.cells] at hcs
    obtain ⟨rfl, rfl, rfl⟩ := hcs
    have hnm : n ≤ m := by rw [hmm]; split <;> omega
    have hel : ∀ i, ∃ q : OpL, i < n → (∀ k, k < 5 → ∀ u, q.cells[k]? = some u → W.cell? (x.add (i * 5 + k)) = some u) ∧ (0 ≤ q.k ∧ okI (q.t, q.r) ∧ ∀ w ∈ q.p, okR w) ∧ RR W W.heap.size q.A q.p ∧ (q.A = none → q.c = 0) ∧ ∀ N, (∀ n ∈ (D i).weights P t, n ≤ N) → q.p.length * P.bytesOf e ≤ N := by
      intro i
      by_cases hi : i < n
      · obtain ⟨cs', k1', k2'⟩ := hx i (by omega)
        rw [hC] at k1'
        obtain ⟨_, hlen, hcell⟩ := World.cells?_some k1'
        obtain ⟨q, rfl, q1, q2, q4, q3⟩ := open_op_cs hs hC a0 a1 a2 a3 d0 d1 d2 d3 u0 u1 ht u3 b0' b1' x0 x1 y0 y1 he ce o0 o1 o2 c0 c1 c2 h0 h1 h2 k2'
        refine ⟨q, fun _ => ⟨fun k hk u hu => ?_, q1, q2, q4, q3⟩⟩
        have e := hcell k (by omega)
        rw [add_add] at e
        rw [e]
        simpa using hu
      · exact ⟨⟨0, 0, 0, none, 0, [], 0⟩, fun h => absurd h hi⟩
    obtain ⟨F, hF⟩ := Classical.axiomOfChoice hel
    refine ⟨some x, (List.range n).map F, c, by simp, ⟨?_, ?_⟩, by simpa using hl, hm, fun h => (by cases h), ?_, fun N hN => ⟨by simpa using hwt N hN, ?_⟩, ?_⟩
    · rw [List.length_map, List.length_range]
      refine ⟨by rw [opcs_len]; simp, fun hn => ?_⟩
      obtain ⟨k0', -⟩ := hF 0 hn
      have k0'' := k0' 0 (by decide) _ rfl
      have hsp : x.spot = none := by
        have := World.cell?_spot k0''
        simpa [Addr.add] using this
      obtain ⟨bk, off, spot⟩ := x
      simp only at hsp
      subst hsp
      refine ⟨bk, off, rfl, by have := World.block_lt_of_cell? W _ k0''; simpa [Addr.add] using this, fun j u hu => ?_⟩
      have hj : j < n * 5 := by
        have := (List.getElem?_eq_some_iff.1 hu).1
        rw [opcs_len] at this
        simpa using this
      have hi : j / 5 < n := by omega
      have hj5 : j / 5 * 5 + j % 5 = j := by omega
      have hg := opcs_get ((List.range n).map F) (j / 5) (by simpa using hi) (j % 5) (by omega)
      rw [hj5] at hg
      have hk := (hF (j / 5) hi).1 (j % 5) (by omega) u (by
        rw [hg] at hu
        simpa using hu)
      rw [hj5, add_none] at hk
      exact hk
    · intro a ha
      simp only [List.mem_map, List.mem_range] at ha
      obtain ⟨i, hi, rfl⟩ := ha
      exact (hF i hi).2.2.1
    · intro a ha
      simp only [List.mem_map, List.mem_range] at ha
      obtain ⟨i, hi, rfl⟩ := ha
      exact (hF i hi).2.1
    · intro a ha
      simp only [List.mem_map, List.mem_range] at ha
      obtain ⟨i, hi, rfl⟩ := ha
      refine (hF i hi).2.2.2.2 N fun n hn => hN n ?_
      simp only [Prod.mk.injEq] at hy
      rw [hy.1]
      simp only [DataW.weights, hts, List.mem_cons, List.mem_append]
      exact .inr (.inl (weightsAll_in (List.mem_map.2 ⟨i, List.mem_range.2 hi, rfl⟩) n hn))
    · intro a ha
      simp only [List.mem_map, List.mem_range] at ha
      obtain ⟨i, hi, rfl⟩ := ha
      exact (hF i hi).2.2.2.1
end Go.Proofs.Ytbjfmkdjnglgbaa
