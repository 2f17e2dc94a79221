/-
  How arguments that came in are opened into what the walks ask; two closed facts of the program. No condition.
-/
import Derived.Test.YtmkpfdcnikgokaaRows
import Derived.Test.YtmkpfdcnikgokaaWords
import Derived.ProofKit
import Derived.OpenShut
import Derived.ShutString
import Derived.ChangeOld
namespace Go.Proofs.Ytmkpfdcnikgokaa
open Go.ChangeShapes Go.WideShapes Go.ChangeAt Go.RowKit

theorem own : ownKnob Try.prog.godebug = none := by kernel_rfl
theorem laidOut : laidOutB Try.prog = true := by kernel_rfl

/-- An integer of kind uint8 is a byte. -/
theorem byte_of_wf {k : Int} (h : (Lit.int .u8 k).wf = true) : ∃ x : UInt8, k = (x.toNat : Int) := by
  simp [Lit.wf, IntKind.min, IntKind.max, IntKind.signed, IntKind.bits] at h
  refine ⟨UInt8.ofNat k.toNat, ?_⟩
  rw [UInt8.toNat_ofNat', Nat.mod_eq_of_lt (by omega)]
  omega

/-- A slice of bytes that came in. -/
theorem open_bytes {H : Type} {enc : TypeId × Value → H} {P : Program} {W : World} {b0 base : Nat} {r : Reach} {spare : Nat → Bool} {held : Bool} {t e : TypeId} {v : Value} {d : DataW H} {p : List MemPlace}
    (ht : P.underlying t = some (.slice e)) (he : P.underlying e = some (.int .u8)) (hC : P.cellsOf e = 1) (hv : Value.okWide P W r b0 t v) (h : DataW.Trod enc P W base spare held t v d p) :
    ∃ A l c, v = .slice A (List.length (α := UInt8) l) c ∧ RB W W.heap.size A l ∧ l.length ≤ c ∧ c ≤ maxLen := by
  obtain ⟨A, n, c, rfl⟩ := okWide_slice ht hv
  obtain ⟨fuel, hf⟩ := h
  rcases open_ints ht he hC hf with ⟨hcs, _⟩ | ⟨x, l, c', zs, hcs, _, hl, hm, hz, _, hcell, hwz⟩
  · simp [Value.cells] at hcs
    obtain ⟨rfl, rfl, rfl⟩ := hcs
    exact ⟨none, [], 0, rfl, RD.nil_, Nat.le_refl _, Nat.zero_le _⟩
  · simp [Value.cells] at hcs
    obtain ⟨rfl, rfl, rfl⟩ := hcs
    have hle : n ≤ zs.length := by rw [hz]; split <;> omega
    have hb : ∀ n : Int, (Lit.int .u8 n).wf = true → ((UInt8.ofNat n.toNat).toNat : Int) = n := by
      intro k hn
      simp [Lit.wf, IntKind.min, IntKind.max, IntKind.signed, IntKind.bits] at hn
      rw [UInt8.toNat_ofNat', Nat.mod_eq_of_lt (by omega)]
      omega
    refine ⟨some x, (zs.take n).map (fun n => UInt8.ofNat n.toNat), c, ?_, ?_, by simp; omega, hm⟩
    · simp [Nat.min_eq_left hle]
    · refine ⟨by simp [u8s_len], fun hn => ?_⟩
      simp only [List.length_map, List.length_take, Nat.min_eq_left hle] at hn
      have h0 := hcell 0 (by omega)
      have hsp : x.spot = none := by
        have := World.cell?_spot h0
        simpa [Addr.add] using this
      obtain ⟨b, off, spot⟩ := x
      simp only at hsp
      subst hsp
      refine ⟨b, off, rfl, by have := World.block_lt_of_cell? W _ h0; simpa [Addr.add] using this, fun j u hu => ?_⟩
      have hj : j < n := by
        have := (List.getElem?_eq_some_iff.1 hu).1
        simp [u8s_len] at this
        omega
      have hc := hcell j (by omega)
      rw [add_none] at hc
      rw [hc, ← hu]
      have hjz : j < zs.length := by omega
      simp only [u8s, List.map_map, List.getElem?_map, List.getElem?_take, if_pos hj, List.getElem?_eq_getElem hjz, List.getD_eq_getElem?_getD, Option.getD_some, Option.map_some, Function.comp]
      rw [hb _ (hwz _ (List.getElem_mem hjz))]

/-- An array of integers that came in, by value. -/
theorem open_array {H : Type} {enc : TypeId × Value → H} {P : Program} {W : World} {b0 base : Nat} {r : Reach} {spare : Nat → Bool} {held : Bool} {t e : TypeId} {k : IntKind} {n : Nat} {v : Value} {d : DataW H} {p : List MemPlace}
    (ht : P.underlying t = some (.array n e)) (he : P.underlying e = some (.int k)) (hC : P.cellsOf e = 1) (hCt : P.cellsOf t = n) (hv : Value.okWide P W r b0 t v) (h : DataW.Trod enc P W base spare held t v d p) :
    ∃ zs : List Int, v = .agg (zs.map (Value.int k)).toArray ∧ zs.length = n ∧ ∀ z ∈ zs, (Lit.int k z).wf = true := by
  unfold Value.okWide at hv
  rw [ht] at hv
  obtain ⟨cs, rfl, hsz, _⟩ := hv
  obtain ⟨fuel, hf⟩ := h
  obtain ⟨xs, m, _, _, _, hxn, hx⟩ := DataW.trod_array ht hf
  rw [hCt] at hsz
  have hel : ∀ i (hi : i < n), ∃ z, cs[i]? = some (.int k z) ∧ (Lit.int k z).wf = true := by
    intro i hi
    have h1 := hx i hi
    rw [hC, Nat.mul_one, List.getElem?_eq_getElem (by omega)] at h1
    obtain ⟨z, e1, _, hw⟩ := DataW.trod_int he h1
    refine ⟨z, ?_, hw⟩
    have h2 : ((Value.agg cs).cells.toList.drop i).take 1 = [cs[i]'(by omega)] := by
      show (cs.toList.drop i).take 1 = _
      rw [List.drop_eq_getElem_cons (by simpa using by omega)]
      simp
    rw [h2] at e1
    injection e1 with e1
    rw [Array.getElem?_eq_getElem (by omega), e1]
  refine ⟨cs.toList.map intOf, ?_, by simp [hsz], ?_⟩
  · congr 1
    apply Array.ext_getElem?
    intro i
    by_cases hi : i < n
    · obtain ⟨z, hz, _⟩ := hel i hi
      simp [hz, intOf]
    · rw [Array.getElem?_eq_none (by omega), Array.getElem?_eq_none (by simp; omega)]
  · intro z hz
    rw [List.mem_map] at hz
    obtain ⟨u, hu, rfl⟩ := hz
    obtain ⟨i, hi, rfl⟩ := List.getElem_of_mem hu
    obtain ⟨z, hz, hw⟩ := hel i (by simpa [hsz] using hi)
    have : cs.toList[i] = .int k z := by
      have := (Array.getElem?_eq_some_iff.1 hz).2
      simpa using this
    rw [this]
    exact hw

/-- Four bytes by value. -/
theorem open_four {H : Type} {enc : TypeId × Value → H} {P : Program} {W : World} {b0 base : Nat} {r : Reach} {spare : Nat → Bool} {held : Bool} {t e : TypeId} {v : Value} {d : DataW H} {p : List MemPlace}
    (ht : P.underlying t = some (.array 4 e)) (he : P.underlying e = some (.int .u8)) (hC : P.cellsOf e = 1) (hCt : P.cellsOf t = 4) (hv : Value.okWide P W r b0 t v) (h : DataW.Trod enc P W base spare held t v d p) :
    ∃ a b c d : UInt8, v = .agg #[.int .u8 (a.toNat : Int), .int .u8 (b.toNat : Int), .int .u8 (c.toNat : Int), .int .u8 (d.toNat : Int)] := by
  obtain ⟨zs, rfl, hl, hw⟩ := open_array ht he hC hCt hv h
  match zs, hl, hw with
  | [z0, z1, z2, z3], _, hw =>
    obtain ⟨a, rfl⟩ := byte_of_wf (hw z0 (by simp))
    obtain ⟨b, rfl⟩ := byte_of_wf (hw z1 (by simp))
    obtain ⟨c, rfl⟩ := byte_of_wf (hw z2 (by simp))
    obtain ⟨d, rfl⟩ := byte_of_wf (hw z3 (by simp))
    exact ⟨a, b, c, d, rfl⟩
end Go.Proofs.Ytmkpfdcnikgokaa
