/-
  How arguments that came in are opened into what the walks ask; two closed facts of the program. No condition.
-/
import Derived.Test.YtmekoenmaiekfaaRows
import Derived.Test.YtmekoenmaiekfaaWords
import Derived.ProofKit
import Derived.OpenShut
import Derived.ShutString
import Derived.ChangeOld
namespace Go.Proofs.Ytmekoenmaiekfaa
open Go.ChangeShapes Go.WideShapes Go.ChangeAt Go.RowKit

theorem own : ownKnob Try.prog.godebug = none := by kernel_rfl
theorem laidOut : laidOutB Try.prog = true := by kernel_rfl

/-- A slice of bytes that came in. -/
theorem open_bytes {H : Type} {enc : TypeId × Value → H} {P : Program} {W : World} {b0 base : Nat} {r : Reach} {spare : Nat → Bool} {held : Bool} {t e : TypeId} {v : Value} {d : DataW H} {p : List MemPlace}
    (ht : P.underlying t = some (.slice e)) (he : P.underlying e = some (.int .u8)) (hC : P.cellsOf e = 1) (hv : Value.okWide P W r b0 t v) (h : DataW.Trod enc P W base spare held t v d p) :
    ∃ A l c, v = .slice A (List.length (α := UInt8) l) c ∧ RB W W.heap.size A l ∧ l.length ≤ c ∧ c ≤ maxLen := by
  obtain ⟨A, n, c, rfl⟩ := okWide_slice ht hv
  obtain ⟨fuel, hf⟩ := h
  rcases open_ints ht he hC hf with ⟨hcs, _⟩ | ⟨x, l, c', zs, hcs, _, hl, hm, hz, _, hcell, hwz⟩
  · simp [Value.cells] at hcs
    obtain ⟨rfl, rfl, rfl⟩ := hcs
    exact ⟨none, [], 0, rfl, RD.nil_, Nat.le_refl _, Nat.zero_le _⟩
  · simp [Value.cells] at hcs
    obtain ⟨rfl, rfl, rfl⟩ := hcs
    have hle : n ≤ zs.length := by rw [hz]; split <;> omega
    have hb : ∀ n : Int, (Lit.int .u8 n).wf = true → ((UInt8.ofNat n.toNat).toNat : Int) = n := by
      intro k hn
      simp [Lit.wf, IntKind.min, IntKind.max, IntKind.signed, IntKind.bits] at hn
      rw [UInt8.toNat_ofNat', Nat.mod_eq_of_lt (by omega)]
      omega
    refine ⟨some x, (zs.take n).map (fun n => UInt8.ofNat n.toNat), c, ?_, ?_, by simp; omega, hm⟩
    · simp [Nat.min_eq_left hle]
    · refine ⟨by simp [u8s_len], fun hn => ?_⟩
      simp only [List.length_map, List.length_take, Nat.min_eq_left hle] at hn
      have h0 := hcell 0 (by omega)
      have hsp : x.spot = none := by
        have := World.cell?_spot h0
        simpa [Addr.add] using this
      obtain ⟨b, off, spot⟩ := x
      simp only at hsp
      subst hsp
      refine ⟨b, off, rfl, by have := World.block_lt_of_cell? W _ h0; simpa [Addr.add] using this, fun j u hu => ?_⟩
      have hj : j < n := by
        have := (List.getElem?_eq_some_iff.1 hu).1
        simp [u8s_len] at this
        omega
      have hc := hcell j (by omega)
      rw [add_none] at hc
      rw [hc, ← hu]
      have hjz : j < zs.length := by omega
      simp only [u8s, List.map_map, List.getElem?_map, List.getElem?_take, if_pos hj, List.getElem?_eq_getElem hjz, List.getD_eq_getElem?_getD, Option.getD_some, Option.map_some, Function.comp]
      rw [hb _ (hwz _ (List.getElem_mem hjz))]
end Go.Proofs.Ytmekoenmaiekfaa
