/-
  How the table of CrcTells is opened. No condition.
-/
import Derived.Test.YtmekoenmaiekfaaCrcTells
import Derived.Test.YtmekoenmaiekfaaOpen
namespace Go.Proofs.Ytmekoenmaiekfaa
open Go.RowKit

theorem open_table {H : Type} {enc : TypeId × Value → H} {W : World} {b0 base : Nat} {r : Reach} {spare : Nat → Bool} {held : Bool} {v : Value} {d : DataW H} {p : List MemPlace}
    (hv : Value.okWide Try.prog W r b0 29 v) (h : DataW.Trod enc Try.prog W base spare held 29 v d p) : ∃ T : B32 → B32, v = .agg (tcells T) := by
  obtain ⟨zs, rfl, hl, hw⟩ := open_array Try.underlying29 Try.underlying28 (by kernel_rfl) (by kernel_rfl) hv h
  refine ⟨fun x => BitVec.ofNat 32 (zs.getD x.toNat 0).toNat, ?_⟩
  refine congrArg Value.agg ?_
  apply Array.ext_getElem?
  intro i
  by_cases hi : i < 256
  · rw [tcells_get _ i hi]
    have hz := hw _ (List.getElem_mem (show i < zs.length by omega))
    simp [Lit.wf, IntKind.min, IntKind.max, IntKind.signed, IntKind.bits] at hz
    simp only [List.getElem?_toArray, List.getElem?_map, List.getElem?_eq_getElem (show i < zs.length by omega), Option.map_some, u32v, Option.some.injEq, Value.int.injEq, true_and]
    rw [BitVec.toNat_ofNat, BitVec.toNat_ofNat, Nat.mod_eq_of_lt (show i < 2 ^ 32 by omega), List.getD_eq_getElem?_getD, List.getElem?_eq_getElem (show i < zs.length by omega), Option.getD_some]
    omega
  · rw [Array.getElem?_eq_none (by simp; omega), Array.getElem?_eq_none (by rw [tcells_size]; omega)]

theorem crcTells_open {H : Type} {enc : TypeId × Value → H} {W : World} {b0 base : Nat} {r : Reach} {spare : Nat → Bool} {held : Bool} {v : Value} {d : DataW H} {p : List MemPlace}
    (hv : Value.okWide Try.prog W r b0 29 v) (h : DataW.Trod enc Try.prog W base spare held 29 v d p) (A : Option Addr) (c : Nat) (l : List UInt8) (hr : RB W W.heap.size A l) :
    Calls Try.prog 5 #[v, .slice A l.length c] W fun e w' => e = .returned (.bool true) ∧ Below W.heap.size W w' := by
  obtain ⟨T, rfl⟩ := open_table hv h
  exact crcTells_walk T A c l W hr
end Go.Proofs.Ytmekoenmaiekfaa
