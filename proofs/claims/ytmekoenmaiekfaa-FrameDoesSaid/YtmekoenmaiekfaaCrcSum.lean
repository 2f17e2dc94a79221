/-
  What crc.Sum gives, by any table: the plain sum. Condition: fewer than a million bytes.
-/
import Derived.Test.YtmekoenmaiekfaaCrcTable
namespace Go.Proofs.Ytmekoenmaiekfaa
open Go.RowKit

/-- One round of the sum, in the walk's spelling. -/
theorem sum_round (T : B32 → B32) (s : B32) (x : UInt8) : ∃ k : Nat, k < 256 ∧ bits .xor .u8 ((s.toNat : Int) % 256) (x.toNat : Int) = (k : Int) ∧
    (tcells T)[k]? = some (.int .u32 ((T (BitVec.ofNat 32 k)).toNat : Int)) ∧ bits .xor .u32 ((T (BitVec.ofNat 32 k)).toNat : Int) ((s.toNat : Int) / 256) = ((stp T s x).toNat : Int) := by
  have hx := x.toNat_lt
  have hk : (s.toNat % 256) ^^^ x.toNat < 256 := Nat.xor_lt_two_pow (n := 8) (by omega) (by omega)
  have ek : (s &&& 255#32) ^^^ BitVec.ofNat 32 x.toNat = BitVec.ofNat 32 ((s.toNat % 256) ^^^ x.toNat) := by
    apply BitVec.eq_of_toNat_eq
    rw [BitVec.toNat_xor, BitVec.toNat_and, BitVec.toNat_ofNat, BitVec.toNat_ofNat, BitVec.toNat_ofNat, Nat.mod_eq_of_lt (show x.toNat < 2 ^ 32 by omega), Nat.mod_eq_of_lt (show (s.toNat % 256) ^^^ x.toNat < 2 ^ 32 by omega)]
    congr 1
    exact Nat.and_two_pow_sub_one_eq_mod s.toNat 8
  refine ⟨(s.toNat % 256) ^^^ x.toNat, hk, ?_, ?_, ?_⟩
  · have e : (s.toNat : Int) % 256 = ((s.toNat % 256 : Nat) : Int) := by omega
    rw [e]
    exact u8_xor_nat _ _ (by omega) (by omega)
  · rw [tcells_get T _ hk]; rfl
  · have e : (s.toNat : Int) / 256 = ((s.toNat / 256 : Nat) : Int) := by omega
    have hs := s.isLt
    have ht := (T (BitVec.ofNat 32 ((s.toNat % 256) ^^^ x.toNat))).isLt
    rw [e, u32_xor_nat _ _ (by omega) (by omega)]
    unfold stp
    rw [ek, BitVec.toNat_xor, BitVec.toNat_ushiftRight, Nat.shiftRight_eq_div_pow]

theorem run_snoc (T : B32 → B32) (s : B32) (l : List UInt8) (k : Nat) (h : k < l.length) : run T s (l.take (k + 1)) = stp T (run T s (l.take k)) l[k] := by
  rw [List.take_succ_eq_append_getElem h, run_append]
  rfl
theorem not_val (s : B32) : 4294967295 - (s.toNat : Int) = ((~~~ s).toNat : Int) := by
  rw [BitVec.toNat_not]
  have := s.isLt
  omega

theorem flip_val (s : B32) : bits .xor .u32 IntKind.u32.max (s.toNat : Int) = ((~~~ s).toNat : Int) := by
  have hs := s.isLt
  have e : IntKind.u32.max = ((4294967295 : Nat) : Int) := by decide
  rw [e, u32_xor_nat _ _ (by omega) (by omega)]
  have : ~~~ s = ones ^^^ s := by
    apply BitVec.eq_of_getLsbD_eq
    intro i hi'
    have ho : ones.getLsbD i = true := by
      rw [show ones = ~~~ 0#32 by decide, BitVec.getLsbD_not, BitVec.getLsbD_zero]
      simp [hi']
    rw [BitVec.getLsbD_xor, BitVec.getLsbD_not, ho]
    simp [hi']
  rw [this, BitVec.toNat_xor]
  rfl

set_option maxHeartbeats 400000 in
set_option maxRecDepth 100000 in
theorem sum_any (T : B32 → B32) (A : Option Addr) (c : Nat) (l : List UInt8) (w : World) (hr : RB w w.heap.size A l) (hl : l.length < 1000000) :
    Calls Try.prog 24 #[.agg (tcells T), .slice A l.length c] w fun e w' => e = .returned (.int .u32 ((smT T l).toNat : Int)) ∧ Below w.heap.size w w' := by
  go_enter Try.func24, Try.ntmps24
  go_wp2_with fail
  have hb := (Below.refl w.heap.size w).alloc (Nat.le_refl _) (.cells (tcells T) 29)
  have hr' := hr.alloc (Nat.le_refl _) (.cells (tcells T) 29)
  have hg := hide (heap_alloc_new w (.cells (tcells T) 29))
  clear hr
  generalize w.alloc (.cells (tcells T) 29) = W at hb hr' hg ⊢
  go_loop [5, 10] (fun n i => ∃ (k : Nat), k ≤ l.length ∧ i = .int .i64 (k : Int) ∧ n = .int .u32 ((run T ones (l.take k)).toNat : Int)) (fun _ i => l.length - (intOf i).toNat)
  case atStart => exact ⟨0, by omega, rfl, ret_val rfl⟩
  case round =>
    obtain ⟨k, hk, rfl, rfl⟩ := hrel
    by_cases hlt : k < l.length
    · obtain ⟨b, off, rfl, hbb, hc⟩ := RB.cell hr' (by omega)
      have hck := hc k hlt
      clear hc
      have hsn := hide (run_snoc T ones l k hlt)
      generalize run T ones (l.take k) = s at hsn ⊢
      obtain ⟨j, hj, e1, e2, e3⟩ := sum_round T s l[k]
      have hcj : W.cell? ⟨w.heap.size, j, none⟩ = some (.int .u32 ((T (BitVec.ofNat 32 j)).toNat : Int)) := by rw [cell_of_row W _ j _ _ _ (unhide hg)]; exact e2
      have hj' : (j : Int) < 256 := by omega
      clear e2
      have e3' := hide e3
      clear e3
      go_wp2_with fail
      go_round
      case rel => exact ⟨k + 1, by omega, by go_num, ret_val (by rw [e3'.out, hsn.out])⟩
      case measure => simp [intOf]; omega
    · have hk' : k = l.length := by omega
      subst hk'
      rw [List.take_of_length_le (Nat.le_refl _)]
      go_wp2_with fail
      go_ret
      exact ⟨ret_int (flip_val _), hb⟩
end Go.Proofs.Ytmekoenmaiekfaa
