/-
  What crc.Table gives: the table. No condition.
-/
import Derived.Test.YtmekoenmaiekfaaRows
import Derived.Test.YtmekoenmaiekfaaWords
import Derived.Test.YtmekoenmaiekfaaCrcMath
import Derived.Laws.CopyOwn
namespace Go.Proofs.Ytmekoenmaiekfaa
open Go.RowKit

/-- A number of 32 bits as a value. -/
def u32v (x : B32) : Value := .int .u32 (x.toNat : Int)
/-- A table as the cells of an array. -/
def tcells (T : B32 → B32) : Array Value := Array.ofFn (n := 256) fun i => u32v (T (BitVec.ofNat 32 i.val))
theorem tcells_size (T : B32 → B32) : (tcells T).size = 256 := by simp [tcells]
theorem tcells_get (T : B32 → B32) (i : Nat) (h : i < 256) : (tcells T)[i]? = some (u32v (T (BitVec.ofNat 32 i))) := by
  simp [tcells, h]

theorem bsk_next (j : Nat) (n : B32) : bsk (j + 1) n = bs (bsk j n) := bsk_add j 1 n
theorem bs_val (n : B32) : bits .xor .u32 ((n.toNat : Int) / 2) (bits .and .u32 3988292384 (-bits .and .u32 (n.toNat : Int) 1 % 4294967296)) = ((bs n).toNat : Int) := by
  have hn := n.isLt
  have e1 : bits .and .u32 (n.toNat : Int) 1 = ((n.toNat &&& 1 : Nat) : Int) := u32_and_nat n.toNat 1 (by omega) (by omega)
  rw [e1, Nat.and_one_is_mod]
  have e0 : (bs n).toNat = (n.toNat / 2) ^^^ (if n.toNat % 2 = 1 then 3988292384 else 0) := by
    unfold bs
    rw [BitVec.toNat_xor, BitVec.toNat_ushiftRight, Nat.shiftRight_eq_div_pow]
    have : n.getLsbD 0 = decide (n.toNat % 2 = 1) := by
      rw [← BitVec.testBit_toNat, Nat.testBit_zero]
    rw [this]
    by_cases h : n.toNat % 2 = 1 <;> simp [h, poly]
  rw [e0]
  have d2 : (n.toNat : Int) / 2 = ((n.toNat / 2 : Nat) : Int) := by omega
  rw [d2]
  by_cases h : n.toNat % 2 = 1
  · rw [h, if_pos rfl]
    have e2 : bits .and .u32 3988292384 (-((1 : Nat) : Int) % 4294967296) = ((3988292384 : Nat) : Int) := by
      have := u32_and_nat 3988292384 4294967295 (by omega) (by omega)
      simpa using this
    rw [e2]
    exact u32_xor_nat _ _ (by omega) (by omega)
  · have h0 : n.toNat % 2 = 0 := by omega
    rw [h0, if_neg (by omega)]
    have e2 : bits .and .u32 3988292384 (-((0 : Nat) : Int) % 4294967296) = ((0 : Nat) : Int) := by
      have := u32_and_nat 3988292384 0 (by omega) (by omega)
      simpa using this
    rw [e2]
    exact u32_xor_nat _ _ (by omega) (by omega)

/-- The zero table. -/
def tzero : Array Value := tcells fun _ => 0#32
theorem tzero_size (T : B32 → B32) : tzero.size = (tcells T).size := by rw [tcells_size]; exact tcells_size _
theorem zero_table (w : World) : (zeroValue 29).run Try.prog w = .ok (.agg tzero) w := by kernel_rfl
theorem info_table (T : B32 → B32) : (Try.prog.info? 29).map (·.size) = some (tcells T).size := by rw [tcells_size]; kernel_rfl
theorem one_table (T : B32 → B32) : (tcells T).all (·.oneCell') = true := by
  rw [Array.all_eq_true]
  intro i hi
  simp [tcells, u32v, Value.oneCell']

set_option maxHeartbeats 400000 in
set_option maxRecDepth 100000 in
theorem table_ok (w : World) : Calls Try.prog 21 #[] w fun e w' => e = .returned (.agg (tcells tb)) ∧ Below w.heap.size w w' := by
  have hz := zero_table
  go_enter Try.func21, Try.ntmps21
  go_wp2_with fail
  clear hz
  go_loopw [3] (fun i wr => ∃ (k : Nat) (cur : Array Value), k ≤ 256 ∧ i = .int .u32 (k : Int) ∧ wr.heap[w.heap.size]? = some (.cells cur 29 (0, 0)) ∧ Hid (cur.size = 256) ∧ Hid (∀ j, j < k → cur[j]? = some (u32v (tb (BitVec.ofNat 32 j)))) ∧ Below w.heap.size w wr) (fun i _ => 256 - (intOf i).toNat)
  case atStart => exact ⟨0, tzero, by omega, rfl, heap_alloc_new w _, hide (tcells_size _), hide (fun j hj => absurd hj (by omega)), (Below.refl _ _).alloc (Nat.le_refl _) _⟩
  case round =>
    obtain ⟨k, cur, hk, rfl, hg, hsz, hcur, hbel⟩ := hrel
    by_cases hlt : (k : Int) < 256
    · go_wp2_with fail
      go_loop [2, 7] (fun n c => ∃ (j : Nat), j ≤ 8 ∧ c = .int .i64 (j : Int) ∧ n = .int .u32 ((bsk j (BitVec.ofNat 32 k)).toNat : Int)) (fun _ c => 8 - (intOf c).toNat)
      case atStart => exact ⟨0, by omega, rfl, ret_val (by simp [bsk]; omega)⟩
      case round =>
        obtain ⟨j, hj, rfl, rfl⟩ := hrel
        by_cases hlt2 : (j : Int) < 8
        · go_wp2_with fail
          go_round
          case rel =>
            exact ⟨j + 1, by omega, by go_num, ret_val (by rw [bs_val, bsk_next])⟩
          case measure => simp [intOf]; omega
        · obtain rfl : j = 8 := by omega
          obtain ⟨v, hv⟩ : ∃ v, cur[k]? = some v := ⟨cur[k]'(by have := hsz.out; omega), Array.getElem?_eq_getElem _⟩
          have hcell : wr.cell? ⟨w.heap.size, k, none⟩ = some v := by rw [cell_of_row wr _ k cur _ _ hg]; exact hv
          have hfr := frozen_of_row wr w.heap.size k cur _ hg
          clear hv
          have hg' := hide hg
          clear hg
          go_wp2_with fail
          go_roundw
          case rel =>
            refine ⟨k + 1, cur.setIfInBounds k (u32v (tb (BitVec.ofNat 32 k))), by omega, by go_num, heap_setCell_same wr _ _ cur _ _ (unhide hg'), hide (by rw [Array.size_setIfInBounds]; exact hsz.out), hide (fun i hi => ?_), hbel.setCell (Nat.le_refl _) _⟩
            rw [Array.getElem?_setIfInBounds]
            by_cases e : k = i
            · subst e
              rw [if_pos rfl, if_pos (by have := hsz.out; omega)]
            · rw [if_neg e]
              exact hcur.out i (by omega)
          case measure => simp [intOf]; omega
    · have hk' : k = 256 := by omega
      have hcut : cur = tcells tb := by
        apply Array.ext_getElem?
        intro i
        by_cases hi : i < 256
        · rw [hcur.out i (by omega), tcells_get tb i hi]
        · rw [Array.getElem?_eq_none (by rw [hsz.out]; omega), Array.getElem?_eq_none (by rw [tcells_size]; omega)]
      have hgt : wr.heap[w.heap.size]? = some (.cells (tcells tb) 29 (0, 0)) := by rw [← hcut]; exact hg
      clear hk' hcut hg hsz hcur
      go_wp2_with (first
        | (with_reducible refine wpList_load_row rfl 29 (.tmp 0) rfl w.heap.size rfl 29 (tcells tb) (0, 0) (.array 256 28) hgt Try.underlying29 rfl (info_table tb) ?_)
        | (with_reducible refine wpList_store_row rfl 29 (.tmp 0) (.tmp 21) rfl w.heap.size (tcells tb) rfl rfl 29 (tcells tb) hgt (info_table tb) rfl (one_table tb) ?_))
      exact bodyPost_ret (results_cell_row rfl _ _ w.heap.size 29 (tcells tb) (0, 0) (.array 256 28) rfl (setRow_heap _ _ _ _ _ _ hgt) Try.underlying29 rfl (info_table tb)) rfl ⟨rfl, below_setRow hbel (Nat.le_refl _) _⟩
end Go.Proofs.Ytmekoenmaiekfaa
