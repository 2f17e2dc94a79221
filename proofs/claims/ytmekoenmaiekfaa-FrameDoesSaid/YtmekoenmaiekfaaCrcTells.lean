/-
  CrcTells: true for every table and text; what the document's own functions give (octavoref02). No condition.
-/
import Derived.Test.YtmekoenmaiekfaaCrcLaw
import Derived.Test.YtmekoenmaiekfaaPast
import Derived.Test.YtmekoenmaiekfaaArrEq
namespace Go.Proofs.Ytmekoenmaiekfaa
open Go.RowKit

/-- octavoref02.Entry. -/
theorem entry_val (n : B32) : (bs n).toNat = if n.toNat % 2 = 1 then (n.toNat / 2) ^^^ 3988292384 else n.toNat / 2 := by
  have hb := bs_val n
  have e0 : (bs n).toNat = (n.toNat / 2) ^^^ (if n.toNat % 2 = 1 then 3988292384 else 0) := by
    unfold bs
    rw [BitVec.toNat_xor, BitVec.toNat_ushiftRight, Nat.shiftRight_eq_div_pow]
    have : n.getLsbD 0 = decide (n.toNat % 2 = 1) := by rw [← BitVec.testBit_toNat, Nat.testBit_zero]
    rw [this]
    by_cases h : n.toNat % 2 = 1 <;> simp [h, poly]
  rw [e0]
  split <;> simp

set_option maxHeartbeats 400000 in
set_option maxRecDepth 100000 in
theorem entry_ok (x : B32) (w : World) : Calls Try.prog 38 #[.int .u32 (x.toNat : Int)] w fun e w' => e = .returned (.int .u32 ((tb x).toNat : Int)) ∧ w = w' := by
  go_enter Try.func38, Try.ntmps38
  go_wp2_with fail
  go_loop [0, 3] (fun n i => ∃ k : Nat, k ≤ 8 ∧ i = .int .i64 (k : Int) ∧ n = .int .u32 ((bsk k x).toNat : Int)) (fun _ i => 8 - (intOf i).toNat)
  case atStart => exact ⟨0, by omega, rfl, ret_val rfl⟩
  case round =>
    obtain ⟨k, hk, rfl, rfl⟩ := hrel
    by_cases hlt : (k : Int) < 8
    · have hn := hide (bsk_next k x)
      have hv := hide (entry_val (bsk k x))
      have hs := (bsk k x).isLt
      generalize bsk k x = s at hn hv hs ⊢
      by_cases h2 : (s.toNat : Int) % 2 = 1
      · have ex : bits .xor .u32 ((s.toNat : Int) / 2) 3988292384 = ((bs s).toNat : Int) := by
          have := u32_xor_nat (s.toNat / 2) 3988292384 (by omega) (by omega)
          rw [hv.out, if_pos (by omega)]
          simpa using this
        have h3 : ((s.toNat : Int) % 2 == 1) = true := by simpa using h2
        clear hs
        go_wp2_with fail
        go_round
        case rel => exact ⟨k + 1, by omega, by go_num, ret_val (by rw [hn.out])⟩
        case measure => simp [intOf]; omega
      · have ex : (s.toNat : Int) / 2 = ((bs s).toNat : Int) := by
          rw [hv.out, if_neg (by omega)]
          omega
        have h3 : ((s.toNat : Int) % 2 == 1) = false := by simpa using h2
        clear hs
        go_wp2_with fail
        go_round
        case rel => exact ⟨k + 1, by omega, by go_num, ret_val (by rw [hn.out])⟩
        case measure => simp [intOf]; omega
    · obtain rfl : k = 8 := by omega
      go_wp2_with fail
      go_ret
      exact ⟨rfl, rfl⟩

set_option maxHeartbeats 800000 in
set_option maxRecDepth 100000 in
theorem reftable_ok (w : World) : Calls Try.prog 25 #[] w fun e w' => e = .returned (.agg (tcells tb)) ∧ Below w.heap.size w w' := by
  have hz := zero_table
  go_enter Try.func25, Try.ntmps25
  go_wp2_with fail
  clear hz
  have hb0 := (((Below.refl w.heap.size w).alloc (Nat.le_refl _) (.cells tzero 29)).alloc (by simp) (.cells tzero 29))
  have hg0 := heap_alloc2_old w (.cells tzero 29) (.cells tzero 29)
  have hg1 := heap_alloc2_new w (.cells tzero 29) (.cells tzero 29)
  generalize (w.alloc (.cells tzero 29)).alloc (.cells tzero 29) = w0 at hb0 hg0 hg1 ⊢
  go_loopw [2] (fun i wr => ∃ (k : Nat) (cur : Array Value), k ≤ 256 ∧ i = .int .i64 (k : Int) ∧ wr.heap[w.heap.size]? = some (.cells tzero 29 (0, 0)) ∧ wr.heap[w.heap.size + 1]? = some (.cells cur 29 (0, 0)) ∧ Hid (cur.size = 256) ∧ Hid (∀ j, j < k → cur[j]? = some (u32v (tb (BitVec.ofNat 32 j)))) ∧ Below w.heap.size w wr) (fun i _ => 256 - (intOf i).toNat)
  case atStart => exact ⟨0, tzero, by omega, rfl, hg0, hg1, hide (tcells_size _), hide (fun j hj => absurd hj (by omega)), hb0⟩
  case round =>
    obtain ⟨k, cur, hk, rfl, hr, hg, hsz, hcur, hbel⟩ := hrel
    by_cases hlt : (k : Int) < 256
    · obtain ⟨v, hv⟩ : ∃ v, cur[k]? = some v := ⟨cur[k]'(by have := hsz.out; omega), Array.getElem?_eq_getElem _⟩
      have hcell : wr.cell? ⟨w.heap.size + 1, k, none⟩ = some v := by rw [cell_of_row wr _ k cur _ _ hg]; exact hv
      have hfr := frozen_of_row wr (w.heap.size + 1) k cur _ hg
      clear hv
      have hg' := hide hg
      have hr' := hide hr
      clear hg hr
      have ek : (k : Int) = ((BitVec.ofNat 32 k).toNat : Int) := by
        rw [BitVec.toNat_ofNat, Nat.mod_eq_of_lt (by omega)]
      have ek' := hide ek
      clear ek
      go_wp2_with fail
      refine (show Calls Try.prog 38 #[.int .u32 (k : Int)] wr _ from by rw [ek'.out]; exact entry_ok _ _).mono ?_
      rintro e w1 ⟨rfl, rfl⟩
      go_wp2_with fail
      go_roundw
      case rel =>
        refine ⟨k + 1, cur.setIfInBounds k (u32v (tb (BitVec.ofNat 32 k))), by omega, by go_num, ?_, heap_setCell_same wr _ _ cur _ _ hg'.out, hide (by rw [Array.size_setIfInBounds]; exact hsz.out), hide (fun i hi => ?_), hbel.setCell (by simp) _⟩
        · rw [heap_setCell_other wr _ _ _ (by simp)]
          exact hr'.out
        · rw [Array.getElem?_setIfInBounds]
          by_cases e : k = i
          · subst e
            rw [if_pos rfl, if_pos (by have := hsz.out; omega)]
          · rw [if_neg e]
            exact hcur.out i (by omega)
      case measure => simp [intOf]; omega
    · have hk' : k = 256 := by omega
      have hcut : cur = tcells tb := by
        apply Array.ext_getElem?
        intro i
        by_cases hi : i < 256
        · rw [hcur.out i (by omega), tcells_get tb i hi]
        · rw [Array.getElem?_eq_none (by rw [hsz.out]; omega), Array.getElem?_eq_none (by rw [tcells_size]; omega)]
      have hgt : wr.heap[w.heap.size + 1]? = some (.cells (tcells tb) 29 (0, 0)) := by rw [← hcut]; exact hg
      clear hk' hcut hg hsz hcur
      go_wp2_with (first
        | (with_reducible refine wpList_load_row rfl 29 (.tmp 1) rfl (w.heap.size + 1) rfl 29 (tcells tb) (0, 0) (.array 256 28) hgt Try.underlying29 rfl (info_table tb) ?_)
        | (with_reducible refine wpList_store_row rfl 29 (.tmp 0) (.tmp 12) rfl w.heap.size (tcells tb) rfl rfl 29 tzero hr (info_table tb) (tzero_size tb) (one_table tb) ?_))
      exact bodyPost_ret (results_cell_row rfl _ _ w.heap.size 29 (tcells tb) (0, 0) (.array 256 28) rfl (setRow_heap _ _ _ _ _ _ hr) Try.underlying29 rfl (info_table tb)) rfl ⟨rfl, below_setRow hbel (Nat.le_refl _) _⟩

/-- One round of the document's sums. -/
theorem ref_round (T : B32 → B32) (s : B32) (x : UInt8) : ∃ k : Nat, k < 256 ∧ bits .xor .u32 ((s.toNat : Int) % 256) (x.toNat : Int) = (k : Int) ∧
    (tcells T)[k]? = some (.int .u32 ((T (BitVec.ofNat 32 k)).toNat : Int)) ∧ bits .xor .u32 ((T (BitVec.ofNat 32 k)).toNat : Int) ((s.toNat : Int) / 256) = ((stp T s x).toNat : Int) := by
  obtain ⟨k, h1, h2, h3, h4⟩ := sum_round T s x
  refine ⟨k, h1, ?_, h3, h4⟩
  have hx := x.toNat_lt
  have e : (s.toNat : Int) % 256 = ((s.toNat % 256 : Nat) : Int) := by omega
  rw [e] at h2 ⊢
  rw [u8_xor_nat _ _ (by omega) (by omega)] at h2
  rw [u32_xor_nat _ _ (by omega) (by omega)]
  exact h2

set_option maxHeartbeats 800000 in
set_option maxRecDepth 100000 in
theorem refsum_any (T : B32 → B32) (A : Option Addr) (c : Nat) (l : List UInt8) (w : World) (hr : RB w w.heap.size A l) (hl : l.length < 1000000) :
    Calls Try.prog 26 #[.agg (tcells T), .slice A l.length c] w fun e w' => e = .returned (.int .u32 ((smT T l).toNat : Int)) ∧ Below w.heap.size w w' := by
  go_enter Try.func26, Try.ntmps26
  go_wp2_with fail
  have hb := (Below.refl w.heap.size w).alloc (Nat.le_refl _) (.cells (tcells T) 29)
  have hr' := hr.alloc (Nat.le_refl _) (.cells (tcells T) 29)
  have hg := hide (heap_alloc_new w (.cells (tcells T) 29))
  clear hr
  generalize w.alloc (.cells (tcells T) 29) = W at hb hr' hg ⊢
  go_loop [5, 6] (fun n i => ∃ (k : Nat), k ≤ l.length ∧ i = .int .i64 (k : Int) ∧ n = .int .u32 ((run T ones (l.take k)).toNat : Int)) (fun _ i => l.length - (intOf i).toNat)
  case atStart => exact ⟨0, by omega, rfl, ret_val rfl⟩
  case round =>
    obtain ⟨k, hk, rfl, rfl⟩ := hrel
    by_cases hlt : k < l.length
    · obtain ⟨b, off, rfl, hbb, hc⟩ := RB.cell hr' (by omega)
      have hck := hc k hlt
      clear hc
      have hsn := hide (run_snoc T ones l k hlt)
      generalize run T ones (l.take k) = s at hsn ⊢
      have lx : (l[k].toNat : Int) ≤ 255 := by have := l[k].toNat_lt; omega
      obtain ⟨j, hj, e1, e2, e3⟩ := ref_round T s l[k]
      have hcj : W.cell? ⟨w.heap.size, j, none⟩ = some (.int .u32 ((T (BitVec.ofNat 32 j)).toNat : Int)) := by rw [cell_of_row W _ j _ _ _ (unhide hg)]; exact e2
      have hj' : (j : Int) < 256 := by omega
      clear e2
      have e3' := hide e3
      clear e3
      go_wp2_with fail
      go_round
      case rel => exact ⟨k + 1, by omega, by go_num, ret_val (by rw [e3'.out, hsn.out])⟩
      case measure => simp [intOf]; omega
    · have hk' : k = l.length := by omega
      subst hk'
      rw [List.take_of_length_le (Nat.le_refl _)]
      have hs := (run T ones l).isLt
      have hnv := hide (not_val (run T ones l))
      have hs' : ((run T ones l).toNat : Int) ≤ 4294967295 := by omega
      clear hs
      go_wp2_with fail
      go_ret
      exact ⟨ret_int hnv.out, hb⟩

set_option maxHeartbeats 800000 in
set_option maxRecDepth 100000 in
theorem plain_ok (A : Option Addr) (c : Nat) (l : List UInt8) (w : World) (hr : RB w w.heap.size A l) (hl : l.length < 1000000) :
    Calls Try.prog 27 #[.slice A l.length c] w fun e w' => e = .returned (.int .u32 ((sm l).toNat : Int)) ∧ w = w' := by
  go_enter Try.func27, Try.ntmps27
  go_wp2_with fail
  go_loop [3, 4] (fun n i => ∃ (k : Nat), k ≤ l.length ∧ i = .int .i64 (k : Int) ∧ n = .int .u32 ((run tb ones (l.take k)).toNat : Int)) (fun _ i => l.length - (intOf i).toNat)
  case atStart => exact ⟨0, by omega, rfl, ret_val rfl⟩
  case round =>
    obtain ⟨k, hk, rfl, rfl⟩ := hrel
    by_cases hlt : k < l.length
    · obtain ⟨b, off, rfl, hbb, hc⟩ := RB.cell hr (by omega)
      have hck := hc k hlt
      clear hc
      have hsn := hide (run_snoc tb ones l k hlt)
      generalize run tb ones (l.take k) = s at hsn ⊢
      have lx : (l[k].toNat : Int) ≤ 255 := by have := l[k].toNat_lt; omega
      obtain ⟨j, hj, e1, e2, e3⟩ := ref_round tb s l[k]
      have ej := hide (show (j : Int) = ((BitVec.ofNat 32 j).toNat : Int) by rw [BitVec.toNat_ofNat, Nat.mod_eq_of_lt (by omega)])
      clear e2
      have e3' := hide e3
      clear e3
      go_wp2_with fail
      refine (show Calls Try.prog 38 #[.int .u32 (j : Int)] w _ from by rw [ej.out]; exact entry_ok _ _).mono ?_
      rintro e w1 ⟨rfl, rfl⟩
      go_wp2_with fail
      go_round
      case rel => exact ⟨k + 1, by omega, by go_num, ret_val (by rw [e3'.out, hsn.out])⟩
      case measure => simp [intOf]; omega
    · have hk' : k = l.length := by omega
      subst hk'
      rw [List.take_of_length_le (Nat.le_refl _)]
      have hs := (run tb ones l).isLt
      have hnv := hide (not_val (run tb ones l))
      have hs' : ((run tb ones l).toNat : Int) ≤ 4294967295 := by omega
      clear hs
      go_wp2_with fail
      go_ret
      exact ⟨ret_int hnv.out, rfl⟩

theorem plain_tb (A : Option Addr) (c : Nat) (l : List UInt8) (w : World) (hr : RB w w.heap.size A l) (hl : l.length < 1000000) :
    Calls Try.prog 27 #[.slice A l.length c] w fun e w' => e = .returned (.int .u32 ((smT tb l).toNat : Int)) ∧ Below w.heap.size w w' :=
  (plain_ok A c l w hr hl).mono fun _ _ ⟨he, hw⟩ => ⟨he, hw ▸ Below.refl _ _⟩

theorem u32info : ∃ i, Try.prog.info? 28 = some i := Option.isSome_iff_exists.1 (by kernel_rfl)
theorem tcells_map (T : B32 → B32) : tcells T = (((List.range 256).map fun i => ((T (BitVec.ofNat 32 i)).toNat : Int)).map (Value.int .u32)).toArray := by
  apply Array.ext_getElem?
  intro i
  by_cases hi : i < 256
  · rw [tcells_get T i hi]
    simp [hi, u32v]
  · rw [Array.getElem?_eq_none (by rw [tcells_size]; omega), Array.getElem?_eq_none (by simp; omega)]
theorem eq_table (T : B32 → B32) (w : World) : (binOp .eql 29 (.agg (tcells T)) (.agg (tcells T))).run Try.prog w = .ok (.bool true) w := by
  obtain ⟨i, hi⟩ := u32info
  rw [tcells_map, run_eql_ints w 29 28 .u32 256 Try.underlying29 Try.underlying28 hi (by kernel_rfl) _ _ (by simp) (by simp)]
  simp

set_option maxHeartbeats 800000 in
set_option maxRecDepth 100000 in
theorem crcTells_walk (T : B32 → B32) (A : Option Addr) (c : Nat) (l : List UInt8) (w : World) (hr : RB w w.heap.size A l) :
    Calls Try.prog 5 #[.agg (tcells T), .slice A l.length c] w fun e w' => e = .returned (.bool true) ∧ Below w.heap.size w w' := by
  by_cases hl : (10000 : Int) < (l.length : Int)
  · go_enter Try.func5, Try.ntmps5
    go_wp2_with fail
    go_ret
    exact ⟨rfl, (Below.refl _ _).alloc (Nat.le_refl _) _⟩
  · have hlt : l.length < 1000000 := by omega
    have hb := (Below.refl w.heap.size w).alloc (Nat.le_refl _) (.cells (tcells T) 29)
    have hc0 := conv_bytes (P := Try.prog) (RD.alloc hr (Nat.le_refl _) (.cells (tcells T) 29)) Try.underlying23 Try.underlying5 Try.underlying9 c
    go_enter Try.func5, Try.ntmps5
    go_wp2_with fail
    clear hc0
    have hr' : RB (w.alloc (.cells (tcells T) 29)) (w.alloc (.cells (tcells T) 29)).heap.size A l := (RD.alloc hr (Nat.le_refl _) (.cells (tcells T) 29)).more (by simp)
    have hg := heap_alloc_new w (.cells (tcells T) 29)
    have hgl : w.heap.size < (w.alloc (.cells (tcells T) 29)).heap.size := by simp
    generalize w.alloc (.cells (tcells T) 29) = w2 at hb hr' hg hgl ⊢
    generalize w.heap.size = g at hg hgl ⊢
    have heq := eq_table tb
    have hload : ∀ u, (loadVar 29 ⟨g, 0, none⟩).run Try.prog (past w2 u) = .ok (.agg (tcells T)) (past w2 u) := fun u =>
      run_loadVar_row _ g _ _ _ (0, 0) _ ((below_past w2 u).block g hgl |>.trans hg) Try.underlying29 rfl (info_table T)
    have hconv : ∀ u, (convert 23 9 (.slice A l.length c)).run Try.prog (past w2 u) = .ok (.string ⟨l.toArray⟩) (past w2 u) := fun u =>
      conv_bytes (P := Try.prog) (hr'.past u) Try.underlying23 Try.underlying5 Try.underlying9 c
    clear hg
    refine wp_region_past (by kernel_rfl) (by kernel_rfl) ?_
    repeat (first
      | (refine quiet_load 29 (.tmp 2) g rfl rfl rfl (fun W hW => by obtain ⟨u, rfl⟩ := hW; exact hload u) ?_; simp only [Act.put, List.setIfInBounds_toArray, List.set_cons_zero, List.set_cons_succ])
      | (quiet_step ((first
        | (go_at_call 21; exact past_call (table_ok _))
        | (go_at_call 25; exact past_call (reftable_ok _))
        | (go_at_call_of 24 (Value.agg (tcells T)); exact past_call (sum_any T A c l _ (hr'.past _) hlt))
        | (go_at_call_of 26 (Value.agg (tcells T)); exact past_call (refsum_any T A c l _ (hr'.past _) hlt))
        | (go_at_call_of 24 (Value.agg (tcells tb)); exact past_call (sum_any tb A c l _ (hr'.past _) hlt))
        | (go_at_call 27; exact past_call (plain_tb A c l _ (hr'.past _) hlt))))))
    refine wpQuiet_nil ?_
    intro w3 hw3
    obtain ⟨u, rfl⟩ := hw3
    go_wp2_with fail
    go_ret
    exact ⟨rfl, fresh hb (below_past w2 u)⟩
end Go.Proofs.Ytmekoenmaiekfaa
