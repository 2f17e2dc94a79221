/-
  CrcThree: true for every three texts. No condition.
-/
import Derived.Test.YtmekoenmaiekfaaCrcLaw
import Derived.Test.YtmekoenmaiekfaaNumPut
import Derived.Test.YtmekoenmaiekfaaPast
import Derived.StillTailTactics
namespace Go.Proofs.Ytmekoenmaiekfaa
open Go.RowKit

theorem xor3_len : ∀ (x y z : List UInt8), x.length = y.length → y.length = z.length → (xor3 x y z).length = x.length
  | [], [], [], _, _ => rfl
  | _ :: x, _ :: y, _ :: z, h1, h2 => by simp [xor3, xor3_len x y z (by simpa using h1) (by simpa using h2)]
theorem xor3_get : ∀ (x y z : List UInt8) (i : Nat) (h1 : i < x.length) (h2 : i < y.length) (h3 : i < z.length), x.length = y.length → y.length = z.length → (xor3 x y z)[i]? = some (x[i] ^^^ y[i] ^^^ z[i])
  | _ :: _, _ :: _, _ :: _, 0, _, _, _, _, _ => by simp [xor3]
  | _ :: x, _ :: y, _ :: z, i + 1, h1, h2, h3, e1, e2 => by
    simp only [xor3, List.getElem?_cons_succ, List.getElem_cons_succ]
    exact xor3_get x y z i (by simpa using h1) (by simpa using h2) (by simpa using h3) (by simpa using e1) (by simpa using e2)

set_option maxHeartbeats 800000 in
set_option maxRecDepth 100000 in
theorem crcThree_walk (A0 A1 A2 : Option Addr) (c0 c1 c2 : Nat) (l0 l1 l2 : List UInt8) (w : World) (r0 : RB w w.heap.size A0 l0) (r1 : RB w w.heap.size A1 l1) (r2 : RB w w.heap.size A2 l2)
    (k0 : l0.length ≤ c0) (k1 : l1.length ≤ c1) (k2 : l2.length ≤ c2) :
    Calls Try.prog 8 #[.slice A0 l0.length c0, .slice A1 l1.length c1, .slice A2 l2.length c2] w fun e w' => e = .returned (.bool true) ∧ Below w.heap.size w w' := by
  obtain ⟨i0, hi0, hz0, hz1, hz2⟩ := info_parts u8info
  obtain ⟨n, hn0, hn1, hn2, hm⟩ : ∃ n : Nat, n ≤ l0.length ∧ n ≤ l1.length ∧ n ≤ l2.length ∧
      (if ((l2.length : Int) < if l1.length < l0.length then (l1.length : Int) else (l0.length : Int)) then (l2.length : Int) else if l1.length < l0.length then (l1.length : Int) else (l0.length : Int)) = (n : Int) := by
    refine ⟨min l2.length (min l1.length l0.length), by omega, by omega, by omega, ?_⟩
    split <;> split at * <;> omega
  by_cases hbig : (10000 : Int) < (n : Int)
  · go_enter Try.func8, Try.ntmps8
    go_wp2_with fail
    refine (crcalive_ok _).mono ?_
    rintro e w1 ⟨rfl, hb1⟩
    go_wp2_with fail
    go_ret
    exact ⟨rfl, hb1⟩
  · go_enter Try.func8, Try.ntmps8
    go_wp2_with fail
    refine (crcalive_ok _).mono ?_
    rintro e w1 ⟨rfl, hb1⟩
    have hn : n ≤ 10000 := by omega
    go_wp2_with (at_make; refine wpList_make_full _ rfl _ _ 23 rfl w1.heap.size 5 i0 (.int .u8 0) 1 Try.underlying23 hi0 hz0 hz1 _ _ _ _ n rfl rfl rfl rfl (by rw [hz2]; omega) (by unfold maxLen; omega) (Nat.le_refl _) ?_; intro w2 hown2 hg2)
    obtain ⟨cur0, hg0, -, hs0, -⟩ := own_cells hown2
    have hb2 : Below w1.heap.size w1 w2 := (Below.refl _ _).grown hg2 (Nat.le_refl _) (fun k hk => by cases hk)
    have q0 : RB w1 w1.heap.size A0 l0 := (r0.below hb1).more hb1.size
    have q1 : RB w1 w1.heap.size A1 l1 := (r1.below hb1).more hb1.size
    have q2 : RB w1 w1.heap.size A2 l2 := (r2.below hb1).more hb1.size
    obtain ⟨X, hX⟩ : ∃ X, X = xor3 (l0.take n) (l1.take n) (l2.take n) := ⟨_, rfl⟩
    have t0 : (l0.take n).length = n := by rw [List.length_take]; omega
    have t1 : (l1.take n).length = n := by rw [List.length_take]; omega
    have t2 : (l2.take n).length = n := by rw [List.length_take]; omega
    have hXl := hide (show X.length = n by rw [hX, xor3_len _ _ _ (by omega) (by omega)]; exact t0)
    have hXs := hide (show sm X = sm (l0.take n) ^^^ sm (l1.take n) ^^^ sm (l2.take n) by rw [hX]; exact sm_three _ _ _ (by omega) (by omega))
    have hXg := hide (show ∀ j (h0 : j < l0.length) (h1 : j < l1.length) (h2 : j < l2.length), j < n → X[j]? = some (l0[j] ^^^ l1[j] ^^^ l2[j]) by
      intro j h0 h1 h2 hj
      rw [hX, xor3_get _ _ _ j (by omega) (by omega) (by omega) (by omega) (by omega)]
      simp only [List.getElem_take])
    clear hX hown2 hg2 hm r0 r1 r2
    have T0 := hide t0
    have T1 := hide t1
    have T2 := hide t2
    clear t0 t1 t2
    have hb1g := hb1.size
    generalize w1.heap.size = g at *
    go_loopw [10] (fun i wr => ∃ (k : Nat) (cur : Array Value), k ≤ n ∧ i = .int .i64 (k : Int) ∧ wr.heap[g]? = some (.cells cur 5 (0, 0)) ∧ Hid (cur.size = n) ∧ Hid (∀ j, j < k → cur[j]? = (u8s X)[j]?) ∧ Below g w1 wr) (fun i _ => n - (intOf i).toNat)
    case atStart => exact ⟨0, cur0, Nat.zero_le _, rfl, hg0, hide (by omega), hide (fun j hj => absurd hj (by omega)), hb2⟩
    case round =>
      obtain ⟨k, cur, hk, rfl, hgr, hsz, hcur, hbr⟩ := hrel
      by_cases hlt : k < n
      · obtain ⟨b0, o0, rfl, hB0, hC0⟩ := RB.cell (q0.below hbr) (by omega)
        obtain ⟨b1, o1, rfl, hB1, hC1⟩ := RB.cell (q1.below hbr) (by omega)
        obtain ⟨b2, o2, rfl, hB2, hC2⟩ := RB.cell (q2.below hbr) (by omega)
        have d0 := hC0 k (by omega)
        have d1 := hC1 k (by omega)
        have d2 := hC2 k (by omega)
        have hx := hide (hXg.out k (by omega) (by omega) (by omega) hlt)
        clear hC0 hC1 hC2
        obtain ⟨v, hv⟩ : ∃ v, cur[k]? = some v := ⟨cur[k]'(by have := hsz.out; omega), Array.getElem?_eq_getElem _⟩
        have hcell : wr.cell? ⟨g, k, none⟩ = some v := by rw [cell_of_row wr _ k cur _ _ hgr]; exact hv
        have hfr := frozen_of_row wr g k cur _ hgr
        clear hv
        have hgr' := hide hgr
        clear hgr
        have z0 : (k : Int) < l0.length := by omega
        have z1 : (k : Int) < l1.length := by omega
        have z2 : (k : Int) < l2.length := by omega
        have z3 : (k : Int) < n := by omega
        have z4 : (0 : Int) ≤ k := by omega
        go_wp2_with fail
        go_still_tail 17, (by kernel_rfl)
        change wpList _ _ _ _ _ wr.drew
        go_wp2_with fail
        have e1 : bits .xor .u8 (bits .xor .u8 (l0[k].toNat : Int) (l1[k].toNat : Int)) (l2[k].toNat : Int) = ((l0[k] ^^^ l1[k] ^^^ l2[k]).toNat : Int) := by
          rw [u8_xor_nat _ _ (UInt8.toNat_lt _) (UInt8.toNat_lt _), u8_xor_nat _ _ (Nat.xor_lt_two_pow (n := 8) (UInt8.toNat_lt _) (UInt8.toNat_lt _)) (UInt8.toNat_lt _), UInt8.toNat_xor, UInt8.toNat_xor]
        go_roundw
        case rel =>
          refine ⟨k + 1, cur.setIfInBounds k (.int .u8 ((l0[k] ^^^ l1[k] ^^^ l2[k]).toNat : Int)), by omega, by go_num, ?_, hide (by rw [Array.size_setIfInBounds]; exact hsz.out), hide (fun j hj => ?_), (hbr.setCell (Nat.le_refl _) _).drew⟩
          · rw [e1]
            exact heap_setCell_same wr _ _ cur _ _ hgr'.out
          · rw [Array.getElem?_setIfInBounds]
            by_cases e : k = j
            · subst e
              rw [if_pos rfl, if_pos (by have := hsz.out; omega), u8s, List.getElem?_map, hx.out]
              rfl
            · rw [if_neg e]
              exact hcur.out j (by omega)
        case measure => simp [intOf]; omega
      · have hkn : k = n := by omega
        have hrow : cur.toList = u8s X := by
          apply List.ext_getElem?
          intro j
          rw [Array.getElem?_toList]
          by_cases hj : j < n
          · exact hcur.out j (by omega)
          · rw [Array.getElem?_eq_none (by have := hsz.out; omega), List.getElem?_eq_none (by rw [u8s_len]; have := hXl.out; omega)]
        have hrX : RB wr wr.heap.size (some ⟨g, 0, none⟩) X := RB.row hgr hrow
        have hgw : g ≤ wr.heap.size := Nat.le_of_lt (Array.getElem?_eq_some_iff.1 hgr).1
        have s0 : RB wr wr.heap.size A0 (l0.take n) := by
          have := ((q0.below hbr).more hgw).take hn0
          rw [Nat.mul_one, u8s_take] at this
          unfold RB
          rw [T0.out]; exact this
        have s1 : RB wr wr.heap.size A1 (l1.take n) := by
          have := ((q1.below hbr).more hgw).take hn1
          rw [Nat.mul_one, u8s_take] at this
          unfold RB
          rw [T1.out]; exact this
        have s2 : RB wr wr.heap.size A2 (l2.take n) := by
          have := ((q2.below hbr).more hgw).take hn2
          rw [Nat.mul_one, u8s_take] at this
          unfold RB
          rw [T2.out]; exact this
        clear hgr hrow hsz hcur hXg q0 q1 q2
        have z3 : ¬ (k : Int) < n := by omega
        go_wp2_with fail
        have y0 : (n : Int) ≤ c0 := by omega
        have y1 : (n : Int) ≤ c1 := by omega
        have y2 : (n : Int) ≤ c2 := by omega
        have x0 : n ≤ c0 := by omega
        have x1 : n ≤ c1 := by omega
        have x2 : n ≤ c2 := by omega
        refine wp_region_past (by kernel_rfl) (by kernel_rfl) ?_
        repeat (quiet_step ((first
          | (go_at_call_of 23 (Value.slice (some ⟨g, 0, none⟩) n n); exact past_call (lawsum_len _ n n X _ (hrX.past _) hXl.out (by omega)))
          | (go_at_call_of 23 (Value.slice A0 n c0); exact past_call (lawsum_len A0 n c0 (l0.take n) _ (s0.past _) T0.out (by omega)))
          | (go_at_call_of 23 (Value.slice A1 n c1); exact past_call (lawsum_len A1 n c1 (l1.take n) _ (s1.past _) T1.out (by omega)))
          | (go_at_call_of 23 (Value.slice A2 n c2); exact past_call (lawsum_len A2 n c2 (l2.take n) _ (s2.past _) T2.out (by omega))))))
        refine wpQuiet_nil ?_
        intro w3 hw3
        obtain ⟨u, rfl⟩ := hw3
        go_wp2_with fail
        go_ret
        refine ⟨ret_bool ?_, hb1.trans ((hbr.mono hb1g).trans ((below_past wr u).mono (Nat.le_trans hb1g hgw)))⟩
        rw [u32_xor_nat _ _ (BitVec.isLt _) (BitVec.isLt _), u32_xor_nat _ _ (Nat.xor_lt_two_pow (n := 32) (BitVec.isLt _) (BitVec.isLt _)) (BitVec.isLt _), hXs.out, BitVec.toNat_xor, BitVec.toNat_xor]
        simp
end Go.Proofs.Ytmekoenmaiekfaa
