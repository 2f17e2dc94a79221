/-
  CrcTurns: true for every text, place and four bytes. No condition.
-/
import Derived.Test.YtmekoenmaiekfaaCrcLaw
import Derived.Test.YtmekoenmaiekfaaAppend
import Derived.Test.YtmekoenmaiekfaaNumPut
import Derived.Test.YtmekoenmaiekfaaArrEq
import Derived.StillTailTactics
namespace Go.Proofs.Ytmekoenmaiekfaa
open Go.RowKit

/-- The text of which the first k of four bytes from 'at' on are turned by d. -/
def turn (l : List UInt8) (at_ : Nat) (d : Nat → UInt8) (k : Nat) : List UInt8 := l.mapIdx fun j x => if at_ ≤ j ∧ j < at_ + k then x ^^^ d (j - at_) else x
theorem turn_len (l : List UInt8) (at_ : Nat) (d : Nat → UInt8) (k : Nat) : (turn l at_ d k).length = l.length := by simp [turn]
theorem turn_get (l : List UInt8) (at_ : Nat) (d : Nat → UInt8) (k j : Nat) (h : j < l.length) : (turn l at_ d k)[j]? = some (if at_ ≤ j ∧ j < at_ + k then l[j] ^^^ d (j - at_) else l[j]) := by
  simp [turn, h]
theorem turn_zero (l : List UInt8) (at_ : Nat) (d : Nat → UInt8) : turn l at_ d 0 = l := by
  apply List.ext_getElem?
  intro j
  by_cases h : j < l.length
  · rw [turn_get _ _ _ _ _ h, if_neg (by omega), List.getElem?_eq_getElem h]
  · rw [List.getElem?_eq_none (by rw [turn_len]; omega), List.getElem?_eq_none (by omega)]
theorem turn_four (l : List UInt8) (at_ : Nat) (d : Nat → UInt8) (h : at_ + 4 ≤ l.length) :
    turn l at_ d 4 = l.take at_ ++ [l[at_] ^^^ d 0, l[at_ + 1] ^^^ d 1, l[at_ + 2] ^^^ d 2, l[at_ + 3] ^^^ d 3] ++ l.drop (at_ + 4) := by
  apply List.ext_getElem?
  intro j
  by_cases hj : j < l.length
  · rw [turn_get _ _ _ _ _ hj]
    by_cases h1 : j < at_
    · rw [if_neg (by omega), List.append_assoc, List.getElem?_append_left (by rw [List.length_take]; omega), List.getElem?_take, if_pos h1, List.getElem?_eq_getElem hj]
    · by_cases h2 : j < at_ + 4
      · rw [if_pos (by omega), List.getElem?_append_left (by simp; omega), List.getElem?_append_right (by simp; omega), List.length_take, Nat.min_eq_left (by omega)]
        have : j = at_ ∨ j = at_ + 1 ∨ j = at_ + 2 ∨ j = at_ + 3 := by omega
        rcases this with rfl | rfl | rfl | rfl <;> simp
      · rw [if_neg (by omega), List.getElem?_append_right (by simp; omega), List.getElem?_drop, ← List.getElem?_eq_getElem hj]
        congr 1
        simp
        omega
  · rw [List.getElem?_eq_none (by rw [turn_len]; omega), List.getElem?_eq_none (by simp; omega)]
theorem split_four (l : List UInt8) (at_ : Nat) (h : at_ + 4 ≤ l.length) : l = l.take at_ ++ [l[at_], l[at_ + 1], l[at_ + 2], l[at_ + 3]] ++ l.drop (at_ + 4) := by
  have := turn_four l at_ (fun _ => 0) h
  simp only [UInt8.xor_zero] at this
  rw [← this]
  apply List.ext_getElem?
  intro j
  by_cases hj : j < l.length
  · rw [turn_get _ _ _ _ _ hj, List.getElem?_eq_getElem hj]; simp
  · rw [List.getElem?_eq_none (by omega), List.getElem?_eq_none (by rw [turn_len]; omega)]
theorem turn_differs (l : List UInt8) (at_ : Nat) (d : Nat → UInt8) (h : at_ + 4 ≤ l.length) (hd : ¬ (d 0 = 0 ∧ d 1 = 0 ∧ d 2 = 0 ∧ d 3 = 0)) : sm (turn l at_ d 4) ≠ sm l := by
  rw [turn_four l at_ d h]
  have := sm_turns (l.take at_) (l.drop (at_ + 4)) l[at_] l[at_ + 1] l[at_ + 2] l[at_ + 3] _ _ _ _ hd
  rw [← split_four l at_ h] at this
  exact this

/-- Four bytes as an array's cells. -/
def fcells (d : Nat → UInt8) : Array Value := #[.int .u8 ((d 0).toNat : Int), .int .u8 ((d 1).toNat : Int), .int .u8 ((d 2).toNat : Int), .int .u8 ((d 3).toNat : Int)]
theorem u8info' : ∃ i, Try.prog.info? 5 = some i := Option.isSome_iff_exists.1 (by kernel_rfl)
theorem eq_four (d : Nat → UInt8) (w : World) : (binOp .eql 34 (.agg #[.int .u8 ((d 0).toNat : Int), .int .u8 ((d 1).toNat : Int), .int .u8 ((d 2).toNat : Int), .int .u8 ((d 3).toNat : Int)]) (.agg #[.int .u8 0, .int .u8 0, .int .u8 0, .int .u8 0])).run Try.prog w = .ok (.bool (decide (d 0 = 0 ∧ d 1 = 0 ∧ d 2 = 0 ∧ d 3 = 0))) w := by
  obtain ⟨i, hi⟩ := u8info'
  have := run_eql_ints (P := Try.prog) w 34 5 .u8 4 Try.underlying34 Try.underlying5 hi (by kernel_rfl) [((d 0).toNat : Int), ((d 1).toNat : Int), ((d 2).toNat : Int), ((d 3).toNat : Int)] [0, 0, 0, 0] rfl rfl
  refine this.trans ?_
  have z : ∀ x : UInt8, x.toNat = 0 ↔ x = 0 := fun x => by
    constructor
    · intro h; exact UInt8.toNat_inj.1 (by simpa using h)
    · rintro rfl; rfl
  congr 2
  rw [Bool.eq_iff_iff]
  simp [z]

set_option maxHeartbeats 400000 in
set_option maxRecDepth 100000 in
theorem crcTurns_walk (A : Option Addr) (c : Nat) (l : List UInt8) (at_ : Int) (d : Nat → UInt8) (w : World) (hr : RB w w.heap.size A l) :
    Calls Try.prog 6 #[.slice A l.length c, .int .i64 at_, .agg #[.int .u8 ((d 0).toNat : Int), .int .u8 ((d 1).toNat : Int), .int .u8 ((d 2).toNat : Int), .int .u8 ((d 3).toNat : Int)]] w fun e w' => e = .returned (.bool true) ∧ Below w.heap.size w w' := by
  have hbox := (Below.refl w.heap.size w).alloc (Nat.le_refl _) (.cells #[.int .u8 ((d 0).toNat : Int), .int .u8 ((d 1).toNat : Int), .int .u8 ((d 2).toNat : Int), .int .u8 ((d 3).toNat : Int)] 34)
  by_cases h1 : (10000 : Int) < (l.length : Int)
  · go_enter Try.func6, Try.ntmps6
    go_wp2_with fail
    refine (crcalive_ok _).mono ?_
    rintro e w1 ⟨rfl, hb1⟩
    go_wp2_with fail
    go_ret
    exact ⟨rfl, fresh hbox hb1⟩
  by_cases h2 : at_ < 0
  · go_enter Try.func6, Try.ntmps6
    go_wp2_with fail
    refine (crcalive_ok _).mono ?_
    rintro e w1 ⟨rfl, hb1⟩
    go_wp2_with fail
    go_ret
    exact ⟨rfl, fresh hbox hb1⟩
  by_cases h3 : (l.length : Int) - 4 < at_
  · go_enter Try.func6, Try.ntmps6
    go_wp2_with fail
    refine (crcalive_ok _).mono ?_
    rintro e w1 ⟨rfl, hb1⟩
    go_wp2_with fail
    go_ret
    exact ⟨rfl, fresh hbox hb1⟩
  obtain ⟨n, rfl⟩ := Int.eq_ofNat_of_zero_le (show 0 ≤ at_ by omega)
  have heq := eq_four d
  have hbox2 := heap_alloc_new w (.cells #[.int .u8 ((d 0).toNat : Int), .int .u8 ((d 1).toNat : Int), .int .u8 ((d 2).toNat : Int), .int .u8 ((d 3).toNat : Int)] 34)
  by_cases h4 : d 0 = 0 ∧ d 1 = 0 ∧ d 2 = 0 ∧ d 3 = 0
  · have hd : decide (d 0 = 0 ∧ d 1 = 0 ∧ d 2 = 0 ∧ d 3 = 0) = true := by simpa using h4
    simp only [hd] at heq
    clear hd h4
    go_enter Try.func6, Try.ntmps6
    go_wp2_with fail
    refine (crcalive_ok _).mono ?_
    rintro e w1 ⟨rfl, hb1⟩
    have k0 : w1.cell? ⟨w.heap.size, 0, none⟩ = some (.int .u8 ((d 0).toNat : Int)) := by rw [cell_of_row w1 _ _ _ _ _ ((hb1.block _ (by simp)).trans hbox2)]; rfl
    have k1 : w1.cell? ⟨w.heap.size, 1, none⟩ = some (.int .u8 ((d 1).toNat : Int)) := by rw [cell_of_row w1 _ _ _ _ _ ((hb1.block _ (by simp)).trans hbox2)]; rfl
    have k2 : w1.cell? ⟨w.heap.size, 2, none⟩ = some (.int .u8 ((d 2).toNat : Int)) := by rw [cell_of_row w1 _ _ _ _ _ ((hb1.block _ (by simp)).trans hbox2)]; rfl
    have k3 : w1.cell? ⟨w.heap.size, 3, none⟩ = some (.int .u8 ((d 3).toNat : Int)) := by rw [cell_of_row w1 _ _ _ _ _ ((hb1.block _ (by simp)).trans hbox2)]; rfl
    clear hbox2
    go_wp2_with fail
    go_ret
    exact ⟨rfl, fresh hbox hb1⟩
  · have hd : decide (d 0 = 0 ∧ d 1 = 0 ∧ d 2 = 0 ∧ d 3 = 0) = false := by simpa using h4
    simp only [hd] at heq
    clear hd
    have H4 := hide h4
    clear h4
    have hn : n + 4 ≤ l.length := by omega
    obtain ⟨i0, hi0, hz0, hz1, hz2⟩ := info_parts u8info
    go_enter Try.func6, Try.ntmps6
    go_wp2_with fail
    refine (crcalive_ok _).mono ?_
    rintro e w1 ⟨rfl, hb1⟩
    have hB := (hb1.block _ (by simp)).trans hbox2
    have hr1 : RB w1 w1.heap.size A l := (hr.below (fresh hbox hb1)).more (fresh hbox hb1).size
    have hbw := fresh hbox hb1
    have hgw : w.heap.size < w1.heap.size := by have := hb1.size; simp at this; omega
    have k0 : w1.cell? ⟨w.heap.size, 0, none⟩ = some (.int .u8 ((d 0).toNat : Int)) := by rw [cell_of_row w1 _ _ _ _ _ hB]; rfl
    have k1 : w1.cell? ⟨w.heap.size, 1, none⟩ = some (.int .u8 ((d 1).toNat : Int)) := by rw [cell_of_row w1 _ _ _ _ _ hB]; rfl
    have k2 : w1.cell? ⟨w.heap.size, 2, none⟩ = some (.int .u8 ((d 2).toNat : Int)) := by rw [cell_of_row w1 _ _ _ _ _ hB]; rfl
    have k3 : w1.cell? ⟨w.heap.size, 3, none⟩ = some (.int .u8 ((d 3).toNat : Int)) := by rw [cell_of_row w1 _ _ _ _ _ hB]; rfl
    have kd : ∀ k, k < 4 → w1.cell? ⟨w.heap.size, k, none⟩ = some (.int .u8 ((d k).toNat : Int)) := by
      intro k hk
      have : k = 0 ∨ k = 1 ∨ k = 2 ∨ k = 3 := by omega
      rcases this with rfl | rfl | rfl | rfl
      · exact k0
      · exact k1
      · exact k2
      · exact k3
    have KD := hide kd
    clear hbox2 hB hb1 hbox kd
    go_wp2_with (at_builtin; refine wpList_append_src _ rfl (.tmp 31) (.tmp 32) 23 rfl w1.heap.size 5 i0 (.int .u8 0) 1 1 Try.underlying23 hi0 hz0 hz1 hz2 rfl (by decide) _ 0 [] rfl (own_empty w1 _ _ _ (Nat.le_refl _)) w1.heap.size A l.length c (u8s l) rfl (hr1.alloc (Nat.le_refl _) _) (u8s_one l) (by omega) (by decide) (by simp) ?_; intro v3 w3 hown3 hb3; simp only [Nat.zero_add, List.nil_append] at hown3; obtain ⟨A3, c3, rfl, hc3, hm3, hA3⟩ := own_slice hown3; obtain ⟨g, rfl, hg0, hg1⟩ : ∃ g, A3 = some ⟨g, 0, none⟩ ∧ w1.heap.size ≤ g ∧ g < w3.heap.size := hA3.resolve_left (by omega); clear hA3)
    clear heq k0 k1 k2 k3
    obtain ⟨cur0, hgc, -, hs0, hx0⟩ := own_cells hown3
    have hb13 : Below w1.heap.size w1 w3 := ((Below.refl w1.heap.size w1).alloc (Nat.le_refl _) (.cells #[] 5)).trans hb3
    go_loopw [9] (fun i wr => ∃ (k : Nat) (cur : Array Value), k ≤ 4 ∧ i = .int .i64 (k : Int) ∧ wr.heap[g]? = some (.cells cur 5 (0, 0)) ∧ Hid (cur.size = c3) ∧ Hid (∀ j, j < l.length → cur[j]? = (u8s (turn l n d k))[j]?) ∧ Below w1.heap.size w1 wr) (fun i _ => 4 - (intOf i).toNat)
    case atStart =>
      refine ⟨0, cur0, by omega, rfl, hgc, hide (by omega), hide (fun j hj => ?_), hb13⟩
      rw [turn_zero, ← hx0, List.getElem?_take, if_pos (by omega), Array.getElem?_toList]
    case round =>
      obtain ⟨k, cur, hk, rfl, hgr, hsz, hcur, hbr⟩ := hrel
      by_cases hlt : (k : Int) < 4
      · have hnk : n + k < l.length := by omega
        have dk : wr.cell? ⟨w.heap.size, k, none⟩ = some (.int .u8 ((d k).toNat : Int)) := (hbr.cell hgw).trans (KD.out k (by omega))
        have hck : cur[n + k]? = some (.int .u8 (l[n + k].toNat : Int)) := by
          rw [hcur.out _ hnk, u8s, List.getElem?_map, turn_get _ _ _ _ _ hnk, if_neg (by omega)]; rfl
        have hcell : wr.cell? ⟨g, n + k, none⟩ = some (.int .u8 (l[n + k].toNat : Int)) := by rw [cell_of_row wr _ _ cur _ _ hgr]; exact hck
        have hfr := frozen_of_row wr g (n + k) cur _ hgr
        clear hck
        have hgr' := hide hgr
        clear hgr
        have z1 : (n : Int) + k < l.length := by omega
        have z2 : (0 : Int) ≤ (n : Int) + k := by omega
        have z4 : (0 : Int) ≤ k := by omega
        have e1 := u8_xor_nat l[n + k].toNat (d k).toNat (UInt8.toNat_lt _) (UInt8.toNat_lt _)
        rw [← UInt8.toNat_xor] at e1
        have zt : ((n : Int) + k).toNat = n + k := by omega
        have zw : IntKind.i64.wrap ((n : Int) + k) = (n : Int) + k := IntWalk.i64_in _ (by omega)
        go_wp2_with fail
        go_still_tail 11, (by kernel_rfl)
        change wpList _ _ _ _ _ wr.drew
        clear zt zw
        go_wp2_with fail
        go_roundw
        case rel =>
          refine ⟨k + 1, cur.setIfInBounds (n + k) (.int .u8 ((l[n + k] ^^^ d k).toNat : Int)), by omega, by go_num, ?_, hide (by rw [Array.size_setIfInBounds]; exact hsz.out), hide (fun j hj => ?_), (hbr.setCell hg0 _).drew⟩
          · rw [UInt8.toNat_xor]
            exact heap_setCell_same wr _ _ cur _ _ hgr'.out
          · rw [Array.getElem?_setIfInBounds, u8s, List.getElem?_map, turn_get _ _ _ _ _ hj]
            by_cases e : n + k = j
            · subst e
              rw [if_pos rfl, if_pos (by have := hsz.out; omega), if_pos (by omega), Nat.add_sub_cancel_left]; rfl
            · rw [if_neg e, hcur.out j hj, u8s, List.getElem?_map, turn_get _ _ _ _ _ hj]
              by_cases e2 : n ≤ j ∧ j < n + k
              · rw [if_pos e2, if_pos (by omega)]
              · rw [if_neg e2, if_neg (by omega)]
        case measure => simp [intOf]; omega
      · obtain rfl : k = 4 := by omega
        have hrc : RB wr wr.heap.size (some ⟨g, 0, none⟩) (turn l n d 4) := RB.part hgr (fun j hj => hcur.out j (by rwa [turn_len] at hj))
        have hrb : RB wr wr.heap.size A l := (RD.below hr1 hbr).more hbr.size
        have hne := hide (turn_differs l n d hn H4.out)
        clear hgr hcur hsz
        go_wp2_with fail
        refine (lawsum_len _ l.length c3 (turn l n d 4) wr hrc (turn_len _ _ _ _) (by omega)).mono ?_
        rintro e w4 ⟨rfl, hb4⟩
        go_wp2_with fail
        refine (lawsum_ok A c l w4 ((RD.below hrb hb4).more hb4.size) (by omega)).mono ?_
        rintro e w5 ⟨rfl, hb5⟩
        go_wp2_with fail
        go_ret
        refine ⟨ret_bool ?_, fresh (fresh (fresh hbw hbr) hb4) hb5⟩
        simp only [bne_iff_ne, ne_eq, Int.natCast_inj]
        intro e
        exact hne.out (BitVec.eq_of_toNat_eq e)
end Go.Proofs.Ytmekoenmaiekfaa
