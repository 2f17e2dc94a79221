/-
  FrameTurns: true for every body, place and four bytes. No condition.
-/
import Derived.Test.YtmekoenmaiekfaaFrameAlive
import Derived.Test.YtmekoenmaiekfaaCrcTurns
namespace Go.Proofs.Ytmekoenmaiekfaa
open Go.RowKit

/-- A turned frame is none. -/
theorem opn_turn (l : List UInt8) (n : Nat) (d : Nat → UInt8) (h : n + 4 ≤ (frm l).length) (hd : ¬ (d 0 = 0 ∧ d 1 = 0 ∧ d 2 = 0 ∧ d 3 = 0)) : opn (turn (frm l) n d 4) = none := by
  cases ho : opn (turn (frm l) n d 4) with
  | none => rfl
  | some m =>
    have h1 := (opn_inv ho).1
    exact absurd (by rw [h1, frm_sum, frm_sum]) (turn_differs (frm l) n d h hd)

set_option maxHeartbeats 800000 in
set_option maxRecDepth 100000 in
theorem frameTurns_walk (A : Option Addr) (c : Nat) (l : List UInt8) (at_ : Int) (d : Nat → UInt8) (w : World) (hr : RB w w.heap.size A l) :
    Calls Try.prog 17 #[.slice A l.length c, .int .i64 at_, .agg #[.int .u8 ((d 0).toNat : Int), .int .u8 ((d 1).toNat : Int), .int .u8 ((d 2).toNat : Int), .int .u8 ((d 3).toNat : Int)]] w fun e w' => e = .returned (.bool true) ∧ Below w.heap.size w w' := by
  have hbox := (Below.refl w.heap.size w).alloc (Nat.le_refl _) (.cells #[.int .u8 ((d 0).toNat : Int), .int .u8 ((d 1).toNat : Int), .int .u8 ((d 2).toNat : Int), .int .u8 ((d 3).toNat : Int)] 34)
  by_cases h1 : (10000 : Int) < (l.length : Int)
  · go_enter Try.func17, Try.ntmps17
    go_wp2_with fail
    refine (framealive_ok _).mono ?_
    rintro e w1 ⟨rfl, hb1⟩
    go_wp2_with fail
    go_ret
    exact ⟨rfl, fresh hbox hb1⟩
  have hfl := frm_len l
  have hsix := nb_six (n := l.length) (by omega)
  have hfl4 : 4 ≤ (frm l).length := by omega
  have hfl5 : (frm l).length ≤ 10011 := by omega
  clear hfl hsix
  by_cases h2 : at_ < 0
  · skip
    go_enter Try.func17, Try.ntmps17
    go_wp2_with fail
    refine (framealive_ok _).mono ?_
    rintro e w1 ⟨rfl, hb1⟩
    have hbw1 := fresh hbox hb1
    have hr1 : RB w1 w1.heap.size A l := (RD.below hr hbw1).more hbw1.size
    go_wp2_with fail
    refine (wrap_ok A c l w1 hr1 (by omega)).mono ?_
    rintro e w2 ⟨v2, rfl, hown2, hb2⟩
    obtain ⟨A2, c2, rfl, hc2, hm2, hA2⟩ := own_slice hown2
    have hbw := fresh hbw1 hb2
    clear hown2 hA2
    go_wp2_with fail
    go_ret
    exact ⟨rfl, hbw⟩
  by_cases h3 : ((frm l).length : Int) - 4 < at_
  · skip
    go_enter Try.func17, Try.ntmps17
    go_wp2_with fail
    refine (framealive_ok _).mono ?_
    rintro e w1 ⟨rfl, hb1⟩
    have hbw1 := fresh hbox hb1
    have hr1 : RB w1 w1.heap.size A l := (RD.below hr hbw1).more hbw1.size
    go_wp2_with fail
    refine (wrap_ok A c l w1 hr1 (by omega)).mono ?_
    rintro e w2 ⟨v2, rfl, hown2, hb2⟩
    obtain ⟨A2, c2, rfl, hc2, hm2, hA2⟩ := own_slice hown2
    have hbw := fresh hbw1 hb2
    clear hown2 hA2
    go_wp2_with fail
    go_ret
    exact ⟨rfl, hbw⟩
  obtain ⟨n, rfl⟩ := Int.eq_ofNat_of_zero_le (show 0 ≤ at_ by omega)
  have heq := eq_four d
  have hbox2 := heap_alloc_new w (.cells #[.int .u8 ((d 0).toNat : Int), .int .u8 ((d 1).toNat : Int), .int .u8 ((d 2).toNat : Int), .int .u8 ((d 3).toNat : Int)] 34)
  by_cases h4 : d 0 = 0 ∧ d 1 = 0 ∧ d 2 = 0 ∧ d 3 = 0
  · have hd : decide (d 0 = 0 ∧ d 1 = 0 ∧ d 2 = 0 ∧ d 3 = 0) = true := by simpa using h4
    simp only [hd] at heq
    clear hd h4
    have Hbox2 := hide hbox2
    clear hbox2
    go_enter Try.func17, Try.ntmps17
    go_wp2_with fail
    refine (framealive_ok _).mono ?_
    rintro e w1 ⟨rfl, hb1⟩
    have hbw1 := fresh hbox hb1
    have hr1 : RB w1 w1.heap.size A l := (RD.below hr hbw1).more hbw1.size
    go_wp2_with fail
    refine (wrap_ok A c l w1 hr1 (by omega)).mono ?_
    rintro e w2 ⟨v2, rfl, hown2, hb2⟩
    obtain ⟨A2, c2, rfl, hc2, hm2, hA2⟩ := own_slice hown2
    have hbw := fresh hbw1 hb2
    have hgw1 : w.heap.size < w1.heap.size := by have := hb1.size; rw [World.size_alloc] at this; omega
    have hB := (hb2.block w.heap.size hgw1).trans ((hb1.block w.heap.size (by rw [World.size_alloc]; omega)).trans Hbox2.out)
    have k0 : w2.cell? ⟨w.heap.size, 0, none⟩ = some (.int .u8 ((d 0).toNat : Int)) := by rw [cell_of_row w2 _ _ _ _ _ hB]; rfl
    have k1 : w2.cell? ⟨w.heap.size, 1, none⟩ = some (.int .u8 ((d 1).toNat : Int)) := by rw [cell_of_row w2 _ _ _ _ _ hB]; rfl
    have k2 : w2.cell? ⟨w.heap.size, 2, none⟩ = some (.int .u8 ((d 2).toNat : Int)) := by rw [cell_of_row w2 _ _ _ _ _ hB]; rfl
    have k3 : w2.cell? ⟨w.heap.size, 3, none⟩ = some (.int .u8 ((d 3).toNat : Int)) := by rw [cell_of_row w2 _ _ _ _ _ hB]; rfl
    clear hB
    clear hown2 hA2
    go_wp2_with fail
    go_ret
    exact ⟨rfl, hbw⟩
  · have hd : decide (d 0 = 0 ∧ d 1 = 0 ∧ d 2 = 0 ∧ d 3 = 0) = false := by simpa using h4
    simp only [hd] at heq
    clear hd
    have H4 := hide h4
    clear h4
    have Hbox2 := hide hbox2
    clear hbox2
    have hn : n + 4 ≤ (frm l).length := by omega
    go_enter Try.func17, Try.ntmps17
    go_wp2_with fail
    refine (framealive_ok _).mono ?_
    rintro e w1 ⟨rfl, hb1⟩
    have hbw1 := fresh hbox hb1
    have hr1 : RB w1 w1.heap.size A l := (RD.below hr hbw1).more hbw1.size
    go_wp2_with fail
    refine (wrap_ok A c l w1 hr1 (by omega)).mono ?_
    rintro e w2 ⟨v2, rfl, hown2, hb2⟩
    obtain ⟨A2, c2, rfl, hc2, hm2, hA2⟩ := own_slice hown2
    have hbw := fresh hbw1 hb2
    obtain ⟨g, rfl, hg0, hg1⟩ : ∃ g, A2 = some ⟨g, 0, none⟩ ∧ w1.heap.size ≤ g ∧ g < w2.heap.size := hA2.resolve_left (by omega)
    clear hA2
    have hgw1 : w.heap.size < w1.heap.size := by have := hb1.size; rw [World.size_alloc] at this; omega
    have hB := (hb2.block w.heap.size hgw1).trans ((hb1.block w.heap.size (by rw [World.size_alloc]; omega)).trans Hbox2.out)
    have k0 : w2.cell? ⟨w.heap.size, 0, none⟩ = some (.int .u8 ((d 0).toNat : Int)) := by rw [cell_of_row w2 _ _ _ _ _ hB]; rfl
    have k1 : w2.cell? ⟨w.heap.size, 1, none⟩ = some (.int .u8 ((d 1).toNat : Int)) := by rw [cell_of_row w2 _ _ _ _ _ hB]; rfl
    have k2 : w2.cell? ⟨w.heap.size, 2, none⟩ = some (.int .u8 ((d 2).toNat : Int)) := by rw [cell_of_row w2 _ _ _ _ _ hB]; rfl
    have k3 : w2.cell? ⟨w.heap.size, 3, none⟩ = some (.int .u8 ((d 3).toNat : Int)) := by rw [cell_of_row w2 _ _ _ _ _ hB]; rfl
    have kd : ∀ k, k < 4 → w2.cell? ⟨w.heap.size, k, none⟩ = some (.int .u8 ((d k).toNat : Int)) := by
      intro k hk
      have : k = 0 ∨ k = 1 ∨ k = 2 ∨ k = 3 := by omega
      rcases this with rfl | rfl | rfl | rfl
      · exact k0
      · exact k1
      · exact k2
      · exact k3
    have KD := hide kd
    have hgw : w.heap.size < g := by omega
    clear hB kd hb1 hbox hb2 hbw1 hr1
    obtain ⟨cur0, hgc, -, hs0, hx0⟩ := own_cells hown2
    have Hgc := hide hgc
    clear hgc hown2
    go_wp2_with fail
    clear heq k0 k1 k2 k3
    go_loopw [10] (fun i wr => ∃ (k : Nat) (cur : Array Value), k ≤ 4 ∧ i = .int .i64 (k : Int) ∧ wr.heap[g]? = some (.cells cur 5 (0, 0)) ∧ Hid (cur.size = c2) ∧ Hid (∀ j, j < (frm l).length → cur[j]? = (u8s (turn (frm l) n d k))[j]?) ∧ Below g w2 wr) (fun i _ => 4 - (intOf i).toNat)
    case atStart =>
      refine ⟨0, cur0, by omega, rfl, Hgc.out, hide (by omega), hide (fun j hj => ?_), Below.refl _ _⟩
      rw [turn_zero, ← hx0, List.getElem?_take, if_pos (by omega), Array.getElem?_toList]
    case round =>
      obtain ⟨k, cur, hk, rfl, hgr, hsz, hcur, hbr⟩ := hrel
      by_cases hlt : (k : Int) < 4
      · have hnk : n + k < (frm l).length := by omega
        have dk : wr.cell? ⟨w.heap.size, k, none⟩ = some (.int .u8 ((d k).toNat : Int)) := (hbr.cell hgw).trans (KD.out k (by omega))
        have hck : cur[n + k]? = some (.int .u8 ((frm l)[n + k].toNat : Int)) := by
          rw [hcur.out _ hnk, u8s, List.getElem?_map, turn_get _ _ _ _ _ hnk, if_neg (by omega)]; rfl
        have hcell : wr.cell? ⟨g, n + k, none⟩ = some (.int .u8 ((frm l)[n + k].toNat : Int)) := by rw [cell_of_row wr _ _ cur _ _ hgr]; exact hck
        have hfr := frozen_of_row wr g (n + k) cur _ hgr
        clear hck
        have hgr' := hide hgr
        clear hgr
        have z1 : (n : Int) + k < (frm l).length := by omega
        have z2 : (0 : Int) ≤ (n : Int) + k := by omega
        have z4 : (0 : Int) ≤ k := by omega
        have e1 := u8_xor_nat (frm l)[n + k].toNat (d k).toNat (UInt8.toNat_lt _) (UInt8.toNat_lt _)
        rw [← UInt8.toNat_xor] at e1
        have zt : ((n : Int) + k).toNat = n + k := by omega
        have zw : IntKind.i64.wrap ((n : Int) + k) = (n : Int) + k := IntWalk.i64_in _ (by omega)
        go_wp2_with fail
        go_still_tail 11, (by kernel_rfl)
        change wpList _ _ _ _ _ wr.drew
        clear zt zw
        go_wp2_with fail
        go_roundw
        case rel =>
          refine ⟨k + 1, cur.setIfInBounds (n + k) (.int .u8 (((frm l)[n + k] ^^^ d k).toNat : Int)), by omega, by go_num, ?_, hide (by rw [Array.size_setIfInBounds]; exact hsz.out), hide (fun j hj => ?_), (hbr.setCell (Nat.le_refl _) _).drew⟩
          · rw [UInt8.toNat_xor]
            exact heap_setCell_same wr _ _ cur _ _ hgr'.out
          · rw [Array.getElem?_setIfInBounds, u8s, List.getElem?_map, turn_get _ _ _ _ _ hj]
            by_cases e : n + k = j
            · subst e
              rw [if_pos rfl, if_pos (by have := hsz.out; omega), if_pos (by omega), Nat.add_sub_cancel_left]; rfl
            · rw [if_neg e, hcur.out j hj, u8s, List.getElem?_map, turn_get _ _ _ _ _ hj]
              by_cases e2 : n ≤ j ∧ j < n + k
              · rw [if_pos e2, if_pos (by omega)]
              · rw [if_neg e2, if_neg (by omega)]
        case measure => simp [intOf]; omega
      · obtain rfl : k = 4 := by omega
        have hrc : RB wr wr.heap.size (some ⟨g, 0, none⟩) (turn (frm l) n d 4) := RB.part hgr (fun j hj => hcur.out j (by rwa [turn_len] at hj))
        have hne := hide (opn_turn l n d hn H4.out)
        have hbwr := hbw.trans (hbr.mono (by omega))
        clear hgr hcur hsz
        go_wp2_with fail
        refine (open_len _ (frm l).length c2 (turn (frm l) n d 4) wr hrc (turn_len _ _ _ _) hc2 (by omega)).mono ?_
        rintro e w4 ⟨ho, hb4⟩
        obtain rfl := opened_none' hne.out ho
        clear ho
        go_wp2_with fail
        go_ret
        exact ⟨rfl, fresh hbwr hb4⟩
end Go.Proofs.Ytmekoenmaiekfaa
