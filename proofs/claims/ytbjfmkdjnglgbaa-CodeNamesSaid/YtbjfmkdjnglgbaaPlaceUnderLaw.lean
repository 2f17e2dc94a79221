/-
  PlaceUnder: a child's place, the last stamp, and all stamps, or the errors, are the document's. Condition: parts of their types.
-/
import Derived.Test.YtbjfmkdjnglgbaaPlaceRefUnder2
import Derived.Test.YtbjfmkdjnglgbaaOpNeeds
namespace Go.Proofs.Ytbjfmkdjnglgbaa
open Go.RowKit

theorem own_nil {w : World} {base n c : Nat} {e : TypeId} {size : Nat} {A : Option Addr} {xs : List Value} (h : w.ownsRow base e size (.slice A n c) n xs) : A = none → c = 0 := by
  intro hA
  rcases h.2 with ⟨h1, -⟩ | ⟨g, cap, cur, h1, -⟩
  · simp only [Value.slice.injEq] at h1; exact h1.2.2
  · simp only [Value.slice.injEq] at h1; rw [hA] at h1; exact absurd h1.1 (by simp)
theorem idsR_len (p : List Rn) : (idsR p).length ≤ 4096 := by
  unfold idsR
  split
  · rename_i h
    have h1 := allR_long (p := p) (fun x hx => by have := (chainR_mem h.2.2.1 x hx).2.2.2.1; omega)
    have h2 := h.2.2.2
    omega
  · simp
theorem underR_len (p : List Rn) (t r : Int) : (underR p t r).1.length ≤ 64 := by
  rcases under_cases p t r with ⟨h1, h2, h3, h4⟩ | ⟨er, -, h4⟩
  · rw [h4]; exact h3.2.1
  · rw [h4]; simp

set_option maxHeartbeats 6400000 in
set_option maxRecDepth 100000 in
theorem placeUnder_walk (A0 : Option Addr) (c0 : Nat) (l0 : List Rn) (t r : Int) (w : World) (hr0 : RR w w.heap.size A0 l0) (ok0 : ∀ x ∈ l0, okR x) (hi : okI (t, r)) :
    Calls Try.prog 3 #[.slice A0 l0.length c0, .agg #[.int .u32 t, .int .u8 r]] w fun e w' => e = .returned (.bool true) ∧ Below w.heap.size w w' := by
  obtain ⟨t0, t1, r0, r1⟩ := hi
  simp only at t0 t1 r0 r1
  by_cases hlen : (300 : Int) < l0.length
  · go_enter Try.func3, Try.ntmps3
    go_wp2_with fail
    go_ret
    exact ⟨rfl, boxed _ _⟩
  have Ok0 := hide ok0
  have T0 := hide (fun W h => reftwin_any A0 l0.length c0 l0 W h rfl (by omega))
  have U2 := hide (fun W h => refunder_any A0 l0.length c0 l0 t r W h rfl ok0)
  have I2 := hide (fun W h => refids_any A0 l0.length c0 l0 W h rfl ok0)
  have L2 := hide (fun W h => reflast_any A0 l0.length c0 l0 W h rfl ok0)
  have Hlen := hide (underR_len l0 t r)
  have Hil := hide (idsR_len l0)
  clear ok0
  go_enter Try.func3, Try.ntmps3
  go_wp2_with fail
  obtain ⟨w1, hw1, k0, k1, hs1, hb1⟩ := one_box w (.int .u32 t) (.int .u8 r) 25
  try rw [hw1]
  clear hw1
  refine (unhide T0 w1 (hr0.below' hb1)).mono ?_
  rintro e w2 ⟨v5, rfl, hown5, hb2⟩
  replace k0 := keep_cell hb2 hs1 k0
  replace k1 := keep_cell hb2 hs1 k1
  replace hs1 := Nat.lt_of_lt_of_le hs1 hb2.size
  have hb02 := fresh hb1 hb2
  have hr5 : ∃ A5 c5, v5 = .slice A5 l0.length c5 ∧ (A5 = none → c5 = 0) ∧ RR w2 w2.heap.size A5 l0 := by
    obtain ⟨A5, c5, rfl, -, -, -⟩ := own_slice hown5
    exact ⟨A5, c5, rfl, own_nil hown5, RR.of_own hown5 rfl⟩
  obtain ⟨A5, c5, rfl, hn5, hr5⟩ := hr5
  have U1 := hide (punder_any A5 l0.length c5 l0 t r w2 hr5 rfl (by omega) hn5 Ok0.out t0 t1 r0 r1)
  have I1 := hide (fun W h => pids_any A5 l0.length c5 l0 W h rfl (by omega) Ok0.out)
  have L1 := hide (fun W h => plast_any A5 l0.length c5 l0 W h rfl (by omega) Ok0.out)
  clear hn5 hown5
  go_wp2_with fail
  refine (unhide U1).mono ?_
  rintro e w3 ⟨A6, c6, g6, rfl, S6, -, hb3⟩
  have Hb3 := hide hb3
  replace k0 := keep_cell hb3 hs1 k0
  replace k1 := keep_cell hb3 hs1 k1
  replace hs1 := Nat.lt_of_lt_of_le hs1 hb3.size
  have hb03 := fresh hb02 hb3
  obtain ⟨L6, hL6⟩ : ∃ x, x = (underR l0 t r).1 := ⟨_, rfl⟩
  obtain ⟨e6, he6⟩ : ∃ x, x = (underR l0 t r).2 := ⟨_, rfl⟩
  simp only [← hL6, ← he6] at S6 U2 Hlen ⊢
  clear hL6 he6
  go_wp2_with fail
  refine (unhide U2 w3 (hr0.below' hb03)).mono ?_
  rintro e w4 ⟨A8, c8, rfl, hr8, hb4⟩
  have hb04 := fresh hb03 hb4
  clear k0 k1 hs1
  go_wp2_with fail
  refine (unhide I1 w4 (hr5.below' (fresh Hb3.out hb4))).mono ?_
  rintro e w5 ⟨v10, rfl, hown10, hb5⟩
  have hb05 := fresh hb04 hb5
  have hr10 : ∃ A10 c10, v10 = .slice A10 (idsR l0).length c10 ∧ RI w5 w5.heap.size A10 (idsR l0) := by
    obtain ⟨A5, c5, rfl, -, -, -⟩ := own_slice hown10
    exact ⟨A5, c5, rfl, RI.of_own hown10 rfl⟩
  obtain ⟨A10, c10, rfl, hr10⟩ := hr10
  clear hown10
  go_wp2_with fail
  refine (unhide I2 w5 (hr0.below' hb05)).mono ?_
  rintro e w6 ⟨v12, rfl, hown12, hb6⟩
  have hb06 := fresh hb05 hb6
  have hr12 : ∃ A12 c12, v12 = .slice A12 (idsR l0).length c12 ∧ RI w6 w6.heap.size A12 (idsR l0) := by
    obtain ⟨A5, c5, rfl, -, -, -⟩ := own_slice hown12
    exact ⟨A5, c5, rfl, RI.of_own hown12 rfl⟩
  obtain ⟨A12, c12, rfl, hr12⟩ := hr12
  clear hown12
  have S8 : SB w6 g6 w2.heap.size A6 L6 c6 := S6.below (fresh hb4 (fresh hb5 hb6))
  have hb26 : Below w2.heap.size w2 w6 := fresh Hb3.out (fresh hb4 (fresh hb5 hb6))
  have E1 := hide (refsame_any A6 A8 c6 c8 L6.length L6.length L6 L6 w6 S8.rr (hr8.below' (fresh hb5 hb6)) rfl rfl (by have := Hlen.out; omega) (by have := Hlen.out; omega))
  rw [decide_eq_true rfl] at E1
  go_wp2_with fail
  refine (unhide E1).mono ?_
  rintro e w7 ⟨rfl, hb7⟩
  have hb07 := fresh hb06 hb7
  have hb27 := fresh hb26 hb7
  go_wp2_with fail
  refine (unhide L1 w7 (hr5.below' hb27)).mono ?_
  rintro e w8 ⟨rfl, hb8⟩
  have hb08 := fresh hb07 hb8
  have hb28 := fresh hb27 hb8
  go_wp2_with fail
  refine (unhide L2 w8 (hr0.below' hb08)).mono ?_
  rintro e w9 ⟨rfl, hb9⟩
  have hb09 := fresh hb08 hb9
  have hb29 := fresh hb28 hb9
  have E2 := hide (fun W hx hy => sameids_any A10 A12 c10 c12 (idsR l0).length (idsR l0).length (idsR l0) (idsR l0) W hx hy rfl rfl (by have := Hil.out; omega) (by have := Hil.out; omega))
  rw [decide_eq_true rfl] at E2
  go_wp2_with fail
  refine (unhide E2 w9 (hr10.below' (fresh hb6 (fresh hb7 (fresh hb8 hb9)))) (hr12.below' (fresh hb7 (fresh hb8 hb9)))).mono ?_
  rintro e w10 ⟨rfl, hb10⟩
  have hb010 := fresh hb09 hb10
  have hb210 := fresh hb29 hb10
  have S10 : SB w10 g6 w2.heap.size A6 L6 c6 := S8.below (fresh hb7 (fresh hb8 (fresh hb9 hb10)))
  clear hb1 hb2 hb3 hb4 hb5 hb6 hb7 hb8 hb9 hb10 hb03 hb04 hb05 hb06 hb07 hb08 hb09 hb26 hb27 hb28 hb29 S6 S8 hr8 hr10 hr12
  go_wp2_with fail
  obtain ⟨n6, hn6⟩ : ∃ n, n = L6.length := ⟨_, rfl⟩
  rw [← hn6] at Hlen ⊢
  go_loopw [15] (fun i wr => ∃ (k : Nat) (L : List Rn), k ≤ n6 ∧ i = .int .i64 (k : Int) ∧ L.length = n6 ∧ SB wr g6 w2.heap.size A6 L c6 ∧ Below w2.heap.size w2 wr) (fun i _ => n6 - (intOf i).toNat)
  case atStart => exact ⟨0, L6, by omega, rfl, hn6.symm, S10, hb210⟩
  case round =>
    obtain ⟨k, L, hk, rfl, hL, S, hb⟩ := hrel
    have h64 := Hlen.out
    by_cases hlt : k < n6
    · obtain ⟨hbg, off, cur, rfl, hgc, hcc⟩ := S.2 (by intro e; rw [e] at hL; simp at hL; omega)
      have hkL : k < L.length := by omega
      have z0 : (k : Int) < n6 := by omega
      obtain ⟨m, hm⟩ : ∃ m, m = L[k].2.2 := ⟨_, rfl⟩
      have hx2 : wr.cell? ⟨g6, off + k * 3 + 2, none⟩ = some (.int .i64 m) := by
        rw [Nat.add_assoc, cell_of_row _ _ _ _ _ _ hgc, hm]
        exact hcc _ _ (rns_get L k hkL).2.2
      have hz := frozen_of_row wr g6 (off + k * 3 + 2) cur _ hgc
      have S' := hide (S.many k hkL (-7))
      have hb' := hb.setCell (p := ⟨g6, off + k * 3 + 2, none⟩) hbg (.int .i64 (-7))
      have hL' := hide (show (L.set k (L[k].1, L[k].2.1, -7)).length = n6 by simpa using hL)
      clear hcc hgc hm S hL S10
      go_wp2_with fail
      go_roundw
      case rel => exact ⟨k + 1, _, by omega, by go_num, hL'.out, S'.out, hb'⟩
      case measure => simp [intOf]; omega
    · have hz : ¬ (k : Int) < n6 := by omega
      have E3 := hide (refsame_any A5 A0 c5 c0 l0.length l0.length l0 l0 wr (hr5.below' hb) (hr0.below' (hb02.trans (hb.mono hb02.size))) rfl rfl (by omega) (by omega))
      rw [decide_eq_true rfl] at E3
      have hb0 : Below w.heap.size w wr := hb02.trans (hb.mono hb02.size)
      clear S S10
      go_wp2_with fail
      refine (unhide E3).mono ?_
      rintro e w11 ⟨rfl, hb11⟩
      go_wp2_with fail
      go_ret
      exact ⟨rfl, fresh hb0 hb11⟩
end Go.Proofs.Ytbjfmkdjnglgbaa
