/-
  PlaceIds. No condition.
-/
import Derived.Test.YtbjfmkdjnglgbaaPlaceChild
import Derived.Test.YtbjfmkdjnglgbaaPlaceCut
import Derived.IntWalk
namespace Go.Proofs.Ytbjfmkdjnglgbaa
open Go.RowKit

set_option maxRecDepth 100000 in
theorem pcheck_big (A : Option Addr) (n c : Nat) (w : World) (h : 64 < n) : Calls Try.prog 32 #[.slice A n c] w fun e w' => e = .returned (.int .i64 8) ∧ Below w.heap.size w w' := by
  have h1 : ¬ (n : Int) < 1 := by omega
  have h2 : (64 : Int) < n := by omega
  go_enter Try.func32, Try.ntmps32
  go_wp2_with fail
  go_ret
  exact ⟨rfl, Below.refl _ _⟩
set_option maxRecDepth 100000 in
theorem pids_big (A : Option Addr) (n c : Nat) (w : World) (h : 64 < n) : Calls Try.prog 25 #[.slice A n c] w fun e w' => e = .returned (.tuple #[.slice none 0 0, .int .i64 8]) ∧ Below w.heap.size w w' := by
  have C := hide (pcheck_big A n c w h)
  clear h
  go_enter Try.func25, Try.ntmps25
  go_wp2_with fail
  refine (unhide C).mono ?_
  rintro e w1 ⟨rfl, hb1⟩
  go_wp2_with fail
  exact bodyPost_ret (v := .tuple #[.slice none 0 0, .int .i64 8]) (by simp [results, Try.results25, go_sem]) rfl ⟨rfl, hb1⟩

set_option maxHeartbeats 12800000 in
set_option maxRecDepth 100000 in
theorem placeIds_walk (A0 : Option Addr) (c0 : Nat) (l0 : List Rn) (w : World) (hr0 : RR w w.heap.size A0 l0) (ok0 : ∀ x ∈ l0, okR x) (n0 : A0 = none → c0 = 0) :
    Calls Try.prog 11 #[.slice A0 l0.length c0] w fun e w' => e = .returned (.bool true) ∧ Below w.heap.size w w' := by
  have Ok0 := hide ok0
  have N0 := hide n0
  clear ok0 n0
  by_cases hl0 : l0.length < 1073741824
  rotate_left
  · have I := hide (fun w => pids_big A0 l0.length c0 w (by omega))
    clear hl0
    go_enter Try.func11, Try.ntmps11
    go_wp2_with fail
    refine (palive_ok w).mono ?_
    rintro e w1 ⟨rfl, hb1⟩
    go_wp2_with fail
    refine (unhide I w1).mono ?_
    rintro e w2 ⟨rfl, hb2⟩
    go_wp2_with fail
    go_ret
    exact ⟨rfl, fresh hb1 hb2⟩
  by_cases hm : mayR l0
  rotate_left
  · have hc := hide (show chkR l0 = 8 from if_neg hm)
    have hi := hide (show idsR l0 = [] from if_neg hm)
    clear hm
    go_enter Try.func11, Try.ntmps11
    go_wp2_with fail
    refine (palive_ok w).mono ?_
    rintro e w1 ⟨rfl, hb1⟩
    replace hr0 := RR.below' hr0 hb1
    go_wp2_with fail
    refine (pids_any A0 _ c0 l0 w1 hr0 rfl hl0 Ok0.out).mono ?_
    rintro e w2 ⟨v, rfl, hown, hb2⟩
    rw [hc.out]
    rw [hi.out] at hown
    obtain ⟨A2, c2, rfl, -, -, -⟩ := own_slice hown
    go_wp2_with fail
    go_ret
    exact ⟨rfl, fresh hb1 hb2⟩
  have HM := hide hm
  have h64 : l0.length ≤ 64 := hm.2.1
  have hnn : ∀ x ∈ l0, 0 ≤ x.2.2 := fun x hx => by have := (chainR_mem hm.2.2.1 x hx).2.2.2.1; omega
  have hlong := allR_long hnn
  have hmax : long l0 ≤ 4096 := hm.2.2.2
  have Hlong := hide hlong
  have hpos := hide (show 0 < (allR l0).length by
    have h1 := hm.1
    cases l0 with
    | nil => simp at h1
    | cons x b =>
      rw [allR_cons, ofR_cons x hm.2.2.1.1.2.2.2.1]
      simp)
  have hnc : ((allR l0).length : Int) ≤ 4096 := by omega
  clear hm hnn hlong hmax
  obtain ⟨nq, hnq⟩ : ∃ n, (allR l0).length = n := ⟨_, rfl⟩
  have Hnq := hide hnq
  rw [hnq] at hnc
  clear hnq
  go_enter Try.func11, Try.ntmps11
  go_wp2_with fail
  refine (palive_ok w).mono ?_
  rintro e w1 ⟨rfl, hb1⟩
  have hr1 := RR.below' hr0 hb1
  go_wp2_with fail
  refine (ids_at A0 _ c0 l0 w1 hr1 rfl (by omega) Ok0.out HM.out).mono ?_
  rintro e w2 ⟨A2, c2, rfl, hi2, hb2⟩
  have hr2 := RR.below' hr1 hb2
  have hbw := fresh hb1 hb2
  clear hr1 hb1 hb2
  rw [Hnq.out]
  by_cases g3 : (300 : Int) < nq
  · go_wp2_with fail
    go_ret
    exact ⟨rfl, hbw⟩
  go_wp2_with fail
  obtain ⟨b0, o0, rfl, hB0, hC0⟩ := RR.cell hr2 (by have := HM.out.1; omega)
  have HC0 := hide hC0
  clear hC0
  go_loopw [7, 8] (fun n i wr => ∃ (k : Nat) (y : Int), k ≤ l0.length ∧ i = .int .i64 (k : Int) ∧ n = .int .i64 y ∧ 0 ≤ y ∧ y ≤ 4096 * (k : Int) ∧ Hid (y = long (l0.take k)) ∧ wr = w2) (fun _ i _ => l0.length - (intOf i).toNat)
  case atStart => exact ⟨0, 0, by omega, rfl, rfl, by decide, by decide, hide rfl, rfl⟩
  case round =>
    obtain ⟨k, y, hk, rfl, rfl, hy0, hy1, hy, rfl⟩ := hrel
    by_cases hlt : k < l0.length
    · obtain ⟨d0, d1, d2⟩ := HC0.out k hlt
      have z0 : (k : Int) < l0.length := by omega
      have hone := chainR_mem HM.out.2.2.1 l0[k] (List.getElem_mem hlt)
      obtain ⟨m, hm⟩ : ∃ m, l0[k].2.2 = m := ⟨_, rfl⟩
      have e4 : 1 ≤ m := by rw [← hm]; exact hone.2.2.2.1
      have e5 : m ≤ 4096 := by rw [← hm]; exact hone.2.2.2.2.1
      have hnext := hide (show y + m = long (l0.take (k + 1)) by rw [List.take_succ_eq_append_getElem hlt, long_snoc, hy.out, hm])
      rw [hm] at d2
      clear d0 d1 hm hone
      go_wp2_with fail
      go_roundw
      case rel => exact ⟨k + 1, y + m, by omega, by go_num, rfl, by omega, by omega, hnext, trivial⟩
      case measure => simp [intOf]; omega
    · have hz : ¬ (k : Int) < l0.length := by omega
      have hyn : y = (nq : Int) := by
        rw [hy.out, List.take_of_length_le (by omega), ← Hlong.out, Hnq.out]
      have Hyn := hide hyn
      clear hy hy0 hy1 hyn
      go_wp2_with fail
      obtain ⟨wo, rfl⟩ : ∃ wo : World, wo = wr := ⟨_, rfl⟩
      obtain ⟨b2, o2, rfl, hB2, hC2⟩ := RI.cell hi2 hpos.out
      have HC2 := hide hC2
      clear hC2 hi2
      go_loopw [6, 9] (fun qv i wi => ∃ (k : Nat) (q : List Rn) (A : Option Addr) (cq : Nat), k ≤ nq ∧ i = .int .i64 (k : Int) ∧ qv = .slice A (List.length (α := Rn) q) cq ∧ Hid (Cut l0 k q) ∧ RR wi wi.heap.size A q ∧ Hid (A = none → cq = 0) ∧ Hid (∀ x ∈ q, okR x) ∧ Below wo.heap.size wo wi) (fun _ i _ => nq - (intOf i).toNat)
      case atStart => exact ⟨0, [], none, 0, by omega, rfl, rfl, hide (.inl ⟨rfl, rfl⟩), RD.nil_, hide (fun _ => rfl), hide (fun _ h => by cases h), Below.refl _ _⟩
      case round =>
        obtain ⟨k, q, A, cq, hk, rfl, rfl, hcut, hrq, hNq, hOq, hbo⟩ := hrel
        have hql : q.length ≤ 64 := by
          rcases cut_may HM.out hcut.out with h | h
          · rw [h]; simp
          · exact h.2.1
        by_cases hlt : k < nq
        · have hlt2 : k < (allR l0).length := by rw [Hnq.out]; exact hlt
          obtain ⟨d0, d1⟩ := HC2.out k hlt2
          obtain ⟨t, ht⟩ : ∃ t, (allR l0)[k].1 = t := ⟨_, rfl⟩
          obtain ⟨r, hr⟩ : ∃ r, (allR l0)[k].2 = r := ⟨_, rfl⟩
          rw [ht] at d0
          rw [hr] at d1
          have hg : (allR l0)[k]? = some (t, r) := by rw [List.getElem?_eq_getElem hlt2, ← ht, ← hr]
          have hoki : okI (t, r) := allR_ok Ok0.out HM.out.2.2.1 (t, r) (by rw [← ht, ← hr]; exact List.getElem_mem hlt2)
          have Hoki := hide hoki
          obtain ⟨i1, i2, i3, i4⟩ := hoki
          simp only at i1 i2 i3 i4
          obtain ⟨hu, hcut2⟩ := cut_step HM.out hcut.out hg
          have HU := hide hu
          obtain ⟨-, -, hlt3, -⟩ := cut_more HM.out hcut.out hg
          have hokm := hide (okR_more hOq.out Hoki.out ((cut_may HM.out hcut2).resolve_left (by unfold moreR; split <;> simp)))
          have HC3 := hide hcut2
          have Hg := hide hg
          clear ht hr hu hcut2 hg
          have z0 : (k : Int) < nq := by omega
          have hprev : k = 0 ∨ (k ≠ 0 ∧ ∃ x, wo.cell? ⟨b2, o2 + (k - 1) * 2, none⟩ = some (.int .u32 x) ∧ x < t) := by
            by_cases k0 : k = 0
            · exact .inl k0
            · right
              refine ⟨k0, (lastR q).1, ?_, hlt3⟩
              have hl := cut_last HM.out hcut.out k0
              have hlt4 : k - 1 < (allR l0).length := by omega
              rw [List.getElem?_eq_getElem hlt4, Option.some.injEq] at hl
              rw [(HC2.out (k - 1) hlt4).1, hl]
          clear hlt3
          replace d0 := keep_cell hbo hB2 d0
          replace d1 := keep_cell hbo hB2 d1
          have hs5 := Nat.lt_of_lt_of_le hB2 hbo.size
          rcases hprev with k0 | ⟨k0, x, hx, hxt⟩
          · subst k0
            simp only [Nat.zero_mul, Nat.add_zero] at d0 d1
            go_wp2_with fail
            refine (punder_any A _ cq q t r wr hrq rfl (by omega) hNq.out hOq.out i1 i2 i3 i4).mono ?_
            rw [HU.out]
            rintro e w4 ⟨A4, c4, g4, rfl, S4, hA4, hb4⟩
            have hbo4 := fresh hbo hb4
            have hr4 := SB.rr S4
            have HA4 := hide hA4
            replace d0 := keep_cell hb4 hs5 d0
            clear hA4 S4 d1
            go_wp2_with fail
            go_quiet (fail)
            go_wp2_with fail
            go_roundw
            case rel => exact ⟨0 + 1, moreR q t r, A4, c4, by omega, by go_num, rfl, HC3, RR.below' hr4 (below_drewN (Below.refl _ _) _), HA4, hokm, below_drewN hbo4 _⟩
            case measure => simp [intOf]; omega
          · have z5 : (0 : Int) < k := by omega
            have z9 : 0 < k := by omega
            have z6 : (0 : Int) ≤ (k : Int) - 1 := by omega
            have z7 : (k : Int) - 1 < nq := by omega
            have z8 : ((k : Int) - 1).toNat = k - 1 := by omega
            have zw : IntKind.i64.wrap ((k : Int) - 1) = (k : Int) - 1 := IntWalk.i64_in _ (by omega)
            replace hx := keep_cell hbo hB2 hx
            go_wp2_with fail
            refine (punder_any A _ cq q t r wr hrq rfl (by omega) hNq.out hOq.out i1 i2 i3 i4).mono ?_
            rw [HU.out]
            rintro e w4 ⟨A4, c4, g4, rfl, S4, hA4, hb4⟩
            have hbo4 := fresh hbo hb4
            have hr4 := SB.rr S4
            have HA4 := hide hA4
            replace d0 := keep_cell hb4 hs5 d0
            replace hx := keep_cell hb4 hs5 hx
            have hxt2 : ¬ t ≤ x := by omega
            clear hA4 S4 d1
            go_wp2_with fail
            go_quiet (fail)
            go_wp2_with fail
            go_roundw
            case rel => exact ⟨k + 1, moreR q t r, A4, c4, by omega, by go_num, rfl, HC3, RR.below' hr4 (below_drewN (Below.refl _ _) _), HA4, hokm, below_drewN hbo4 _⟩
            case measure => simp [intOf]; omega
        · have hkn : k = nq := by omega
          subst hkn
          have hql0 : l0 = q := cut_end HM.out (by rw [Hnq.out]; exact hcut.out)
          subst hql0
          have hlt4 : k - 1 < (allR l0).length := by have := hpos.out; have := Hnq.out; omega
          have hl := cut_last HM.out hcut.out (by have := hpos.out; have := Hnq.out; omega)
          rw [List.getElem?_eq_getElem hlt4, Option.some.injEq] at hl
          obtain ⟨d0, d1⟩ := HC2.out (k - 1) hlt4
          rw [hl] at d0 d1
          obtain ⟨x, hx⟩ : ∃ x, (lastR l0).1 = x := ⟨_, rfl⟩
          obtain ⟨yr, hy⟩ : ∃ x, (lastR l0).2 = x := ⟨_, rfl⟩
          have hxy : lastR l0 = (x, yr) := by rw [← hx, ← hy]
          rw [hx] at d0
          rw [hy] at d1
          replace d0 := keep_cell hbo hB2 d0
          replace d1 := keep_cell hbo hB2 d1
          have hs5 := Nat.lt_of_lt_of_le hB2 hbo.size
          have hr5 := RR.below' hr2 hbo
          have hyk : y = (k : Int) := Hyn.out
          have hk1 : 1 ≤ k := by have := hpos.out; have := Hnq.out; omega
          have z5 : (y == (k : Int)) = true := by simp [hyk]
          have z9 : (1 : Int) ≤ y := by omega
          have z10 : y ≤ (k : Int) := by omega
          have z11 : ¬ y < 1 := by omega
          have z6 : (0 : Int) ≤ y - 1 := by omega
          have z7 : y - 1 < k := by omega
          have z8 : (y - 1).toNat = k - 1 := by omega
          have zw : IntKind.i64.wrap (y - 1) = y - 1 := IntWalk.i64_in _ (by omega)
          clear hyk
          have D1 := hide (fun W => same_at (some ⟨b0, o0, none⟩) A c0 cq _ _ l0 l0 true (past wr W) (RR.below' hr5 (below_past _ W)) (RR.below' hrq (below_past _ W)) rfl rfl (by omega) (by omega) (by simp))
          have D2 := hide (fun W => last_at (some ⟨b0, o0, none⟩) _ c0 l0 x yr (past wr W) (RR.below' hr5 (below_past _ W)) rfl (by omega) Ok0.out hxy)
          have hbw5 := fresh hbw hbo
          clear hx hy hxy hl hr2 hrq hr5
          go_wp2_with fail
          refine wp_region_past (by kernel_rfl) (by kernel_rfl) ?_
          repeat (quiet_step ((first
            | (go_at_call 45; with_reducible exact past_call (unhide D1 _))
            | (go_at_call 28; with_reducible exact past_call (unhide D2 _)))))
          refine wpQuiet_nil ?_
          intro w6 hw6
          obtain ⟨u, rfl⟩ := hw6
          have hb6 := fresh hbw5 (below_past wr u)
          go_wp2_with fail
          go_ret
          exact ⟨rfl, hb6⟩
end Go.Proofs.Ytbjfmkdjnglgbaa
