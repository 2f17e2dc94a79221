/-
  OpNeeds: what an operation stands on is older, rising, and the last one of it stands on all the others. Condition: parts of their types.
-/
import Derived.Test.YtbjfmkdjnglgbaaOpNeedsBig
import Derived.Test.YtbjfmkdjnglgbaaPastQ
namespace Go.Proofs.Ytbjfmkdjnglgbaa
open Go.RowKit

set_option maxHeartbeats 12800000 in
set_option maxRecDepth 100000 in
theorem opNeeds_walk (k t r z : Int) (A0 : Option Addr) (c0 : Nat) (l0 : List Rn) (w : World) (hr0 : RR w w.heap.size A0 l0) (ok0 : ∀ x ∈ l0, okR x) (n0 : A0 = none → c0 = 0) (k0 : 0 ≤ k) :
    Calls Try.prog 12 #[opv k t r A0 l0.length c0 z] w fun e w' => e = .returned (.bool true) ∧ Below w.heap.size w w' := by
  by_cases hm : mayO k t r l0 z
  rotate_left
  · exact opNeeds_bad k t r z A0 c0 l0 w hr0 ok0 k0 hm
  have HM := hide hm
  have Ok0 := hide ok0
  have N0 := hide n0
  have h64 := hide (show l0.length ≤ 64 from hm.2.1.2.1)
  have HN := hide (fun W h => opneeds_cap k t r z A0 l0.length c0 l0 W h rfl (by have := hm.2.1.2.1; omega) ok0 k0)
  rw [show chkO k t r l0 z = 0 from if_pos hm] at HN
  obtain ⟨L, hL⟩ : ∃ L, L = needsO k t r l0 z := ⟨_, rfl⟩
  obtain ⟨nq, hnq⟩ : ∃ n, n = L.length := ⟨_, rfl⟩
  rw [← hL] at HN
  rw [← hnq] at HN
  have HL := hide (And.intro hL hnq)
  have hall : (allR l0).length ≤ 4096 := by
    have h1 := allR_long (p := l0) (fun x hx => by have := (chainR_mem hm.2.1.2.2.1 x hx).2.2.2.1; omega)
    have h2 := hm.2.1.2.2.2
    omega
  have htk := needs_take hm
  rw [← hL, ← hnq] at htk
  have Htk := hide htk
  have hnc : (nq : Int) ≤ 4096 := by have := htk.2.1; omega
  clear hm ok0 n0 hL hnq hall htk
  obtain ⟨w1, hw1, F1, hs1, hb1⟩ := five_fb w (.int .u8 k) (.int .u32 t) (.int .u8 r) (.slice A0 l0.length c0) (.int .i64 z)
  obtain ⟨x0, x1, x2, x3, x4⟩ := F1.cells
  go_enter Try.func12, Try.ntmps12
  go_wp2_with fail
  refine (opalive_ok _).mono ?_
  rintro e w2 ⟨rfl, hb2⟩
  have hb02 := fresh hb1 hb2
  replace F1 := F1.below hb2
  clear x0 x1 x2 x3 x4 hw1
  obtain ⟨x0, x1, x2, x3, x4⟩ := F1.cells
  have HF := hide F1
  clear F1
  go_wp2_with fail
  refine (unhide HN w2 (hr0.below' hb02)).mono ?_
  rintro e w3 ⟨X2, c2, rfl, hi3, hcap, hb3⟩
  have hb03 := fresh hb02 hb3
  have HF3 := hide (HF.out.below hb3)
  clear x0 x1 x2 x3 x4 HF
  obtain ⟨x0, x1, x2, x3, x4⟩ := HF3.out.cells
  have Hcap := hide hcap
  have Hi3 := hide hi3
  clear hcap hi3
  by_cases g3 : (300 : Int) < nq
  · go_wp2_with fail
    go_ret
    exact ⟨rfl, hb03⟩
  go_wp2_with fail
  obtain ⟨wo, rfl⟩ : ∃ wo : World, wo = w3 := ⟨_, rfl⟩
  clear x0 x1 x2 x3 x4
  have hgw : w.heap.size < wo.heap.size := HF3.out.lt
  go_loopw [6, 7] (fun qv i wi => ∃ (j : Nat) (q : List Rn) (A : Option Addr) (cq : Nat), j ≤ nq ∧ i = .int .i64 (j : Int) ∧ qv = .slice A (List.length (α := Rn) q) cq ∧ Hid (Cut l0 j q) ∧ RR wi wi.heap.size A q ∧ Hid (A = none → cq = 0) ∧ Hid (∀ x ∈ q, okR x) ∧ Below wo.heap.size wo wi) (fun _ i _ => nq - (intOf i).toNat)
  case atStart => exact ⟨0, [], none, 0, by omega, rfl, rfl, hide (.inl ⟨rfl, rfl⟩), RD.nil_, hide (fun _ => rfl), hide (fun _ h => by cases h), Below.refl _ _⟩
  case round =>
    obtain ⟨j, q, A, cq, hj, rfl, rfl, hcut, hrq, hNq, hOq, hbo⟩ := hrel
    have hql : q.length ≤ 64 := by
      rcases cut_may HM.out.2.1 hcut.out with h | h
      · rw [h]; simp
      · exact h.2.1
    by_cases hlt : j < nq
    · have hlt2 : j < (allR l0).length := by have := Htk.out.2.1; omega
      have hlt3 : j < L.length := by rw [← HL.out.2]; exact hlt
      obtain ⟨b2, o2, rfl, hB2, hC2⟩ := RI.cell Hi3.out (by omega)
      have HC2 := hide hC2
      clear hC2
      have hLj : ∀ i (h : i < L.length) (h' : i < (allR l0).length), L[i] = (allR l0)[i] := by
        intro i h h'
        have e := Htk.out.1
        have e2 : L[i]? = ((allR l0).take nq)[i]? := by rw [← e]
        rw [List.getElem?_take_of_lt (by rw [HL.out.2]; exact h), List.getElem?_eq_getElem h, List.getElem?_eq_getElem h', Option.some.injEq] at e2
        exact e2
      obtain ⟨d0, d1⟩ := HC2.out j hlt3
      rw [hLj j hlt3 hlt2] at d0 d1
      obtain ⟨t1, ht⟩ : ∃ t1, (allR l0)[j].1 = t1 := ⟨_, rfl⟩
      obtain ⟨r1, hr⟩ : ∃ r1, (allR l0)[j].2 = r1 := ⟨_, rfl⟩
      rw [ht] at d0
      rw [hr] at d1
      have hold : t1 < t := by
        rw [← ht]
        exact needs_less HM.out j (by rw [← HL.out.1]; exact hlt3) hlt2
      have hg : (allR l0)[j]? = some (t1, r1) := by rw [List.getElem?_eq_getElem hlt2, ← ht, ← hr]
      have hoki : okI (t1, r1) := allR_ok Ok0.out HM.out.2.1.2.2.1 (t1, r1) (by rw [← ht, ← hr]; exact List.getElem_mem hlt2)
      have Hoki := hide hoki
      obtain ⟨i1, i2, i3, i4⟩ := hoki
      simp only at i1 i2 i3 i4
      obtain ⟨hu, hcut2⟩ := cut_step HM.out.2.1 hcut.out hg
      have HU := hide hu
      obtain ⟨-, -, hlt4, -⟩ := cut_more HM.out.2.1 hcut.out hg
      have hokm := hide (okR_more hOq.out Hoki.out ((cut_may HM.out.2.1 hcut2).resolve_left (by unfold moreR; split <;> simp)))
      have HC3 := hide hcut2
      have hprev : j = 0 ∨ (j ≠ 0 ∧ ∃ x, wo.cell? ⟨b2, o2 + (j - 1) * 2, none⟩ = some (.int .u32 x) ∧ x < t1) := by
        by_cases j0 : j = 0
        · exact .inl j0
        · right
          refine ⟨j0, (lastR q).1, ?_, hlt4⟩
          have hl := cut_last HM.out.2.1 hcut.out j0
          rw [List.getElem?_eq_getElem (by omega), Option.some.injEq] at hl
          rw [(HC2.out (j - 1) (by omega)).1, hLj (j - 1) (by omega) (by omega), hl]
      clear ht hr hu hcut2 hg hlt4 hlt2 hlt3 hLj
      have z0 : (j : Int) < nq := by omega
      have hnle : ¬ t ≤ t1 := by omega
      replace d0 := keep_cell hbo hB2 d0
      replace d1 := keep_cell hbo hB2 d1
      have hs5 := Nat.lt_of_lt_of_le hB2 hbo.size
      rcases hprev with j0 | ⟨j0, x, hx, hxt⟩
      · subst j0
        simp only [Nat.zero_mul, Nat.add_zero] at d0 d1
        go_wp2_with fail
        refine (punder_any A _ cq q t1 r1 wr hrq rfl (by omega) hNq.out hOq.out i1 i2 i3 i4).mono ?_
        rw [HU.out]
        rintro e w4 ⟨A4, c4, g4, rfl, S4, hA4, hb4⟩
        have hbo4 := fresh hbo hb4
        have hr4 := SB.rr S4
        have HA4 := hide hA4
        replace d0 := keep_cell hb4 hs5 d0
        obtain ⟨x0, x1, x2, x3, x4⟩ := (HF3.out.below hbo4).cells
        clear hA4 S4 d1
        have hs6 := Nat.lt_of_lt_of_le hs5 hb4.size
        have hgw4 : w.heap.size < w4.heap.size := Nat.lt_of_lt_of_le hgw hbo4.size
        go_wp2_with fail
        refine wp_region_wq (by kernel_rfl) (by kernel_rfl) ?_
        repeat (
          refine WQ.step (fun K hK => ?_)
          go_simp
          refine hK _ ?_
          clear hK K)
        refine WQ.nil ?_
        intro u
        have hbu := below_past w4 u
        have hbo5 := fresh hbo4 hbu
        go_wp2_with fail
        go_roundw
        case rel => exact ⟨0 + 1, moreR q t1 r1, A4, c4, by omega, by go_num, rfl, HC3, RR.below' hr4 hbu, HA4, hokm, hbo5⟩
        case measure => simp [intOf]; omega
      · have z11 : (1 : Int) ≤ j := by omega
        have z5 : (0 : Int) < j := by omega
        have z9 : 0 < j := by omega
        have z6 : (0 : Int) ≤ (j : Int) - 1 := by omega
        have z7 : (j : Int) - 1 < nq := by omega
        have z8 : ((j : Int) - 1).toNat = j - 1 := by omega
        have zw : IntKind.i64.wrap ((j : Int) - 1) = (j : Int) - 1 := IntWalk.i64_in _ (by omega)
        replace hx := keep_cell hbo hB2 hx
        go_wp2_with fail
        refine (punder_any A _ cq q t1 r1 wr hrq rfl (by omega) hNq.out hOq.out i1 i2 i3 i4).mono ?_
        rw [HU.out]
        rintro e w4 ⟨A4, c4, g4, rfl, S4, hA4, hb4⟩
        have hbo4 := fresh hbo hb4
        have hr4 := SB.rr S4
        have HA4 := hide hA4
        replace d0 := keep_cell hb4 hs5 d0
        replace hx := keep_cell hb4 hs5 hx
        have hxt2 : ¬ t1 ≤ x := by omega
        obtain ⟨x0, x1, x2, x3, x4⟩ := (HF3.out.below hbo4).cells
        clear hA4 S4 d1
        have hs6 := Nat.lt_of_lt_of_le hs5 hb4.size
        have hgw4 : w.heap.size < w4.heap.size := Nat.lt_of_lt_of_le hgw hbo4.size
        go_wp2_with fail
        refine wp_region_wq (by kernel_rfl) (by kernel_rfl) ?_
        repeat (
          refine WQ.step (fun K hK => ?_)
          go_simp
          refine hK _ ?_
          clear hK K)
        refine WQ.nil ?_
        intro u
        have hbu := below_past w4 u
        have hbo5 := fresh hbo4 hbu
        go_wp2_with fail
        go_roundw
        case rel => exact ⟨j + 1, moreR q t1 r1, A4, c4, by omega, by go_num, rfl, HC3, RR.below' hr4 hbu, HA4, hokm, hbo5⟩
        case measure => simp [intOf]; omega
    · have hkn : j = nq := by omega
      subst hkn
      have hz : ¬ (j : Int) < j := by omega
      have hb0r := fresh hb03 hbo
      have hBg := hide (pbegins_any A A0 q.length l0.length cq c0 q l0 wr hrq (hr0.below' hb0r) rfl rfl (by omega) (by have := h64.out; omega) hNq.out N0.out hOq.out Ok0.out)
      rw [cut_beg HM.out.2.1 hcut.out] at hBg
      obtain ⟨x0, x1, x2, x3, x4⟩ := (HF3.out.below hbo).cells
      go_wp2_with fail
      refine hBg.out.mono ?_
      rintro e w5 ⟨rfl, hb5⟩
      have hb05 := fresh hb0r hb5
      clear x0 x1 x2 x3 x4
      by_cases j0 : j = 0
      · subst j0
        go_wp2_with fail
        go_ret
        exact ⟨rfl, hb05⟩
      have hlt2 : j - 1 < (allR l0).length := by have := Htk.out.2.1; omega
      have hlt3 : j - 1 < L.length := by rw [← HL.out.2]; omega
      obtain ⟨b2, o2, rfl, hB2, hC2⟩ := RI.cell Hi3.out (by omega)
      obtain ⟨d0, d1⟩ := hC2 (j - 1) hlt3
      have hLj : L[j - 1] = (allR l0)[j - 1] := by
        have e := Htk.out.1
        have e2 : L[j - 1]? = ((allR l0).take j)[j - 1]? := by rw [← e]
        rw [List.getElem?_take_of_lt (by omega), List.getElem?_eq_getElem hlt3, List.getElem?_eq_getElem hlt2, Option.some.injEq] at e2
        exact e2
      rw [hLj] at d0 d1
      obtain ⟨t1, ht⟩ : ∃ t1, (allR l0)[j - 1].1 = t1 := ⟨_, rfl⟩
      obtain ⟨r1, hr⟩ : ∃ r1, (allR l0)[j - 1].2 = r1 := ⟨_, rfl⟩
      rw [ht] at d0
      rw [hr] at d1
      have hg : (allR l0)[j - 1]? = some (t1, r1) := by rw [List.getElem?_eq_getElem hlt2, ← ht, ← hr]
      have hln := last_needs HM.out (q := q) (by rw [← HL.out.1, ← HL.out.2]; exact hcut.out) (by rw [← HL.out.1, ← HL.out.2]; exact j0) t1 r1 (by rw [← HL.out.1, ← HL.out.2]; exact hg)
      rw [← HL.out.1, ← HL.out.2] at hln
      have hb35 := fresh hbo hb5
      replace d0 := keep_cell hb35 hB2 d0
      replace d1 := keep_cell hb35 hB2 d1
      have z5 : (0 : Int) < j := by omega
      have z9 : 0 < j := by omega
      have z6 : (0 : Int) ≤ (j : Int) - 1 := by omega
      have z7 : (j : Int) - 1 < j := by omega
      have z8 : ((j : Int) - 1).toNat = j - 1 := by omega
      have z11 : (1 : Int) ≤ j := by omega
      have z10 : (j : Int) - 1 ≤ c2 := by have := Hcap.out; omega
      have zw : IntKind.i64.wrap ((j : Int) - 1) = (j : Int) - 1 := IntWalk.i64_in _ (by omega)
      have Hln := hide hln
      have hj0 : ¬ (j : Int) = 0 := by omega
      clear hln hg ht hr hLj hC2 hlt2 hlt3
      go_wp2_with fail
      obtain ⟨w6, hw6, F6, hs6, hb6⟩ := five_fb w5 (.int .u8 2) (.int .u32 t1) (.int .u8 r1) (.slice A q.length cq) (.int .i64 0)
      rw [hw6]
      clear hw6
      have hb06 := fresh hb05 hb6
      obtain ⟨x0, x1, x2, x3, x4⟩ := F6.cells
      have hq6 : RR w6 w6.heap.size A q := (RR.below' hrq hb5).below' hb6
      have hi6 : RI w6 w6.heap.size (some ⟨b2, o2, none⟩) L := RI.below' Hi3.out (fresh hbo (fresh hb5 hb6))
      have hi6t := RI.take hi6 (j - 1)
      have E := hide (fun u => needs_ok 2 t1 r1 0 A (some ⟨b2, o2, none⟩) q.length cq (j - 1) c2 q (L.take (j - 1)) (past w6 u) (RR.below' hq6 (below_past _ u)) rfl (by omega) hOq.out (by decide) (RI.below' hi6t (below_past _ u)) (by rw [List.length_take, ← HL.out.2]; omega) (by omega))
      rw [decide_eq_true Hln.out] at E
      clear hq6 hi6 hi6t F6 d0 d1 Hln
      refine wp_region_wq (by kernel_rfl) (by kernel_rfl) ?_
      repeat (
        refine WQ.step (fun K hK => ?_)
        go_simp
        first
          | (refine hK _ ?_; clear hK K)
          | (apply Exists.intro
             refine ⟨fun _ => ?_, hK _ ?_⟩
             (go_at_call 35; with_reducible exact past_call (unhide E _))
             clear hK K))
      refine WQ.nil ?_
      intro u
      go_wp2_with fail
      go_ret
      exact ⟨rfl, fresh hb06 (below_past _ u)⟩
end Go.Proofs.Ytbjfmkdjnglgbaa
