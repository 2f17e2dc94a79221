/-
  octavoref06.May. Condition: parts of their types.
-/
import Derived.Test.YtbjfmkdjnglgbaaPlaceRef
import Derived.Test.YtbjfmkdjnglgbaaPastQ
namespace Go.Proofs.Ytbjfmkdjnglgbaa
open Go.RowKit

set_option maxHeartbeats 6400000 in
set_option maxRecDepth 100000 in
theorem prefmay_any (A : Option Addr) (n c : Nat) (p : List Rn) (w : World) (hr : RR w w.heap.size A p) (hn : p.length = n) (hok : ∀ x ∈ p, okR x) :
    Calls Try.prog 87 #[.slice A n c] w fun e w' => e = .returned (.bool (decide (mayR p))) ∧ Below w.heap.size w w' := by
  subst hn
  have Hok := hide hok
  clear hok
  by_cases h1 : (p.length : Int) < 1
  · have hf := hide (show decide (mayR p) = false from decide_eq_false (fun h => by have := h.1; omega))
    go_enter Try.func87, Try.ntmps87
    go_wp2_with fail
    go_ret
    exact ⟨ret_bool hf.out.symm, Below.refl _ _⟩
  by_cases h2 : (64 : Int) < (p.length : Int)
  · have hf := hide (show decide (mayR p) = false from decide_eq_false (fun h => by have := h.2.1; omega))
    go_enter Try.func87, Try.ntmps87
    go_wp2_with fail
    go_ret
    exact ⟨ret_bool hf.out.symm, Below.refl _ _⟩
  go_enter Try.func87, Try.ntmps87
  go_wp2_with fail
  go_loopw [3] (fun i wr => ∃ (k : Nat), k ≤ p.length ∧ i = .int .i64 (k : Int) ∧ Hid (chainR (p.take k)) ∧ Below w.heap.size w wr) (fun i _ => p.length - (intOf i).toNat)
  case atStart => exact ⟨0, by omega, rfl, hide trivial, Below.refl _ _⟩
  case round =>
    obtain ⟨k, hk, rfl, hch, hb⟩ := hrel
    by_cases hlt : k < p.length
    · obtain ⟨b0, o0, rfl, hB0, hC0⟩ := RR.cell (RD.below hr hb) (by omega)
      obtain ⟨d0, d1, d2⟩ := hC0 k hlt
      have z0 : (k : Int) < p.length := by omega
      obtain ⟨t, ht⟩ : ∃ t, t = p[k].1 := ⟨_, rfl⟩
      obtain ⟨r, hr'⟩ : ∃ r, r = p[k].2.1 := ⟨_, rfl⟩
      obtain ⟨m, hm⟩ : ∃ m, m = p[k].2.2 := ⟨_, rfl⟩
      rw [← ht] at d0
      rw [← hr'] at d1
      rw [← hm] at d2
      have hel : p[k] = (t, r, m) := by rw [ht, hr', hm]
      have hokk := Hok.out p[k] (List.getElem_mem hlt)
      rw [hel] at hokk
      have Hokk := hide hokk
      have hchk := take_chain hlt
      rw [hel] at hchk
      have Hchk := hide hchk
      obtain ⟨t0, t1, r0, r1, n0, n1⟩ := hokk
      simp only at t0 t1 r0 r1 n0 n1
      clear ht hr' hm hchk
      by_cases ho : oneR (t, r, m)
      · have hd := hide (decide_eq_true ho)
        have Ho := hide ho
        clear ho
        by_cases hk0 : k = 0
        · subst hk0
          have hch' := hide (Hchk.out.2 ⟨hch.out, Ho.out, fun h => absurd h (by decide)⟩)
          clear hC0
          simp only [Nat.zero_mul, Nat.add_zero] at d0 d1 d2
          go_wp2_with fail
          refine (refone_any t r m _ Hokk.out).mono ?_
          rintro e w2 ⟨rfl, hb2⟩
          rw [hd.out]
          go_wp2_with fail
          go_quiet (fail)
          go_wp2_with fail
          go_roundw
          case rel => exact ⟨0 + 1, by omega, by go_num, hch', below_drewN (fresh hb hb2) _⟩
          case measure => simp [intOf]; omega
        · obtain ⟨x0, x1, x2⟩ := hC0 (k - 1) (by omega)
          obtain ⟨a, ha⟩ : ∃ a, a = (p[k - 1]'(by omega)).1 := ⟨_, rfl⟩
          obtain ⟨b, hb'⟩ : ∃ b, b = (p[k - 1]'(by omega)).2.1 := ⟨_, rfl⟩
          obtain ⟨d, hd'⟩ : ∃ d, d = (p[k - 1]'(by omega)).2.2 := ⟨_, rfl⟩
          rw [← ha] at x0
          rw [← hb'] at x1
          rw [← hd'] at x2
          have hel2 : p[k - 1]'(by omega) = (a, b, d) := by rw [ha, hb', hd']
          have hmem : (p[k - 1]'(by omega)) ∈ p.take k := by
            have := List.getElem_mem (l := p.take k) (n := k - 1) (by rw [List.length_take]; omega)
            rwa [List.getElem_take] at this
          have hone2 := chainR_mem hch.out _ hmem
          rw [hel2] at hone2
          obtain ⟨q1, q2, q3, q4, q5, q6⟩ := hone2
          simp only at q1 q2 q3 q4 q5 q6
          have hst := hide (show (∀ h : 0 < k, stepR (p[k - 1]'(by omega)) (t, r, m)) ↔ (a + d - 1 < t ∧ ¬ (r = b ∧ t = a + d - 1 + 1)) from ⟨fun h => by have := h (by omega); rw [hel2] at this; exact this, fun h _ => by rw [hel2]; exact h⟩)
          have E := hide (fun w => end_ok a b d w (by omega) q2 q4 q5)
          clear ha hb' hd' hmem hC0
          have z5 : (0 : Int) < k := by omega
          have z9 : 0 < k := by omega
          have z6 : (0 : Int) ≤ (k : Int) - 1 := by omega
          have z7 : (k : Int) - 1 < p.length := by omega
          have z8 : ((k : Int) - 1).toNat = k - 1 := by omega
          have z10 : (1 : Int) ≤ k := by omega
          have z11 : (k : Int) ≤ p.length := by omega
          have zw : IntKind.i64.wrap ((k : Int) - 1) = (k : Int) - 1 := IntWalk.i64_in _ (by omega)
          go_wp2_with fail
          refine (refone_any t r m _ Hokk.out).mono ?_
          rintro e w2 ⟨rfl, hb2⟩
          rw [hd.out]
          have hb02 := fresh hb hb2
          have hB1 := Nat.lt_of_lt_of_le hB0 hb.size
          replace d0 := keep_cell hb2 hB1 d0
          replace d1 := keep_cell hb2 hB1 d1
          replace d2 := keep_cell hb2 hB1 d2
          replace x0 := keep_cell hb2 hB1 x0
          replace x1 := keep_cell hb2 hB1 x1
          replace x2 := keep_cell hb2 hB1 x2
          replace hB1 := Nat.lt_of_lt_of_le hB1 hb2.size
          have zw2 : IntKind.i64.wrap (a + d - 1 + 1) = a + d - 1 + 1 := IntWalk.i64_in _ (by omega)
          have zw4 : IntKind.i64.wrap t = t := IntWalk.i64_in _ (by omega)
          have zw3 : IntKind.i64.wrap (a + d) = a + d := IntWalk.i64_in _ (by omega)
          have hsp : (t ≤ a + d - 1) ∨ (¬ t ≤ a + d - 1 ∧ ¬ r = b) ∨ (¬ t ≤ a + d - 1 ∧ (r == b) = true ∧ (t == a + d) = false) ∨ (¬ t ≤ a + d - 1 ∧ (r == b) = true ∧ (t == a + d) = true) := by
            simp only [beq_iff_eq, beq_eq_false_iff_ne, ne_eq]
            omega
          rcases hsp with s1 | ⟨s1, s2⟩ | ⟨s1, s2, s3⟩ | ⟨s1, s2, s3⟩
          · skip
            have hf := hide (show decide (mayR p) = false from decide_eq_false (fun h => by have := hst.out.1 (Hchk.out.1 (chain_take h.2.2.1 (k + 1))).2.2; omega))
            go_wp2_with fail
            refine wp_region_wq (by kernel_rfl) (by kernel_rfl) ?_
            repeat (
              refine WQ.step (fun K hK => ?_)
              go_simp
              first
                | (refine hK _ ?_; clear hK K)
                | (apply Exists.intro
                   refine ⟨fun _ => ?_, hK _ ?_⟩
                   (go_at_call 119; with_reducible exact past_call (unhide E _))
                   clear hK K))
            refine WQ.nil ?_
            intro u
            have hb3 := fresh hb02 (below_past w2 u)
            go_wp2_with fail
            go_ret
            exact ⟨ret_bool hf.out.symm, hb3⟩
          · skip
            have hch' := hide (Hchk.out.2 ⟨hch.out, Ho.out, hst.out.2 ⟨by omega, by omega⟩⟩)
            go_wp2_with fail
            refine wp_region_wq (by kernel_rfl) (by kernel_rfl) ?_
            repeat (
              refine WQ.step (fun K hK => ?_)
              go_simp
              first
                | (refine hK _ ?_; clear hK K)
                | (apply Exists.intro
                   refine ⟨fun _ => ?_, hK _ ?_⟩
                   (go_at_call 119; with_reducible exact past_call (unhide E _))
                   clear hK K))
            refine WQ.nil ?_
            intro u
            have hb3 := fresh hb02 (below_past w2 u)
            go_wp2_with fail
            go_roundw
            case rel => exact ⟨k + 1, by omega, by go_num, hch', hb3⟩
            case measure => simp [intOf]; omega
          · have s4 : ¬ t = a + d := by simpa using s3
            have hch' := hide (Hchk.out.2 ⟨hch.out, Ho.out, hst.out.2 ⟨by omega, by omega⟩⟩)
            go_wp2_with fail
            refine wp_region_wq (by kernel_rfl) (by kernel_rfl) ?_
            repeat (
              refine WQ.step (fun K hK => ?_)
              go_simp
              first
                | (refine hK _ ?_; clear hK K)
                | (apply Exists.intro
                   refine ⟨fun _ => ?_, hK _ ?_⟩
                   (go_at_call 119; with_reducible exact past_call (unhide E _))
                   clear hK K))
            refine WQ.nil ?_
            intro u
            have hb3 := fresh hb02 (below_past w2 u)
            go_wp2_with fail
            go_roundw
            case rel => exact ⟨k + 1, by omega, by go_num, hch', hb3⟩
            case measure => simp [intOf]; omega
          · have s4 : t = a + d := by simpa using s3
            have s5 : r = b := by simpa using s2
            have hf := hide (show decide (mayR p) = false from decide_eq_false (fun h => by have := hst.out.1 (Hchk.out.1 (chain_take h.2.2.1 (k + 1))).2.2; omega))
            clear s4 s5
            go_wp2_with fail
            refine wp_region_wq (by kernel_rfl) (by kernel_rfl) ?_
            repeat (
              refine WQ.step (fun K hK => ?_)
              go_simp
              first
                | (refine hK _ ?_; clear hK K)
                | (apply Exists.intro
                   refine ⟨fun _ => ?_, hK _ ?_⟩
                   (go_at_call 119; with_reducible exact past_call (unhide E _))
                   clear hK K))
            refine WQ.nil ?_
            intro u
            have hb3 := fresh hb02 (below_past w2 u)
            go_wp2_with fail
            go_ret
            exact ⟨ret_bool hf.out.symm, hb3⟩
      · have hd := hide (decide_eq_false ho)
        have hf := hide (show decide (mayR p) = false from decide_eq_false (fun h => ho (Hchk.out.1 (chain_take h.2.2.1 (k + 1))).2.1))
        clear ho hC0
        go_wp2_with fail
        refine (refone_any t r m _ Hokk.out).mono ?_
        rintro e w2 ⟨rfl, hb2⟩
        rw [hd.out]
        go_wp2_with fail
        go_ret
        exact ⟨ret_bool hf.out.symm, fresh hb hb2⟩
    · have hz : ¬ (k : Int) < p.length := by omega
      have hkp : p.take k = p := List.take_of_length_le (by omega)
      rw [hkp] at hch
      have hd := hide (show decide (mayR p) = decide (long p ≤ 4096) from decide_eq_decide.2 ⟨fun h => h.2.2.2, fun h => ⟨by omega, by omega, hch.out, h⟩⟩)
      clear hkp
      go_wp2_with fail
      refine (reflong_any A _ c p wr ((RD.below hr hb).more hb.size) rfl (by omega) (fun x hx => ⟨by have := (chainR_mem hch.out x hx).2.2.2.1; omega, by have := (chainR_mem hch.out x hx).2.2.2.2.1; omega⟩)).mono ?_
      rintro e w2 ⟨rfl, hb2⟩
      go_wp2_with fail
      go_ret
      exact ⟨ret_bool hd.out.symm, fresh hb hb2⟩
end Go.Proofs.Ytbjfmkdjnglgbaa
