/-
  octavolaw09.alive: the chapter's first examples. No condition.
-/
import Derived.Test.YtbjfmkdjnglgbaaOpExamples
import Derived.Test.YtbjfmkdjnglgbaaPlaceAlive
namespace Go.Proofs.Ytbjfmkdjnglgbaa
open Go.RowKit

set_option maxHeartbeats 4000000 in
set_option maxRecDepth 100000 in
theorem opalive_ok (w : World) : Calls Try.prog 31 #[] w fun e w' => e = .returned (.bool true) ∧ Below w.heap.size w w' := by
  go_enter Try.func31, Try.ntmps31
  go_wp2_with fail
  refine (by_ok 3 0 _).mono ?_
  rintro e w1 ⟨rfl, hb1⟩
  go_wp2_with fail
  refine (three_ok _).mono ?_
  rintro e w2 ⟨A1, c1, rfl, hA1, hr1, hb2⟩
  have hb02 := fresh hb1 hb2
  go_wp2_with fail
  obtain ⟨w3, hw3, x0, x1, x2, x3, x4, hs3, hb3⟩ := five_box w2 (.int .u8 1) (.int .u32 3) (.int .u8 0) (.slice A1 1 c1) (.int .i64 97) 47
  rw [hw3]
  clear hw3
  have hb03 := fresh hb02 hb3
  refine (by_ok 9 1 _).mono ?_
  rintro e w4 ⟨rfl, hb4⟩
  go_wp2_with fail
  refine (three_ok _).mono ?_
  rintro e w5 ⟨A2, c2, rfl, hA2, hr2, hb5⟩
  have hb35 := fresh hb4 hb5
  go_wp2_with fail
  obtain ⟨w6, hw6, u0, u1, u2, u3, u4, hs6, hb6⟩ := five_box w5 (.int .u8 3) (.int .u32 9) (.int .u8 1) (.slice A2 1 c2) (.int .i64 0) 47
  rw [hw6]
  clear hw6
  have hb36 := fresh hb35 hb6
  have hb06 := fresh hb03 hb36
  have a0 := keep_cell hb36 hs3 x0
  have a1 := keep_cell hb36 hs3 x1
  have a2 := keep_cell hb36 hs3 x2
  have a3 := keep_cell hb36 hs3 x3
  have a4 := keep_cell hb36 hs3 x4
  have hg1 : w2.heap.size < w6.heap.size := Nat.lt_of_lt_of_le hs3 hb36.size
  have hrr1 : ∀ W, Below w6.heap.size w6 W → RR W W.heap.size A1 [(1, 0, 3)] := fun W h => (hr1.below' hb3).below' (fresh hb36 h)
  have hrr2 : ∀ W, Below w6.heap.size w6 W → RR W W.heap.size A2 [(1, 0, 3)] := fun W h => hr2.below' (fresh hb6 h)
  clear x0 x1 x2 x3 x4
  obtain ⟨g1, hgg1⟩ : ∃ g, g = w2.heap.size := ⟨_, rfl⟩
  obtain ⟨g2, hgg2⟩ : ∃ g, g = w5.heap.size := ⟨_, rfl⟩
  rw [← hgg1] at hg1 a0 a1 a2 a3 a4 ⊢
  have hg2 := hs6
  rw [← hgg2] at hg2 u0 u1 u2 u3 u4 ⊢
  obtain ⟨b0, b1, b2, b3, b4⟩ := And.intro u0 (And.intro u1 (And.intro u2 (And.intro u3 u4)))
  clear u0 u1 u2 u3 u4 hgg1 hgg2
  refine wp_region_claims ([.val (opv 1 3 0 A1 1 c1 97), .val (.int .i64 0), .val (.bool true), .val (.bool true), .val (opv 1 3 0 A1 1 c1 97), .val (.agg #[.int .u32 1, .int .u8 0]), .val (.agg #[.int .u32 2, .int .u8 0]), .ids [(1, 0), (2, 0)], .val (.bool true), .val (.bool true), .val (.bool true), .val (opv 3 9 1 A2 1 c2 0), .val (.int .i64 0), .val (.bool true), .val (.bool true), .val (.bool true), .val (opv 3 9 1 A2 1 c2 0), .val (.agg #[.int .u32 1, .int .u8 0]), .val (.agg #[.int .u32 2, .int .u8 0]), .val (.agg #[.int .u32 3, .int .u8 0]), .ids [(1, 0), (2, 0), (3, 0)], .val (.bool true), .val (.bool true), .val (.bool true)].map Kn.say) (by kernel_rfl) 32 (by rfl) (by kernel_rfl) (kns_mono _) ?_ ?_
  · refine ⟨?_, ?_, ?_, ?_, ?_, ?_, ?_, ?_, ?_, ?_, ?_, ?_, ?_, ?_, ?_, ?_, ?_, ?_, ?_, ?_, ?_, ?_, ?_, ?_, trivial⟩
    · -- 0: slot 9
      intro ρ w' hb hf hd
      have h1 := hf 1 (by kernel_rfl)
      change ρ 1 = .pointer (some ⟨g1, 0, none⟩) at h1
      clear hf hd
      refine .inl ⟨rfl, opOK_step fun R hR => ?_⟩
      have y0 := keep_cell hb hg1 a0
      have y1 := keep_cell hb hg1 a1
      have y2 := keep_cell hb hg1 a2
      have y3 := keep_cell hb hg1 a3
      have y4 := keep_cell hb hg1 a4
      unfold opOK
      go_simp
      exact hR _ _ ⟨Below.refl _ _, rfl⟩
    · -- 1: slot 10
      intro ρ w' hb hf hd
      have h9 : (Kn.val (opv 1 3 0 A1 1 c1 97)).say (ρ 9) w' := hd 0 (by kernel_rfl)
      change ρ 9 = (opv 1 3 0 A1 1 c1 97) at h9
      clear hf hd
      refine .inl ⟨rfl, opOK_step fun R hR => ?_⟩
      unfold opOK
      go_simp
      exact ((opcheck_any 1 3 0 97 A1 1 c1 [(1, 0, 3)] w' (hrr1 w' hb) rfl (by decide) (okR_dec (by decide)) (by decide))).mono fun e w3 ⟨he, hb3⟩ => ⟨_, he, hR _ _ ⟨hb3, rfl⟩⟩
    · -- 2: slot 11
      intro ρ w' hb hf hd
      have h10 : (Kn.val (.int .i64 0)).say (ρ 10) w' := hd 1 (by kernel_rfl)
      change ρ 10 = (.int .i64 0) at h10
      clear hf hd
      refine .inl ⟨rfl, opOK_step fun R hR => ?_⟩
      unfold opOK
      go_simp
      exact hR _ _ ⟨Below.refl _ _, rfl⟩
    · -- 3: slot 12
      intro ρ w' hb hf hd
      have h11 : (Kn.val (.bool true)).say (ρ 11) w' := hd 2 (by kernel_rfl)
      change ρ 11 = (.bool true) at h11
      clear hf hd
      refine .inl ⟨rfl, opOK_step fun R hR => ?_⟩
      unfold opOK
      go_simp
      exact hR _ _ ⟨Below.refl _ _, rfl⟩
    · -- 4: slot 13
      intro ρ w' hb hf hd
      have h1 := hf 1 (by kernel_rfl)
      have h12 : (Kn.val (.bool true)).say (ρ 12) w' := hd 3 (by kernel_rfl)
      change ρ 1 = .pointer (some ⟨g1, 0, none⟩) at h1
      change ρ 12 = (.bool true) at h12
      clear hf hd
      refine .inl ⟨ask_of rfl rfl h12, opOK_step fun R hR => ?_⟩
      have y0 := keep_cell hb hg1 a0
      have y1 := keep_cell hb hg1 a1
      have y2 := keep_cell hb hg1 a2
      have y3 := keep_cell hb hg1 a3
      have y4 := keep_cell hb hg1 a4
      unfold opOK
      go_simp
      exact hR _ _ ⟨Below.refl _ _, rfl⟩
    · -- 5: slot 14
      intro ρ w' hb hf hd
      have h12 : (Kn.val (.bool true)).say (ρ 12) w' := hd 3 (by kernel_rfl)
      change ρ 12 = (.bool true) at h12
      clear hf hd
      refine .inl ⟨ask_of rfl rfl h12, opOK_step fun R hR => ?_⟩
      unfold opOK
      go_simp
      exact (by_ok 1 0 w').mono fun e w3 ⟨he, hb3⟩ => ⟨_, he, hR _ _ ⟨hb3, rfl⟩⟩
    · -- 6: slot 15
      intro ρ w' hb hf hd
      have h12 : (Kn.val (.bool true)).say (ρ 12) w' := hd 3 (by kernel_rfl)
      change ρ 12 = (.bool true) at h12
      clear hf hd
      refine .inl ⟨ask_of rfl rfl h12, opOK_step fun R hR => ?_⟩
      unfold opOK
      go_simp
      exact (by_ok 2 0 w').mono fun e w3 ⟨he, hb3⟩ => ⟨_, he, hR _ _ ⟨hb3, rfl⟩⟩
    · -- 7: slot 16
      intro ρ w' hb hf hd
      have h12 : (Kn.val (.bool true)).say (ρ 12) w' := hd 3 (by kernel_rfl)
      have h14 : (Kn.val (.agg #[.int .u32 1, .int .u8 0])).say (ρ 14) w' := hd 5 (by kernel_rfl)
      have h15 : (Kn.val (.agg #[.int .u32 2, .int .u8 0])).say (ρ 15) w' := hd 6 (by kernel_rfl)
      change ρ 12 = (.bool true) at h12
      change ρ 14 = (.agg #[.int .u32 1, .int .u8 0]) at h14
      change ρ 15 = (.agg #[.int .u32 2, .int .u8 0]) at h15
      clear hf hd
      refine .inl ⟨ask_of rfl rfl h12, opOK_step fun R hR => ?_⟩
      unfold opOK
      go_simp
      exact hR _ _ ⟨boxed _ _, _, _, rfl, RI.new _ _ _ _ rfl⟩
    · -- 8: slot 17
      intro ρ w' hb hf hd
      have h12 : (Kn.val (.bool true)).say (ρ 12) w' := hd 3 (by kernel_rfl)
      have h13 : (Kn.val (opv 1 3 0 A1 1 c1 97)).say (ρ 13) w' := hd 4 (by kernel_rfl)
      have h16 : (Kn.ids [(1, 0), (2, 0)]).say (ρ 16) w' := hd 7 (by kernel_rfl)
      change ρ 12 = (.bool true) at h12
      change ρ 13 = (opv 1 3 0 A1 1 c1 97) at h13
      clear hf hd
      refine .inl ⟨ask_of rfl rfl h12, opOK_step fun R hR => ?_⟩
      obtain ⟨B, d, hB, hri⟩ := h16
      change ρ 16 = .slice B 2 d at hB
      unfold opOK
      go_simp
      exact (needs_ok 1 3 0 97 A1 B 1 c1 2 d [(1, 0, 3)] [(1, 0), (2, 0)] w' (hrr1 w' hb) rfl (by decide) (okR_dec (by decide)) (by decide) hri rfl (by decide)).mono fun e w3 ⟨he, hb3⟩ => ⟨_, he, hR _ _ ⟨hb3, rfl⟩⟩
    · -- 9: slot 18
      intro ρ w' hb hf hd
      have h12 : (Kn.val (.bool true)).say (ρ 12) w' := hd 3 (by kernel_rfl)
      have h17 : (Kn.val (.bool true)).say (ρ 17) w' := hd 8 (by kernel_rfl)
      change ρ 12 = (.bool true) at h12
      change ρ 17 = (.bool true) at h17
      clear hf hd
      refine .inl ⟨rfl, opOK_step fun R hR => ?_⟩
      unfold opOK
      go_simp
      exact hR _ _ ⟨Below.refl _ _, rfl⟩
    · -- 10: slot 19
      intro ρ w' hb hf hd
      have h18 : (Kn.val (.bool true)).say (ρ 18) w' := hd 9 (by kernel_rfl)
      change ρ 18 = (.bool true) at h18
      clear hf hd
      refine .inl ⟨rfl, opOK_step fun R hR => ?_⟩
      unfold opOK
      go_simp
      exact hR _ _ ⟨Below.refl _ _, rfl⟩
    · -- 11: slot 20
      intro ρ w' hb hf hd
      have h2 := hf 2 (by kernel_rfl)
      have h19 : (Kn.val (.bool true)).say (ρ 19) w' := hd 10 (by kernel_rfl)
      change ρ 2 = .pointer (some ⟨g2, 0, none⟩) at h2
      change ρ 19 = (.bool true) at h19
      clear hf hd
      refine .inl ⟨ask_of rfl rfl h19, opOK_step fun R hR => ?_⟩
      have y0 := keep_cell hb hg2 b0
      have y1 := keep_cell hb hg2 b1
      have y2 := keep_cell hb hg2 b2
      have y3 := keep_cell hb hg2 b3
      have y4 := keep_cell hb hg2 b4
      unfold opOK
      go_simp
      exact hR _ _ ⟨Below.refl _ _, rfl⟩
    · -- 12: slot 21
      intro ρ w' hb hf hd
      have h19 : (Kn.val (.bool true)).say (ρ 19) w' := hd 10 (by kernel_rfl)
      have h20 : (Kn.val (opv 3 9 1 A2 1 c2 0)).say (ρ 20) w' := hd 11 (by kernel_rfl)
      change ρ 19 = (.bool true) at h19
      change ρ 20 = (opv 3 9 1 A2 1 c2 0) at h20
      clear hf hd
      refine .inl ⟨ask_of rfl rfl h19, opOK_step fun R hR => ?_⟩
      unfold opOK
      go_simp
      exact ((opcheck_any 3 9 1 0 A2 1 c2 [(1, 0, 3)] w' (hrr2 w' hb) rfl (by decide) (okR_dec (by decide)) (by decide))).mono fun e w3 ⟨he, hb3⟩ => ⟨_, he, hR _ _ ⟨hb3, rfl⟩⟩
    · -- 13: slot 22
      intro ρ w' hb hf hd
      have h19 : (Kn.val (.bool true)).say (ρ 19) w' := hd 10 (by kernel_rfl)
      have h21 : (Kn.val (.int .i64 0)).say (ρ 21) w' := hd 12 (by kernel_rfl)
      change ρ 19 = (.bool true) at h19
      change ρ 21 = (.int .i64 0) at h21
      clear hf hd
      refine .inl ⟨ask_of rfl rfl h19, opOK_step fun R hR => ?_⟩
      unfold opOK
      go_simp
      exact hR _ _ ⟨Below.refl _ _, rfl⟩
    · -- 14: slot 23
      intro ρ w' hb hf hd
      have h19 : (Kn.val (.bool true)).say (ρ 19) w' := hd 10 (by kernel_rfl)
      have h22 : (Kn.val (.bool true)).say (ρ 22) w' := hd 13 (by kernel_rfl)
      change ρ 19 = (.bool true) at h19
      change ρ 22 = (.bool true) at h22
      clear hf hd
      refine .inl ⟨rfl, opOK_step fun R hR => ?_⟩
      unfold opOK
      go_simp
      exact hR _ _ ⟨Below.refl _ _, rfl⟩
    · -- 15: slot 24
      intro ρ w' hb hf hd
      have h23 : (Kn.val (.bool true)).say (ρ 23) w' := hd 14 (by kernel_rfl)
      change ρ 23 = (.bool true) at h23
      clear hf hd
      refine .inl ⟨rfl, opOK_step fun R hR => ?_⟩
      unfold opOK
      go_simp
      exact hR _ _ ⟨Below.refl _ _, rfl⟩
    · -- 16: slot 25
      intro ρ w' hb hf hd
      have h2 := hf 2 (by kernel_rfl)
      have h24 : (Kn.val (.bool true)).say (ρ 24) w' := hd 15 (by kernel_rfl)
      change ρ 2 = .pointer (some ⟨g2, 0, none⟩) at h2
      change ρ 24 = (.bool true) at h24
      clear hf hd
      refine .inl ⟨ask_of rfl rfl h24, opOK_step fun R hR => ?_⟩
      have y0 := keep_cell hb hg2 b0
      have y1 := keep_cell hb hg2 b1
      have y2 := keep_cell hb hg2 b2
      have y3 := keep_cell hb hg2 b3
      have y4 := keep_cell hb hg2 b4
      unfold opOK
      go_simp
      exact hR _ _ ⟨Below.refl _ _, rfl⟩
    · -- 17: slot 26
      intro ρ w' hb hf hd
      have h24 : (Kn.val (.bool true)).say (ρ 24) w' := hd 15 (by kernel_rfl)
      change ρ 24 = (.bool true) at h24
      clear hf hd
      refine .inl ⟨ask_of rfl rfl h24, opOK_step fun R hR => ?_⟩
      unfold opOK
      go_simp
      exact (by_ok 1 0 w').mono fun e w3 ⟨he, hb3⟩ => ⟨_, he, hR _ _ ⟨hb3, rfl⟩⟩
    · -- 18: slot 27
      intro ρ w' hb hf hd
      have h24 : (Kn.val (.bool true)).say (ρ 24) w' := hd 15 (by kernel_rfl)
      change ρ 24 = (.bool true) at h24
      clear hf hd
      refine .inl ⟨ask_of rfl rfl h24, opOK_step fun R hR => ?_⟩
      unfold opOK
      go_simp
      exact (by_ok 2 0 w').mono fun e w3 ⟨he, hb3⟩ => ⟨_, he, hR _ _ ⟨hb3, rfl⟩⟩
    · -- 19: slot 28
      intro ρ w' hb hf hd
      have h24 : (Kn.val (.bool true)).say (ρ 24) w' := hd 15 (by kernel_rfl)
      change ρ 24 = (.bool true) at h24
      clear hf hd
      refine .inl ⟨ask_of rfl rfl h24, opOK_step fun R hR => ?_⟩
      unfold opOK
      go_simp
      exact (by_ok 3 0 w').mono fun e w3 ⟨he, hb3⟩ => ⟨_, he, hR _ _ ⟨hb3, rfl⟩⟩
    · -- 20: slot 29
      intro ρ w' hb hf hd
      have h24 : (Kn.val (.bool true)).say (ρ 24) w' := hd 15 (by kernel_rfl)
      have h26 : (Kn.val (.agg #[.int .u32 1, .int .u8 0])).say (ρ 26) w' := hd 17 (by kernel_rfl)
      have h27 : (Kn.val (.agg #[.int .u32 2, .int .u8 0])).say (ρ 27) w' := hd 18 (by kernel_rfl)
      have h28 : (Kn.val (.agg #[.int .u32 3, .int .u8 0])).say (ρ 28) w' := hd 19 (by kernel_rfl)
      change ρ 24 = (.bool true) at h24
      change ρ 26 = (.agg #[.int .u32 1, .int .u8 0]) at h26
      change ρ 27 = (.agg #[.int .u32 2, .int .u8 0]) at h27
      change ρ 28 = (.agg #[.int .u32 3, .int .u8 0]) at h28
      clear hf hd
      refine .inl ⟨ask_of rfl rfl h24, opOK_step fun R hR => ?_⟩
      unfold opOK
      go_simp
      exact hR _ _ ⟨boxed _ _, _, _, rfl, RI.new _ _ _ _ rfl⟩
    · -- 21: slot 30
      intro ρ w' hb hf hd
      have h24 : (Kn.val (.bool true)).say (ρ 24) w' := hd 15 (by kernel_rfl)
      have h25 : (Kn.val (opv 3 9 1 A2 1 c2 0)).say (ρ 25) w' := hd 16 (by kernel_rfl)
      have h29 : (Kn.ids [(1, 0), (2, 0), (3, 0)]).say (ρ 29) w' := hd 20 (by kernel_rfl)
      change ρ 24 = (.bool true) at h24
      change ρ 25 = (opv 3 9 1 A2 1 c2 0) at h25
      clear hf hd
      refine .inl ⟨ask_of rfl rfl h24, opOK_step fun R hR => ?_⟩
      obtain ⟨B, d, hB, hri⟩ := h29
      change ρ 29 = .slice B 3 d at hB
      unfold opOK
      go_simp
      exact (needs_ok 3 9 1 0 A2 B 1 c2 3 d [(1, 0, 3)] [(1, 0), (2, 0), (3, 0)] w' (hrr2 w' hb) rfl (by decide) (okR_dec (by decide)) (by decide) hri rfl (by decide)).mono fun e w3 ⟨he, hb3⟩ => ⟨_, he, hR _ _ ⟨hb3, rfl⟩⟩
    · -- 22: slot 31
      intro ρ w' hb hf hd
      have h24 : (Kn.val (.bool true)).say (ρ 24) w' := hd 15 (by kernel_rfl)
      have h30 : (Kn.val (.bool true)).say (ρ 30) w' := hd 21 (by kernel_rfl)
      change ρ 24 = (.bool true) at h24
      change ρ 30 = (.bool true) at h30
      clear hf hd
      refine .inl ⟨rfl, opOK_step fun R hR => ?_⟩
      unfold opOK
      go_simp
      exact hR _ _ ⟨Below.refl _ _, rfl⟩
    · -- 23: slot 0
      intro ρ w' hb hf hd
      have h31 : (Kn.val (.bool true)).say (ρ 31) w' := hd 22 (by kernel_rfl)
      change ρ 31 = (.bool true) at h31
      clear hf hd
      refine .inl ⟨rfl, opOK_step fun R hR => ?_⟩
      unfold opOK
      go_simp
      exact hR _ _ ⟨Below.refl _ _, rfl⟩
  · intro a' w' hb hdf hsz hf hd
    have h0 : slotsOf a' 0 = .bool true := hd 23 (by decide)
    obtain ⟨T, D⟩ := a'
    have hD : D = [] := hdf
    subst hD
    go_wp2_with fail
    go_ret
    exact ⟨by rw [← h0]; rfl, fresh hb06 hb⟩
end Go.Proofs.Ytbjfmkdjnglgbaa
