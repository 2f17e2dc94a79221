/-
  OpTells: operations, and what they stand on, are the document's. Condition: parts of their types.
-/
import Derived.Test.YtbjfmkdjnglgbaaOpRef2
import Derived.Test.YtbjfmkdjnglgbaaOpSame
import Derived.Test.YtbjfmkdjnglgbaaOpTwin
import Derived.Test.YtbjfmkdjnglgbaaOpExamples
import Derived.Test.YtbjfmkdjnglgbaaOpNames
namespace Go.Proofs.Ytbjfmkdjnglgbaa
open Go.RowKit

theorem arr_fn (T : Array Value) (n : Nat) (h : T.size = n) : T = ((List.range n).map fun i => T.getD i undef).toArray := by
  refine Array.ext (by simp [h]) fun i h1 h2 => ?_
  simp [Array.getD, h1]

set_option maxHeartbeats 12800000 in
set_option maxRecDepth 100000 in
theorem opTells_walk (k t r z k' t' r' z' : Int) (A0 A1 : Option Addr) (c0 c1 : Nat) (l0 l1 : List Rn) (w : World) (hr0 : RR w w.heap.size A0 l0) (hr1 : RR w w.heap.size A1 l1) (ok0 : ∀ x ∈ l0, okR x) (k0 : 0 ≤ k) :
    Calls Try.prog 10 #[opv k t r A0 l0.length c0 z, opv k' t' r' A1 l1.length c1 z'] w fun e w' => e = .returned (.bool true) ∧ Below w.heap.size w w' := by
  obtain ⟨w1, hw1, FA, hs1, hb1⟩ := five_fb w (.int .u8 k) (.int .u32 t) (.int .u8 r) (.slice A0 l0.length c0) (.int .i64 z)
  obtain ⟨w2, hw2, FBb, hs2, hb2⟩ := five_fb w1 (.int .u8 k') (.int .u32 t') (.int .u8 r') (.slice A1 l1.length c1) (.int .i64 z')
  have hb02 := fresh hb1 hb2
  replace FA := FA.below hb2
  obtain ⟨ga, hga⟩ : ∃ g, g = w.heap.size := ⟨_, rfl⟩
  obtain ⟨gb, hgb⟩ : ∃ g, g = w1.heap.size := ⟨_, rfl⟩
  rw [← hga] at FA
  rw [← hgb] at FBb
  obtain ⟨a0, a1, a2, a3, a4⟩ := FA.cells
  obtain ⟨b0, b1, b2, b3, b4⟩ := FBb.cells
  have E1 := hga
  have E2 := hgb
  rw [hga] at a0 a1 a2 a3 a4
  rw [hgb] at b0 b1 b2 b3 b4
  by_cases hl0 : (300 : Int) < l0.length
  · clear FA FBb E1 E2 hga hgb
    go_enter Try.func10, Try.ntmps10
    go_wp2_with fail
    go_ret
    exact ⟨rfl, hb02⟩
  by_cases hl1 : (300 : Int) < l1.length
  · clear FA FBb E1 E2 hga hgb
    go_enter Try.func10, Try.ntmps10
    go_wp2_with fail
    go_ret
    exact ⟨rfl, hb02⟩
  have T0 := hide (fun W h => oreftwin_any k t r z A0 l0.length c0 l0 W h rfl (by omega))
  have N0 := hide (fun W h => orefneeds_any k t r z A0 l0.length c0 l0 W h rfl ok0)
  have RK0 := hide (fun W h => orefcheck_any k t r z A0 l0.length c0 l0 W h rfl ok0)
  have RT0 := hide (fun W => refcontent_ok k t r z A0 l0.length c0 W)
  have Ok0 := hide ok0
  have FA' := hide FA
  have FB' := hide FBb
  have G := hide (And.intro E1 E2)
  clear ok0 FA FBb E1 E2 hga hgb
  go_enter Try.func10, Try.ntmps10
  go_wp2_with fail
  refine (unhide T0 w2 (hr0.below' hb02)).mono ?_
  rintro e w3 ⟨A5, c5, rfl, hn5, hown5, hb3⟩
  have hb03 := fresh hb02 hb3
  have hr5 := RR.of_own hown5 rfl
  have N5 := hide hn5
  clear hown5 a0 a1 a2 a3 a4 b0 b1 b2 b3 b4 hn5
  go_wp2_with fail
  obtain ⟨w4, hw4, FO, hs4, hb4⟩ := five_fb w3 (.int .u8 k) (.int .u32 t) (.int .u8 r) (.slice A5 l0.length c5) (.int .i64 z)
  rw [hw4]
  have hb04 := fresh hb03 hb4
  obtain ⟨go, hgo⟩ : ∃ g, g = w3.heap.size := ⟨_, rfl⟩
  have hgo' := hide hgo
  rw [← hgo] at FO ⊢
  have FO' := hide FO
  obtain ⟨o0, o1, o2, o3, o4⟩ := FO.cells
  clear hgo FO hw4
  have hr54 := hr5.below' hb4
  have N1 := hide (opneeds_any k t r z A5 l0.length c5 l0 w4 hr54 rfl (by omega) Ok0.out k0)
  go_wp2_with fail
  refine N1.out.mono ?_
  rintro e w5 ⟨X6, c6, rfl, hri6, hb5⟩
  have hb05 := fresh hb04 hb5
  have hb45 := hb5
  obtain ⟨a0, a1, a2, a3, a4⟩ := ((FA'.out.below (fresh hb3 (fresh hb4 hb5)))).cells
  rw [G.out.1] at a0 a1 a2 a3 a4
  clear o0 o1 o2 o3 o4
  go_wp2_with fail
  refine (unhide N0 w5 (hr0.below' hb05)).mono ?_
  rintro e w6 ⟨X8, c8, rfl, hri8, hb6⟩
  have hb06 := fresh hb05 hb6
  have hb46 := fresh hb5 hb6
  obtain ⟨o0, o1, o2, o3, o4⟩ := (FO'.out.below hb46).cells
  have T1 := hide (optwin_any k t r z A5 l0.length c5 l0 w6 (hr54.below' hb46) rfl (by omega) N5.out)
  clear a0 a1 a2 a3 a4
  go_wp2_with fail
  refine T1.out.mono ?_
  rintro e w7 ⟨A7, c7, rfl, hn7, hown7, hb7⟩
  obtain ⟨A7', c7', hA7, hc7, -, -⟩ := own_slice hown7
  obtain ⟨g7, S7, -⟩ := own_SB hown7 rfl (by simp only [Value.slice.injEq] at hA7; omega)
  have hb07 := fresh hb06 hb7
  clear hown7 o0 o1 o2 o3 o4 hc7 hA7 hn7
  go_wp2_with fail
  obtain ⟨w8, hw8, FT, hs8, hb8⟩ := five_fb w7 (.int .u8 k) (.int .u32 t) (.int .u8 r) (.slice A7 l0.length c7) (.int .i64 z)
  rw [hw8]
  have hb08 := fresh hb07 hb8
  have hb68 := fresh hb7 hb8
  obtain ⟨gt, hgt⟩ : ∃ g, g = w7.heap.size := ⟨_, rfl⟩
  rw [← hgt] at FT ⊢
  clear hgt hw8
  have S8 := S7.below hb8
  clear S7
  have FT' := hide FT
  have FO8 := hide (FO'.out.below (fresh hb46 hb68))
  have FA8 := hide (FA'.out.below (fresh hb3 (fresh hb4 (fresh hb46 hb68))))
  have FB8 := hide (FB'.out.below (fresh hb3 (fresh hb4 (fresh hb46 hb68))))
  rw [← G.out.1, ← G.out.2]
  clear FT
  -- what the region calls
  obtain ⟨L, hL⟩ : ∃ L, L = needsO k t r l0 z := ⟨_, rfl⟩
  obtain ⟨NL, hNL⟩ : ∃ m, m = L.length := ⟨_, rfl⟩
  obtain ⟨CH, hCH⟩ : ∃ m, m = chkO k t r l0 z := ⟨_, rfl⟩
  obtain ⟨ct, hct⟩ : ∃ b, b = decide (k = 1 ∨ k = 3) := ⟨_, rfl⟩
  obtain ⟨sm, hsm⟩ : ∃ b, b = decide (k = k' ∧ t = t' ∧ r = r' ∧ l0 = l1 ∧ z = z') := ⟨_, rfl⟩
  have hLl : NL < 1073741824 := by
    rw [hNL, hL]
    unfold needsO
    split
    · rename_i hm
      have h1 := allR_long (p := l0) (fun x hx => by have := (chainR_mem hm.2.1.2.2.1 x hx).2.2.2.1; omega)
      have h2 := hm.2.1.2.2.2
      split
      · simp only [List.length_dropLast]; omega
      · omega
    · simp
  have RO := hide (fun W (h : Below w8.heap.size w8 W) => hr54.below' (fresh (fresh hb46 hb68) h))
  have RA := hide (fun W (h : Below w8.heap.size w8 W) => hr0.below' (fresh hb08 h))
  have RB := hide (fun W (h : Below w8.heap.size w8 W) => hr1.below' (fresh hb08 h))
  have RT7 := hide (fun W (h : Below w8.heap.size w8 W) => (S8.below h).rr)
  have SI := hide (fun W (h : Below w8.heap.size w8 W) => sameids_any X6 X8 c6 c8 NL NL L L W (by rw [hL]; exact RI.below' hri6 (fresh (fresh hb6 hb68) h)) (by rw [hL]; exact RI.below' hri8 (fresh hb68 h)) hNL.symm hNL.symm hLl hLl)
  have CK := hide (fun W h => opcheck_any k t r z A5 l0.length c5 l0 W h rfl (by omega) Ok0.out k0)
  have RK := RK0
  have CT := hide (fun W => content_ok k t r z A5 l0.length c5 W)
  have RT := RT0
  have SM := hide (fun W h g => opsame_any k t r z k' t' r' z' A5 A1 l0.length l1.length c5 c1 l0 l1 W h g rfl rfl (by omega) (by omega))
  have RM := hide (fun W h g => oprefsame_any k t r z k' t' r' z' A0 A1 l0.length l1.length c0 c1 l0 l1 W h g rfl rfl (by omega) (by omega))
  have SA := hide (fun W h g => opsame_any k t r z k t r z A5 A0 l0.length l0.length c5 c0 l0 l0 W h g rfl rfl (by omega) (by omega))
  have RS := hide (fun W h g => oprefsame_any k t r z k t r z A7 A0 l0.length l0.length c7 c0 l0 l0 W h g rfl rfl (by omega) (by omega))
  rw [← hCH] at CK RK
  rw [← hct] at CT RT
  rw [← hsm] at SM RM
  rw [decide_eq_true ⟨rfl, rfl, rfl, rfl, rfl⟩] at SA RS
  rw [decide_eq_true rfl] at SI
  rw [← hCH, ← hL, ← hNL]
  have RE := hide (fun W h g => oprefsame_any k t r z k t r z A5 A0 l0.length l0.length c5 c0 l0 l0 W h g rfl rfl (by omega) (by omega))
  rw [decide_eq_true ⟨rfl, rfl, rfl, rfl, rfl⟩] at RE
  have HL := hide (show ¬ (300 : Int) < l0.length by omega)
  have hr0' := hide (hr0.below' hb06)
  have hr5' := hide (hr54.below' hb46)
  have FO6 := hide (FO'.out.below hb46)
  have FA6 := hide (FA'.out.below (fresh hb3 (fresh hb4 hb46)))
  have Hb06 := hide hb06
  have Hb68 := hide hb68
  clear hL hNL hCH hct hsm hLl hl0 hl1 RK0 RT0 T0 N0 hri6 hri8 hr54 hr5 hr1 T1 N1 hb46 hb45 hb07 hb7 hb8 hb6 hb5 hb05 hb04 hb4 hb3 hb03 hb02 hb1 hb2 hw1 hw2 hs1 hs2 hs4 hs8 FA' FB' FO' hgo' hb06 hb68
  obtain ⟨n0, hn0⟩ : ∃ n, n = l0.length := ⟨_, rfl⟩
  obtain ⟨n1, hn1⟩ : ∃ n, n = l1.length := ⟨_, rfl⟩
  rw [← hn0, ← hn1] at SM RM
  rw [← hn0] at CK RK CT RT SA RS RE FT' FO8 FA8 FO6 FA6 HL ⊢
  rw [← hn1] at FB8
  have FO := FO8
  have FA := FA8
  have FBb := FB8
  have FT := FT'
  have Hn0 := hide hn0
  clear hn0 hn1 FO8 FA8 FB8 FT'
  clear hr0
  refine wp_region_claims ([.val (.slice X6 NL c6), .val (.slice X8 NL c8), .val (.bool true), .val (.bool true), .val (.int .i64 CH), .val (.int .i64 CH), .val (.bool true), .val (.bool true), .val (.bool true), .val (opv k t r A5 n0 c5 z), .val (.int .i64 CH), .val (opv k t r A0 n0 c0 z), .val (.int .i64 CH), .val (.bool true), .val (.bool true), .val (.bool true), .val (opv k t r A5 n0 c5 z), .val (.bool ct), .val (opv k t r A0 n0 c0 z), .val (.bool ct), .val (.bool true), .val (.bool true), .val (.bool true), .val (opv k t r A5 n0 c5 z), .val (opv k' t' r' A1 n1 c1 z'), .val (.bool sm), .val (opv k t r A0 n0 c0 z), .val (opv k' t' r' A1 n1 c1 z'), .val (.bool sm), .val (.bool true), .val (.bool true), .val (.bool true), .val (opv k t r A5 n0 c5 z), .val (opv k t r A0 n0 c0 z), .val (.bool true), .val (.bool true), .val (.bool true), .val (opv k t r A7 n0 c7 z), .val (opv k t r A0 n0 c0 z), .val (.bool true), .val (.bool true), .val (.bool true)].map Kn.say) (by kernel_rfl) 96 (by rfl) (by kernel_rfl) (kns_mono _) ?_ ?_
  · refine ⟨?_, ?_, ?_, ?_, ?_, ?_, ?_, ?_, ?_, ?_, ?_, ?_, ?_, ?_, ?_, ?_, ?_, ?_, ?_, ?_, ?_, ?_, ?_, ?_, ?_, ?_, ?_, ?_, ?_, ?_, ?_, ?_, ?_, ?_, ?_, ?_, ?_, ?_, ?_, ?_, ?_, ?_, trivial⟩
    · -- 0: slot 37
      intro ρ w' hb hf hd
      have h6 := hf 6 (by kernel_rfl)
      change ρ 6 = .slice X6 NL c6 at h6
      clear hf hd
      refine .inl ⟨rfl, opOK_step fun R hR => ?_⟩
      unfold opOK
      go_simp
      exact hR _ _ ⟨Below.refl _ _, rfl⟩
    · -- 1: slot 38
      intro ρ w' hb hf hd
      have h8 := hf 8 (by kernel_rfl)
      change ρ 8 = .slice X8 NL c8 at h8
      clear hf hd
      refine .inl ⟨rfl, opOK_step fun R hR => ?_⟩
      unfold opOK
      go_simp
      exact hR _ _ ⟨Below.refl _ _, rfl⟩
    · -- 2: slot 39
      intro ρ w' hb hf hd
      have h37 : (Kn.val (.slice X6 NL c6)).say (ρ 37) w' := hd 0 (by kernel_rfl)
      have h38 : (Kn.val (.slice X8 NL c8)).say (ρ 38) w' := hd 1 (by kernel_rfl)
      change ρ 37 = (.slice X6 NL c6) at h37
      change ρ 38 = (.slice X8 NL c8) at h38
      clear hf hd
      refine .inl ⟨rfl, opOK_step fun R hR => ?_⟩
      unfold opOK
      go_simp
      exact (unhide SI w' hb).mono fun e w3 ⟨he, hb3⟩ => ⟨_, he, hR _ _ ⟨hb3, rfl⟩⟩
    · -- 3: slot 40
      intro ρ w' hb hf hd
      have h39 : (Kn.val (.bool true)).say (ρ 39) w' := hd 2 (by kernel_rfl)
      change ρ 39 = (.bool true) at h39
      clear hf hd
      refine .inl ⟨rfl, opOK_step fun R hR => ?_⟩
      unfold opOK
      go_simp
      exact hR _ _ ⟨Below.refl _ _, rfl⟩
    · -- 4: slot 41
      intro ρ w' hb hf hd
      have h7 := hf 7 (by kernel_rfl)
      have h40 : (Kn.val (.bool true)).say (ρ 40) w' := hd 3 (by kernel_rfl)
      change ρ 7 = .int .i64 CH at h7
      change ρ 40 = (.bool true) at h40
      clear hf hd
      refine .inl ⟨ask_of rfl rfl h40, opOK_step fun R hR => ?_⟩
      unfold opOK
      go_simp
      exact hR _ _ ⟨Below.refl _ _, rfl⟩
    · -- 5: slot 42
      intro ρ w' hb hf hd
      have h9 := hf 9 (by kernel_rfl)
      have h40 : (Kn.val (.bool true)).say (ρ 40) w' := hd 3 (by kernel_rfl)
      change ρ 9 = .int .i64 CH at h9
      change ρ 40 = (.bool true) at h40
      clear hf hd
      refine .inl ⟨ask_of rfl rfl h40, opOK_step fun R hR => ?_⟩
      unfold opOK
      go_simp
      exact hR _ _ ⟨Below.refl _ _, rfl⟩
    · -- 6: slot 43
      intro ρ w' hb hf hd
      have h40 : (Kn.val (.bool true)).say (ρ 40) w' := hd 3 (by kernel_rfl)
      have h41 : (Kn.val (.int .i64 CH)).say (ρ 41) w' := hd 4 (by kernel_rfl)
      have h42 : (Kn.val (.int .i64 CH)).say (ρ 42) w' := hd 5 (by kernel_rfl)
      change ρ 40 = (.bool true) at h40
      change ρ 41 = (.int .i64 CH) at h41
      change ρ 42 = (.int .i64 CH) at h42
      clear hf hd
      refine .inl ⟨ask_of rfl rfl h40, opOK_step fun R hR => ?_⟩
      unfold opOK
      go_simp
      exact hR _ _ ⟨Below.refl _ _, rfl⟩
    · -- 7: slot 44
      intro ρ w' hb hf hd
      have h40 : (Kn.val (.bool true)).say (ρ 40) w' := hd 3 (by kernel_rfl)
      have h43 : (Kn.val (.bool true)).say (ρ 43) w' := hd 6 (by kernel_rfl)
      change ρ 40 = (.bool true) at h40
      change ρ 43 = (.bool true) at h43
      clear hf hd
      refine .inl ⟨rfl, opOK_step fun R hR => ?_⟩
      unfold opOK
      go_simp
      exact hR _ _ ⟨Below.refl _ _, rfl⟩
    · -- 8: slot 45
      intro ρ w' hb hf hd
      have h44 : (Kn.val (.bool true)).say (ρ 44) w' := hd 7 (by kernel_rfl)
      change ρ 44 = (.bool true) at h44
      clear hf hd
      refine .inl ⟨rfl, opOK_step fun R hR => ?_⟩
      unfold opOK
      go_simp
      exact hR _ _ ⟨Below.refl _ _, rfl⟩
    · -- 9: slot 46
      intro ρ w' hb hf hd
      have h5 := hf 5 (by kernel_rfl)
      have h45 : (Kn.val (.bool true)).say (ρ 45) w' := hd 8 (by kernel_rfl)
      change ρ 5 = .pointer (some ⟨go, 0, none⟩) at h5
      change ρ 45 = (.bool true) at h45
      clear hf hd
      refine .inl ⟨ask_of rfl rfl h45, opOK_step fun R hR => ?_⟩
      obtain ⟨y0, y1, y2, y3, y4⟩ := (FO.out.below hb).cells
      unfold opOK
      go_simp
      exact hR _ _ ⟨Below.refl _ _, rfl⟩
    · -- 10: slot 47
      intro ρ w' hb hf hd
      have h45 : (Kn.val (.bool true)).say (ρ 45) w' := hd 8 (by kernel_rfl)
      have h46 : (Kn.val (opv k t r A5 n0 c5 z)).say (ρ 46) w' := hd 9 (by kernel_rfl)
      change ρ 45 = (.bool true) at h45
      change ρ 46 = (opv k t r A5 n0 c5 z) at h46
      clear hf hd
      refine .inl ⟨ask_of rfl rfl h45, opOK_step fun R hR => ?_⟩
      unfold opOK
      go_simp
      exact (unhide CK w' (RO.out w' hb)).mono fun e w3 ⟨he, hb3⟩ => ⟨_, he, hR _ _ ⟨hb3, rfl⟩⟩
    · -- 11: slot 48
      intro ρ w' hb hf hd
      have h2 := hf 2 (by kernel_rfl)
      have h45 : (Kn.val (.bool true)).say (ρ 45) w' := hd 8 (by kernel_rfl)
      change ρ 2 = .pointer (some ⟨ga, 0, none⟩) at h2
      change ρ 45 = (.bool true) at h45
      clear hf hd
      refine .inl ⟨ask_of rfl rfl h45, opOK_step fun R hR => ?_⟩
      obtain ⟨y0, y1, y2, y3, y4⟩ := (FA.out.below hb).cells
      unfold opOK
      go_simp
      exact hR _ _ ⟨Below.refl _ _, rfl⟩
    · -- 12: slot 49
      intro ρ w' hb hf hd
      have h45 : (Kn.val (.bool true)).say (ρ 45) w' := hd 8 (by kernel_rfl)
      have h48 : (Kn.val (opv k t r A0 n0 c0 z)).say (ρ 48) w' := hd 11 (by kernel_rfl)
      change ρ 45 = (.bool true) at h45
      change ρ 48 = (opv k t r A0 n0 c0 z) at h48
      clear hf hd
      refine .inl ⟨ask_of rfl rfl h45, opOK_step fun R hR => ?_⟩
      unfold opOK
      go_simp
      exact (unhide RK w' (RA.out w' hb)).mono fun e w3 ⟨he, hb3⟩ => ⟨_, he, hR _ _ ⟨hb3, rfl⟩⟩
    · -- 13: slot 50
      intro ρ w' hb hf hd
      have h45 : (Kn.val (.bool true)).say (ρ 45) w' := hd 8 (by kernel_rfl)
      have h47 : (Kn.val (.int .i64 CH)).say (ρ 47) w' := hd 10 (by kernel_rfl)
      have h49 : (Kn.val (.int .i64 CH)).say (ρ 49) w' := hd 12 (by kernel_rfl)
      change ρ 45 = (.bool true) at h45
      change ρ 47 = (.int .i64 CH) at h47
      change ρ 49 = (.int .i64 CH) at h49
      clear hf hd
      refine .inl ⟨ask_of rfl rfl h45, opOK_step fun R hR => ?_⟩
      unfold opOK
      go_simp
      exact hR _ _ ⟨Below.refl _ _, rfl⟩
    · -- 14: slot 51
      intro ρ w' hb hf hd
      have h45 : (Kn.val (.bool true)).say (ρ 45) w' := hd 8 (by kernel_rfl)
      have h50 : (Kn.val (.bool true)).say (ρ 50) w' := hd 13 (by kernel_rfl)
      change ρ 45 = (.bool true) at h45
      change ρ 50 = (.bool true) at h50
      clear hf hd
      refine .inl ⟨rfl, opOK_step fun R hR => ?_⟩
      unfold opOK
      go_simp
      exact hR _ _ ⟨Below.refl _ _, rfl⟩
    · -- 15: slot 52
      intro ρ w' hb hf hd
      have h51 : (Kn.val (.bool true)).say (ρ 51) w' := hd 14 (by kernel_rfl)
      change ρ 51 = (.bool true) at h51
      clear hf hd
      refine .inl ⟨rfl, opOK_step fun R hR => ?_⟩
      unfold opOK
      go_simp
      exact hR _ _ ⟨Below.refl _ _, rfl⟩
    · -- 16: slot 53
      intro ρ w' hb hf hd
      have h5 := hf 5 (by kernel_rfl)
      have h52 : (Kn.val (.bool true)).say (ρ 52) w' := hd 15 (by kernel_rfl)
      change ρ 5 = .pointer (some ⟨go, 0, none⟩) at h5
      change ρ 52 = (.bool true) at h52
      clear hf hd
      refine .inl ⟨ask_of rfl rfl h52, opOK_step fun R hR => ?_⟩
      obtain ⟨y0, y1, y2, y3, y4⟩ := (FO.out.below hb).cells
      unfold opOK
      go_simp
      exact hR _ _ ⟨Below.refl _ _, rfl⟩
    · -- 17: slot 54
      intro ρ w' hb hf hd
      have h52 : (Kn.val (.bool true)).say (ρ 52) w' := hd 15 (by kernel_rfl)
      have h53 : (Kn.val (opv k t r A5 n0 c5 z)).say (ρ 53) w' := hd 16 (by kernel_rfl)
      change ρ 52 = (.bool true) at h52
      change ρ 53 = (opv k t r A5 n0 c5 z) at h53
      clear hf hd
      refine .inl ⟨ask_of rfl rfl h52, opOK_step fun R hR => ?_⟩
      unfold opOK
      go_simp
      exact (unhide CT w').mono fun e w3 ⟨he, hb3⟩ => ⟨_, he, hR _ _ ⟨hb3, rfl⟩⟩
    · -- 18: slot 55
      intro ρ w' hb hf hd
      have h2 := hf 2 (by kernel_rfl)
      have h52 : (Kn.val (.bool true)).say (ρ 52) w' := hd 15 (by kernel_rfl)
      change ρ 2 = .pointer (some ⟨ga, 0, none⟩) at h2
      change ρ 52 = (.bool true) at h52
      clear hf hd
      refine .inl ⟨ask_of rfl rfl h52, opOK_step fun R hR => ?_⟩
      obtain ⟨y0, y1, y2, y3, y4⟩ := (FA.out.below hb).cells
      unfold opOK
      go_simp
      exact hR _ _ ⟨Below.refl _ _, rfl⟩
    · -- 19: slot 56
      intro ρ w' hb hf hd
      have h52 : (Kn.val (.bool true)).say (ρ 52) w' := hd 15 (by kernel_rfl)
      have h55 : (Kn.val (opv k t r A0 n0 c0 z)).say (ρ 55) w' := hd 18 (by kernel_rfl)
      change ρ 52 = (.bool true) at h52
      change ρ 55 = (opv k t r A0 n0 c0 z) at h55
      clear hf hd
      refine .inl ⟨ask_of rfl rfl h52, opOK_step fun R hR => ?_⟩
      unfold opOK
      go_simp
      exact (unhide RT w').mono fun e w3 ⟨he, hb3⟩ => ⟨_, he, hR _ _ ⟨hb3, rfl⟩⟩
    · -- 20: slot 57
      intro ρ w' hb hf hd
      have h52 : (Kn.val (.bool true)).say (ρ 52) w' := hd 15 (by kernel_rfl)
      have h54 : (Kn.val (.bool ct)).say (ρ 54) w' := hd 17 (by kernel_rfl)
      have h56 : (Kn.val (.bool ct)).say (ρ 56) w' := hd 19 (by kernel_rfl)
      change ρ 52 = (.bool true) at h52
      change ρ 54 = (.bool ct) at h54
      change ρ 56 = (.bool ct) at h56
      clear hf hd
      refine .inl ⟨ask_of rfl rfl h52, opOK_step fun R hR => ?_⟩
      unfold opOK
      go_simp
      exact hR _ _ ⟨Below.refl _ _, rfl⟩
    · -- 21: slot 58
      intro ρ w' hb hf hd
      have h52 : (Kn.val (.bool true)).say (ρ 52) w' := hd 15 (by kernel_rfl)
      have h57 : (Kn.val (.bool true)).say (ρ 57) w' := hd 20 (by kernel_rfl)
      change ρ 52 = (.bool true) at h52
      change ρ 57 = (.bool true) at h57
      clear hf hd
      refine .inl ⟨rfl, opOK_step fun R hR => ?_⟩
      unfold opOK
      go_simp
      exact hR _ _ ⟨Below.refl _ _, rfl⟩
    · -- 22: slot 59
      intro ρ w' hb hf hd
      have h58 : (Kn.val (.bool true)).say (ρ 58) w' := hd 21 (by kernel_rfl)
      change ρ 58 = (.bool true) at h58
      clear hf hd
      refine .inl ⟨rfl, opOK_step fun R hR => ?_⟩
      unfold opOK
      go_simp
      exact hR _ _ ⟨Below.refl _ _, rfl⟩
    · -- 23: slot 60
      intro ρ w' hb hf hd
      have h5 := hf 5 (by kernel_rfl)
      have h59 : (Kn.val (.bool true)).say (ρ 59) w' := hd 22 (by kernel_rfl)
      change ρ 5 = .pointer (some ⟨go, 0, none⟩) at h5
      change ρ 59 = (.bool true) at h59
      clear hf hd
      refine .inl ⟨ask_of rfl rfl h59, opOK_step fun R hR => ?_⟩
      obtain ⟨y0, y1, y2, y3, y4⟩ := (FO.out.below hb).cells
      unfold opOK
      go_simp
      exact hR _ _ ⟨Below.refl _ _, rfl⟩
    · -- 24: slot 61
      intro ρ w' hb hf hd
      have h3 := hf 3 (by kernel_rfl)
      have h59 : (Kn.val (.bool true)).say (ρ 59) w' := hd 22 (by kernel_rfl)
      change ρ 3 = .pointer (some ⟨gb, 0, none⟩) at h3
      change ρ 59 = (.bool true) at h59
      clear hf hd
      refine .inl ⟨ask_of rfl rfl h59, opOK_step fun R hR => ?_⟩
      obtain ⟨y0, y1, y2, y3, y4⟩ := (FBb.out.below hb).cells
      unfold opOK
      go_simp
      exact hR _ _ ⟨Below.refl _ _, rfl⟩
    · -- 25: slot 62
      intro ρ w' hb hf hd
      have h59 : (Kn.val (.bool true)).say (ρ 59) w' := hd 22 (by kernel_rfl)
      have h60 : (Kn.val (opv k t r A5 n0 c5 z)).say (ρ 60) w' := hd 23 (by kernel_rfl)
      have h61 : (Kn.val (opv k' t' r' A1 n1 c1 z')).say (ρ 61) w' := hd 24 (by kernel_rfl)
      change ρ 59 = (.bool true) at h59
      change ρ 60 = (opv k t r A5 n0 c5 z) at h60
      change ρ 61 = (opv k' t' r' A1 n1 c1 z') at h61
      clear hf hd
      refine .inl ⟨ask_of rfl rfl h59, opOK_step fun R hR => ?_⟩
      unfold opOK
      go_simp
      exact (unhide SM w' (RO.out w' hb) (RB.out w' hb)).mono fun e w3 ⟨he, hb3⟩ => ⟨_, he, hR _ _ ⟨hb3, rfl⟩⟩
    · -- 26: slot 63
      intro ρ w' hb hf hd
      have h2 := hf 2 (by kernel_rfl)
      have h59 : (Kn.val (.bool true)).say (ρ 59) w' := hd 22 (by kernel_rfl)
      change ρ 2 = .pointer (some ⟨ga, 0, none⟩) at h2
      change ρ 59 = (.bool true) at h59
      clear hf hd
      refine .inl ⟨ask_of rfl rfl h59, opOK_step fun R hR => ?_⟩
      obtain ⟨y0, y1, y2, y3, y4⟩ := (FA.out.below hb).cells
      unfold opOK
      go_simp
      exact hR _ _ ⟨Below.refl _ _, rfl⟩
    · -- 27: slot 64
      intro ρ w' hb hf hd
      have h3 := hf 3 (by kernel_rfl)
      have h59 : (Kn.val (.bool true)).say (ρ 59) w' := hd 22 (by kernel_rfl)
      change ρ 3 = .pointer (some ⟨gb, 0, none⟩) at h3
      change ρ 59 = (.bool true) at h59
      clear hf hd
      refine .inl ⟨ask_of rfl rfl h59, opOK_step fun R hR => ?_⟩
      obtain ⟨y0, y1, y2, y3, y4⟩ := (FBb.out.below hb).cells
      unfold opOK
      go_simp
      exact hR _ _ ⟨Below.refl _ _, rfl⟩
    · -- 28: slot 65
      intro ρ w' hb hf hd
      have h59 : (Kn.val (.bool true)).say (ρ 59) w' := hd 22 (by kernel_rfl)
      have h63 : (Kn.val (opv k t r A0 n0 c0 z)).say (ρ 63) w' := hd 26 (by kernel_rfl)
      have h64 : (Kn.val (opv k' t' r' A1 n1 c1 z')).say (ρ 64) w' := hd 27 (by kernel_rfl)
      change ρ 59 = (.bool true) at h59
      change ρ 63 = (opv k t r A0 n0 c0 z) at h63
      change ρ 64 = (opv k' t' r' A1 n1 c1 z') at h64
      clear hf hd
      refine .inl ⟨ask_of rfl rfl h59, opOK_step fun R hR => ?_⟩
      unfold opOK
      go_simp
      exact (unhide RM w' (RA.out w' hb) (RB.out w' hb)).mono fun e w3 ⟨he, hb3⟩ => ⟨_, he, hR _ _ ⟨hb3, rfl⟩⟩
    · -- 29: slot 66
      intro ρ w' hb hf hd
      have h59 : (Kn.val (.bool true)).say (ρ 59) w' := hd 22 (by kernel_rfl)
      have h62 : (Kn.val (.bool sm)).say (ρ 62) w' := hd 25 (by kernel_rfl)
      have h65 : (Kn.val (.bool sm)).say (ρ 65) w' := hd 28 (by kernel_rfl)
      change ρ 59 = (.bool true) at h59
      change ρ 62 = (.bool sm) at h62
      change ρ 65 = (.bool sm) at h65
      clear hf hd
      refine .inl ⟨ask_of rfl rfl h59, opOK_step fun R hR => ?_⟩
      unfold opOK
      go_simp
      exact hR _ _ ⟨Below.refl _ _, rfl⟩
    · -- 30: slot 67
      intro ρ w' hb hf hd
      have h59 : (Kn.val (.bool true)).say (ρ 59) w' := hd 22 (by kernel_rfl)
      have h66 : (Kn.val (.bool true)).say (ρ 66) w' := hd 29 (by kernel_rfl)
      change ρ 59 = (.bool true) at h59
      change ρ 66 = (.bool true) at h66
      clear hf hd
      refine .inl ⟨rfl, opOK_step fun R hR => ?_⟩
      unfold opOK
      go_simp
      exact hR _ _ ⟨Below.refl _ _, rfl⟩
    · -- 31: slot 68
      intro ρ w' hb hf hd
      have h67 : (Kn.val (.bool true)).say (ρ 67) w' := hd 30 (by kernel_rfl)
      change ρ 67 = (.bool true) at h67
      clear hf hd
      refine .inl ⟨rfl, opOK_step fun R hR => ?_⟩
      unfold opOK
      go_simp
      exact hR _ _ ⟨Below.refl _ _, rfl⟩
    · -- 32: slot 69
      intro ρ w' hb hf hd
      have h5 := hf 5 (by kernel_rfl)
      have h68 : (Kn.val (.bool true)).say (ρ 68) w' := hd 31 (by kernel_rfl)
      change ρ 5 = .pointer (some ⟨go, 0, none⟩) at h5
      change ρ 68 = (.bool true) at h68
      clear hf hd
      refine .inl ⟨ask_of rfl rfl h68, opOK_step fun R hR => ?_⟩
      obtain ⟨y0, y1, y2, y3, y4⟩ := (FO.out.below hb).cells
      unfold opOK
      go_simp
      exact hR _ _ ⟨Below.refl _ _, rfl⟩
    · -- 33: slot 70
      intro ρ w' hb hf hd
      have h2 := hf 2 (by kernel_rfl)
      have h68 : (Kn.val (.bool true)).say (ρ 68) w' := hd 31 (by kernel_rfl)
      change ρ 2 = .pointer (some ⟨ga, 0, none⟩) at h2
      change ρ 68 = (.bool true) at h68
      clear hf hd
      refine .inl ⟨ask_of rfl rfl h68, opOK_step fun R hR => ?_⟩
      obtain ⟨y0, y1, y2, y3, y4⟩ := (FA.out.below hb).cells
      unfold opOK
      go_simp
      exact hR _ _ ⟨Below.refl _ _, rfl⟩
    · -- 34: slot 71
      intro ρ w' hb hf hd
      have h68 : (Kn.val (.bool true)).say (ρ 68) w' := hd 31 (by kernel_rfl)
      have h69 : (Kn.val (opv k t r A5 n0 c5 z)).say (ρ 69) w' := hd 32 (by kernel_rfl)
      have h70 : (Kn.val (opv k t r A0 n0 c0 z)).say (ρ 70) w' := hd 33 (by kernel_rfl)
      change ρ 68 = (.bool true) at h68
      change ρ 69 = (opv k t r A5 n0 c5 z) at h69
      change ρ 70 = (opv k t r A0 n0 c0 z) at h70
      clear hf hd
      refine .inl ⟨ask_of rfl rfl h68, opOK_step fun R hR => ?_⟩
      unfold opOK
      go_simp
      exact (unhide SA w' (RO.out w' hb) (RA.out w' hb)).mono fun e w3 ⟨he, hb3⟩ => ⟨_, he, hR _ _ ⟨hb3, rfl⟩⟩
    · -- 35: slot 72
      intro ρ w' hb hf hd
      have h68 : (Kn.val (.bool true)).say (ρ 68) w' := hd 31 (by kernel_rfl)
      have h71 : (Kn.val (.bool true)).say (ρ 71) w' := hd 34 (by kernel_rfl)
      change ρ 68 = (.bool true) at h68
      change ρ 71 = (.bool true) at h71
      clear hf hd
      refine .inl ⟨rfl, opOK_step fun R hR => ?_⟩
      unfold opOK
      go_simp
      exact hR _ _ ⟨Below.refl _ _, rfl⟩
    · -- 36: slot 73
      intro ρ w' hb hf hd
      have h72 : (Kn.val (.bool true)).say (ρ 72) w' := hd 35 (by kernel_rfl)
      change ρ 72 = (.bool true) at h72
      clear hf hd
      refine .inl ⟨rfl, opOK_step fun R hR => ?_⟩
      unfold opOK
      go_simp
      exact hR _ _ ⟨Below.refl _ _, rfl⟩
    · -- 37: slot 74
      intro ρ w' hb hf hd
      have h10 := hf 10 (by kernel_rfl)
      have h73 : (Kn.val (.bool true)).say (ρ 73) w' := hd 36 (by kernel_rfl)
      change ρ 10 = .pointer (some ⟨gt, 0, none⟩) at h10
      change ρ 73 = (.bool true) at h73
      clear hf hd
      refine .inl ⟨ask_of rfl rfl h73, opOK_step fun R hR => ?_⟩
      obtain ⟨y0, y1, y2, y3, y4⟩ := (FT.out.below hb).cells
      unfold opOK
      go_simp
      exact hR _ _ ⟨Below.refl _ _, rfl⟩
    · -- 38: slot 75
      intro ρ w' hb hf hd
      have h2 := hf 2 (by kernel_rfl)
      have h73 : (Kn.val (.bool true)).say (ρ 73) w' := hd 36 (by kernel_rfl)
      change ρ 2 = .pointer (some ⟨ga, 0, none⟩) at h2
      change ρ 73 = (.bool true) at h73
      clear hf hd
      refine .inl ⟨ask_of rfl rfl h73, opOK_step fun R hR => ?_⟩
      obtain ⟨y0, y1, y2, y3, y4⟩ := (FA.out.below hb).cells
      unfold opOK
      go_simp
      exact hR _ _ ⟨Below.refl _ _, rfl⟩
    · -- 39: slot 76
      intro ρ w' hb hf hd
      have h73 : (Kn.val (.bool true)).say (ρ 73) w' := hd 36 (by kernel_rfl)
      have h74 : (Kn.val (opv k t r A7 n0 c7 z)).say (ρ 74) w' := hd 37 (by kernel_rfl)
      have h75 : (Kn.val (opv k t r A0 n0 c0 z)).say (ρ 75) w' := hd 38 (by kernel_rfl)
      change ρ 73 = (.bool true) at h73
      change ρ 74 = (opv k t r A7 n0 c7 z) at h74
      change ρ 75 = (opv k t r A0 n0 c0 z) at h75
      clear hf hd
      refine .inl ⟨ask_of rfl rfl h73, opOK_step fun R hR => ?_⟩
      unfold opOK
      go_simp
      exact (unhide RS w' (RT7.out w' hb) (RA.out w' hb)).mono fun e w3 ⟨he, hb3⟩ => ⟨_, he, hR _ _ ⟨hb3, rfl⟩⟩
    · -- 40: slot 77
      intro ρ w' hb hf hd
      have h73 : (Kn.val (.bool true)).say (ρ 73) w' := hd 36 (by kernel_rfl)
      have h76 : (Kn.val (.bool true)).say (ρ 76) w' := hd 39 (by kernel_rfl)
      change ρ 73 = (.bool true) at h73
      change ρ 76 = (.bool true) at h76
      clear hf hd
      refine .inl ⟨rfl, opOK_step fun R hR => ?_⟩
      unfold opOK
      go_simp
      exact hR _ _ ⟨Below.refl _ _, rfl⟩
    · -- 41: slot 11
      intro ρ w' hb hf hd
      have h77 : (Kn.val (.bool true)).say (ρ 77) w' := hd 40 (by kernel_rfl)
      change ρ 77 = (.bool true) at h77
      clear hf hd
      refine .inl ⟨rfl, opOK_step fun R hR => ?_⟩
      unfold opOK
      go_simp
      exact hR _ _ ⟨Below.refl _ _, rfl⟩
  · intro a' w9 hb9 hdf hsz hf hd
    have h0 : slotsOf a' 11 = .bool true := hd 41 (by decide)
    have h2 : slotsOf a' 2 = .pointer (some ⟨ga, 0, none⟩) := hf 2 (by kernel_rfl)
    have h3 : slotsOf a' 3 = .pointer (some ⟨gb, 0, none⟩) := hf 3 (by kernel_rfl)
    have h5 : slotsOf a' 5 = .pointer (some ⟨go, 0, none⟩) := hf 5 (by kernel_rfl)
    have h10 : slotsOf a' 10 = .pointer (some ⟨gt, 0, none⟩) := hf 10 (by kernel_rfl)
    obtain ⟨T, D⟩ := a'
    have hD : D = [] := hdf
    subst hD
    obtain ⟨f, hT, hff⟩ : ∃ f : Nat → Value, T = ((List.range 96).map f).toArray ∧ slotsOf ⟨T, []⟩ = f := ⟨_, arr_fn T 96 hsz, rfl⟩
    rw [hff] at h0 h2 h3 h5 h10
    clear hff hsz hf hd
    have hT' : T = #[f 0, f 1, f 2, f 3, f 4, f 5, f 6, f 7, f 8, f 9, f 10, f 11, f 12, f 13, f 14, f 15, f 16, f 17, f 18, f 19, f 20, f 21, f 22, f 23, f 24, f 25, f 26, f 27, f 28, f 29, f 30, f 31, f 32, f 33, f 34, f 35, f 36, f 37, f 38, f 39, f 40, f 41, f 42, f 43, f 44, f 45, f 46, f 47, f 48, f 49, f 50, f 51, f 52, f 53, f 54, f 55, f 56, f 57, f 58, f 59, f 60, f 61, f 62, f 63, f 64, f 65, f 66, f 67, f 68, f 69, f 70, f 71, f 72, f 73, f 74, f 75, f 76, f 77, f 78, f 79, f 80, f 81, f 82, f 83, f 84, f 85, f 86, f 87, f 88, f 89, f 90, f 91, f 92, f 93, f 94, f 95] := hT.trans (by kernel_rfl)
    clear hT
    subst hT'
    rw [h0, h2, h3, h5, h10]
    clear h0 h2 h3 h5 h10
    clear SI CK RK CT RT SM RM SA RS RO RA RB RT7 FO FA FBb Ok0 N5 G
    have S9 := S8.below hb9
    have FT9 := FT.out.below hb9
    have hb69 := fresh Hb68.out hb9
    obtain ⟨t0, t1, t2, t3, t4⟩ := FT9.cells
    have HF9 := hide FT9
    clear S8 FT9
    go_wp2_with fail
    clear t0 t1 t2 t3 t4
    go_loopw [12] (fun i wr => ∃ (q : Nat) (L : List Rn), q ≤ n0 ∧ i = .int .i64 (q : Int) ∧ L.length = n0 ∧ SB wr g7 w6.heap.size A7 L c7 ∧ Hid (FB wr gt (.int .u8 k) (.int .u32 t) (.int .u8 r) (.slice A7 n0 c7) (.int .i64 z)) ∧ Below w6.heap.size w6 wr) (fun i _ => n0 - (intOf i).toNat)
    case atStart => exact ⟨0, l0, by omega, rfl, Hn0.out.symm, S9, HF9, hb69⟩
    case round =>
      obtain ⟨q, L, hq, rfl, hL, S, HFw, hb⟩ := hrel
      clear S9 HF9 hb69
      by_cases hlt : q < n0
      · obtain ⟨hbg, off, cur, rfl, hgc, hcc⟩ := S.2 (by intro e; rw [e] at hL; simp at hL; omega)
        have hqL : q < L.length := by omega
        have z0 : (q : Int) < n0 := by omega
        obtain ⟨m, hm⟩ : ∃ m, m = L[q].2.2 := ⟨_, rfl⟩
        have hne : gt ≠ g7 := by
          intro e
          have h1 := HFw.out
          unfold FB at h1
          rw [e, hgc] at h1
          simp at h1
        have hx2 : wr.cell? ⟨g7, off + q * 3 + 2, none⟩ = some (.int .i64 m) := by
          rw [Nat.add_assoc, cell_of_row _ _ _ _ _ _ hgc, hm]
          exact hcc _ _ (rns_get L q hqL).2.2
        have hz := frozen_of_row wr g7 (off + q * 3 + 2) cur _ hgc
        have S' := hide (S.many q hqL (-7))
        have hb' := hb.setCell (p := ⟨g7, off + q * 3 + 2, none⟩) hbg (.int .i64 (-7))
        have hF' := hide (HFw.out.other hne (off + q * 3 + 2) (.int .i64 (-7)))
        have hL' := hide (show (L.set q (L[q].1, L[q].2.1, -7)).length = n0 by simpa using hL)
        obtain ⟨t0, t1, t2, t3, t4⟩ := HFw.out.cells
        clear hcc hgc hm S hL hne
        have hB : (q : Int) < 300 := by have := HL.out; omega
        go_wp2_with fail
        go_roundw
        case rel =>
          exact ⟨q + 1, _, by omega, by go_num, hL'.out, S'.out, hF', hb'⟩
        case measure =>
          simp [intOf]
          omega
      · have hz : ¬ (q : Int) < n0 := by omega
        have hb0 : Below w.heap.size w wr := Hb06.out.trans (hb.mono Hb06.out.size)
        have hrO := hide (show RR wr wr.heap.size A5 l0 from (RD.below hr5'.out hb).more hb.size)
        have hrA := hide (show RR wr wr.heap.size A0 l0 from (RD.below hr0'.out hb).more hb.size)
        have E3 := hide (unhide RE wr hrO.out hrA.out)
        obtain ⟨t0, t1, t2, t3, t4⟩ := HFw.out.cells
        obtain ⟨o0, o1, o2, o3, o4⟩ := (FO6.out.below hb).cells
        obtain ⟨a0, a1, a2, a3, a4⟩ := (FA6.out.below hb).cells
        clear S
        go_wp2_with fail
        refine E3.out.mono ?_
        rintro e w14 ⟨rfl, hb14⟩
        go_wp2_with fail
        go_ret
        exact ⟨rfl, fresh hb0 hb14⟩
end Go.Proofs.Ytbjfmkdjnglgbaa
