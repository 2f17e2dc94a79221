/-
  WeighNames: the limits, and the chapter's examples. No condition.
-/
import Derived.Test.YtbjfmkdjnglgbaaWeighAlive
import Derived.Test.YtbjfmkdjnglgbaaInvList
import Derived.Laws.OwnMore
namespace Go.Proofs.Ytbjfmkdjnglgbaa
open Go.RowKit

theorem wmake_many (w : World) : ∃ w', (Instr.makeSlice 79 (.int .i64 1025) (.int .i64 1025)).run Try.prog w = .ok (.slice (some ⟨w.heap.size, 0, none⟩) 1025 1025) w' ∧ Below w.heap.size w w' := by
  obtain ⟨i0, hi0, hz0, hz1, hz2⟩ := info_parts opinfo
  obtain ⟨w', h1, h2, h3⟩ := run_makeSlice_full (P := Try.prog) w w.heap.size 79 47 i0 (.agg #[.int .u8 0, .int .u32 0, .int .u8 0, .slice none 0 0, .int .i64 0]) 5 Try.underlying79 hi0 hz0 hz1 .i64 .i64 1025 (by omega) (by rw [hz2]; omega) (by unfold maxLen; omega) (Nat.le_refl _)
  exact ⟨w', h1, grown_below (World.ownsRow_nil _ _ _ _ : w.ownsRow w.heap.size 47 5 (.slice none 0 0) 0 []) h3 (Nat.le_refl _)⟩
abbrev markL (a : Addr) : OpL := ⟨2, 3, 0, some a, 1, [(1, 0, 3)], 0⟩
abbrev cutL (a : Addr) : OpL := ⟨3, 9, 1, some a, 1, [(1, 0, 3)], 0⟩
theorem mark_okO (a : Addr) : okO (markL a) := ⟨(by decide : (0 : Int) ≤ 2), ⟨(by decide : (0 : Int) ≤ 3), (by decide : (3 : Int) < 4294967296), (by decide : (0 : Int) ≤ 0), (by decide : (0 : Int) < 256)⟩, wone_okR, (by decide : 1 < 1073741824)⟩
theorem cut_okO (a : Addr) : okO (cutL a) := ⟨(by decide : (0 : Int) ≤ 3), ⟨(by decide : (0 : Int) ≤ 9), (by decide : (9 : Int) < 4294967296), (by decide : (0 : Int) ≤ 1), (by decide : (1 : Int) < 256)⟩, wone_okR, (by decide : 1 < 1073741824)⟩
theorem mark_may (a : Addr) : mayL (markL a) := by show mayO 2 3 0 [(1, 0, 3)] 0; decide
theorem cut_may (a : Addr) : mayL (cutL a) := by show mayO 3 9 1 [(1, 0, 3)] 0; decide
theorem cut_sz (a : Addr) : szO (cutL a) = 7 := by
  rw [szO_may (cut_may a)]
  simp [opBL, opB, opNums, runNums, tailNums, wasR, nbs, nb_small]
theorem three_all {P : OpL → Prop} {a b c : Addr} (h1 : P (oneL (some a) 1)) (h2 : P (markL b)) (h3 : P (cutL c)) : ∀ x ∈ [oneL (some a) 1, markL b, cutL c], P x := fun x hx => by
  simp only [List.mem_cons, List.not_mem_nil, or_false] at hx
  rcases hx with rfl | rfl | rfl
  · exact h1
  · exact h2
  · exact h3
theorem three_tot (a b c : Addr) : totL [oneL (some a) 1, markL b, cutL c] = 13 := by simp [totL, conO, wone_sz, cut_sz]
theorem total_three (a b c : Addr) (A : Option Addr) (w : World) (hr : RO w w.heap.size A [oneL (some a) 1, markL b, cutL c]) :
    Calls Try.prog 66 #[.slice A 3 3] w fun e w' => e = .returned (.tuple #[.int .i64 13, .int .i64 0]) ∧ Below w.heap.size w w' := by
  have hm := three_all (P := mayL) (wone_may (some a) 1) (mark_may b) (cut_may c)
  have h := wtotal_any A 3 3 _ w hr rfl (by decide) (three_all (P := okO) (wone_okO (some a) 1) (mark_okO b) (cut_okO c))
  rw [if_pos hm, three_tot, show allE [oneL (some a) 1, markL b, cutL c] = 0 from if_pos hm] at h
  exact h
theorem cntP_six : ∀ (L : List OpL) (j s : Nat), (∀ x ∈ L, szO x = 6) → s = 6 * j → j ≤ 64 → 64 ≤ j + L.length → cntP j s L = 64 - j
  | [], j, s, _, _, h1, h2 => by simp at h2; simp [cntP]; omega
  | x :: L, j, s, h, hs, h1, h2 => by
    have hx := h x List.mem_cons_self
    rw [List.length_cons] at h2
    unfold cntP
    by_cases hj : j < 64
    · rw [if_pos ⟨hj, .inr (by omega)⟩, cntP_six L (j + 1) (s + szO x) (fun y hy => h y (List.mem_cons_of_mem _ hy)) (by omega) (by omega) (by omega)]
      omega
    · rw [if_neg (fun k => hj k.1)]
      omega

theorem field_at (k t r z : Int) (A : Option Addr) (n c : Nat) (W : World) : Sem.run Try.prog (Instr.field 47 (opv k t r A n c z) 2) W = Result.ok (.slice A n c) W := by
  simp [Instr.field, asAgg, go_sem]
/-- Kinds of claims: a value; an operation that one made; the row of three. -/
inductive Kw where
  | val (v : Value)
  | one
  | three (b c : Addr)
def Kw.say : Kw → Clm
  | .val v => fun u _ => u = v
  | .one => fun u w => ∃ a, u = opv 1 3 0 (some a) 1 1 97 ∧ RR w w.heap.size (some a) [(1, 0, 3)]
  | .three b c => fun u w => ∃ g a, u = .slice (some ⟨g, 0, none⟩) 3 3 ∧ RO w w.heap.size (some ⟨g, 0, none⟩) [oneL (some a) 1, markL b, cutL c]
theorem kws_mono (ks : List Kw) : ∀ V ∈ ks.map Kw.say, ∀ v w w', V v w → Below w.heap.size w w' → V v w' := by
  intro V hV v w w' h hb
  obtain ⟨k, -, rfl⟩ := List.mem_map.1 hV
  cases k with
  | val u => exact h
  | one =>
    obtain ⟨a, e, hr⟩ := h
    exact ⟨a, e, RR.below' hr hb⟩
  | three b c =>
    obtain ⟨g, a, e, hr⟩ := h
    exact ⟨g, a, e, (hr.below hb).more hb.size⟩

set_option maxHeartbeats 6400000 in
set_option maxRecDepth 100000 in
theorem weighNames_walk (w : World) : Calls Try.prog 15 #[] w fun e w' => e = .returned (.bool true) ∧ Below w.heap.size w w' := by
  have PZ := hide (fun (W : World) => wbytes_any ⟨0, 0, 0, none, 0, [], 0⟩ 0 W RD.nil_ rfl ⟨(by decide : (0 : Int) ≤ 0), ⟨(by decide : (0 : Int) ≤ 0), (by decide : (0 : Int) < 4294967296), (by decide : (0 : Int) ≤ 0), (by decide : (0 : Int) < 256)⟩, (fun x hx => by cases hx), (by decide : 0 < 1073741824)⟩)
  rw [show chkO (OpL.mk 0 0 0 none 0 [] 0).k (OpL.mk 0 0 0 none 0 [] 0).t (OpL.mk 0 0 0 none 0 [] 0).r (OpL.mk 0 0 0 none 0 [] 0).p (OpL.mk 0 0 0 none 0 [] 0).z = 8 from if_neg (by decide)] at PZ
  simp only at PZ
  obtain ⟨SZ, hSZ⟩ : ∃ s, s = szO ⟨0, 0, 0, none, 0, [], 0⟩ := ⟨_, rfl⟩
  rw [← hSZ] at PZ
  have PN := hide (fun (W : World) => wpiece_any none 0 0 [] W ⟨RD.nil_, fun x hx => by cases hx⟩ rfl (by decide) (Nat.le_refl _) (fun x hx => by cases hx) (fun x hx => by cases hx))
  rw [show allE [] = 0 from if_pos (fun x hx => by cases hx)] at PN
  have hfi := field_at 1 3 0 97
  go_enter Try.func15, Try.ntmps15
  go_wp2_with fail
  refine (wone_ok w).mono ?_
  rintro e w1 ⟨a1, rfl, ho1, hb1⟩
  have hr1 := RR.of_own ho1 rfl
  obtain ⟨w2, hw2, F2, hs2, hb2⟩ := five_fb w1 (.int .u8 2) (.int .u32 3) (.int .u8 0) (.slice (some a1) 1 1) (.int .i64 0)
  have hb02 := fresh hb1 hb2
  have Hr1 := hide (RR.below' hr1 hb2)
  have HF2 := hide F2
  obtain ⟨g2, hg2⟩ : ∃ g, g = w1.heap.size := ⟨_, rfl⟩
  rw [← hg2] at HF2
  have Hw2 := hide hw2
  clear ho1 hr1 F2 hw2
  go_wp2_with fail
  rw [Hw2.out, ← hg2]
  clear hg2 hs2
  refine (wone_ok w2).mono ?_
  rintro e w3 ⟨a3, rfl, ho3, hb3⟩
  have hr3 := RR.of_own ho3 rfl
  have hb03 := fresh hb02 hb3
  obtain ⟨w4, hw4, F4, hs4, hb4⟩ := five_fb w3 (.int .u8 3) (.int .u32 9) (.int .u8 1) (.slice (some a3) 1 1) (.int .i64 0)
  have hb04 := fresh hb03 hb4
  have Hr3 := hide (RR.below' hr3 hb4)
  have Hr14 := hide (RR.below' Hr1.out (fresh hb3 hb4))
  have HF24 := hide (HF2.out.below (fresh hb3 hb4))
  have HF4 := hide F4
  obtain ⟨g4, hg4⟩ : ∃ g, g = w3.heap.size := ⟨_, rfl⟩
  rw [← hg4] at HF4
  have Hw4 := hide hw4
  clear ho3 hr3 F4 HF2 Hr1 Hw2 hw4
  go_wp2_with fail
  rw [Hw4.out, ← hg4]
  clear Hw4 hg4 hs4
  refine wp_region_claims ([.one, .val (opv 2 3 0 (some a1) 1 1 0), .val (opv 3 9 1 (some a3) 1 1 0), .three a1 a3, .val (.tuple #[.int .i64 13, .int .i64 0]), .val (.tuple #[.int .i64 13, .int .i64 0]), .val (.int .i64 13), .val (.int .i64 0), .val (.int .i64 13), .val (.int .i64 0)].map Kw.say) (by kernel_rfl) 95 (by rfl) (by kernel_rfl) (kws_mono _) ?_ ?_
  · refine ⟨?_, ?_, ?_, ?_, ?_, ?_, ?_, ?_, ?_, ?_, trivial⟩
    · intro ρ w' hb hf hd
      clear hf hd
      refine .inl ⟨rfl, opOK_step fun R hR => ?_⟩
      unfold opOK
      go_simp
      exact (wone_ok w').mono fun e w3 ⟨a, he, ho, hb3⟩ => ⟨_, he, hR _ _ ⟨hb3, a, rfl, RR.of_own ho rfl⟩⟩
    · intro ρ w' hb hf hd
      have h1 := hf 1 (by kernel_rfl)
      change ρ 1 = .pointer (some ⟨g2, 0, none⟩) at h1
      obtain ⟨y0, y1, y2, y3, y4⟩ := (HF24.out.below hb).cells
      clear hf hd
      refine .inl ⟨rfl, opOK_step fun R hR => ?_⟩
      unfold opOK
      go_simp
      exact hR _ _ ⟨Below.refl _ _, rfl⟩
    · intro ρ w' hb hf hd
      have h1 := hf 2 (by kernel_rfl)
      change ρ 2 = .pointer (some ⟨g4, 0, none⟩) at h1
      obtain ⟨y0, y1, y2, y3, y4⟩ := (HF4.out.below hb).cells
      clear hf hd
      refine .inl ⟨rfl, opOK_step fun R hR => ?_⟩
      unfold opOK
      go_simp
      exact hR _ _ ⟨Below.refl _ _, rfl⟩
    · intro ρ w' hb hf hd
      have h24 : Kw.one.say (ρ 24) w' := hd 0 (by kernel_rfl)
      have h25 : (Kw.val (opv 2 3 0 (some a1) 1 1 0)).say (ρ 25) w' := hd 1 (by kernel_rfl)
      have h26 : (Kw.val (opv 3 9 1 (some a3) 1 1 0)).say (ρ 26) w' := hd 2 (by kernel_rfl)
      obtain ⟨a, h24', hra⟩ := h24
      change ρ 25 = opv 2 3 0 (some a1) 1 1 0 at h25
      change ρ 26 = opv 3 9 1 (some a3) 1 1 0 at h26
      clear hf hd
      refine .inl ⟨rfl, opOK_step fun R hR => ?_⟩
      unfold opOK
      go_simp
      exact hR _ _ ⟨boxed w' _, w'.heap.size, a, rfl, RO.row w' [oneL (some a) 1, markL a1, cutL a3] _ rfl (three_all (P := fun x => RR w' w'.heap.size x.A x.p) hra (RR.below' Hr14.out hb) (RR.below' Hr3.out hb))⟩
    · intro ρ w' hb hf hd
      have h27 : (Kw.three a1 a3).say (ρ 27) w' := hd 3 (by kernel_rfl)
      obtain ⟨g, a, h27', hro⟩ := h27
      clear hf hd
      refine .inl ⟨rfl, opOK_step fun R hR => ?_⟩
      unfold opOK
      go_simp
      exact (total_three a a1 a3 (some ⟨g, 0, none⟩) w' hro).mono fun e w3 ⟨he, hb3⟩ => ⟨_, he, hR _ _ ⟨hb3, rfl⟩⟩
    · intro ρ w' hb hf hd
      have h28 : (Kw.val (.tuple #[.int .i64 13, .int .i64 0])).say (ρ 28) w' := hd 4 (by kernel_rfl)
      change ρ 28 = .tuple #[.int .i64 13, .int .i64 0] at h28
      clear hf hd
      refine .inl ⟨rfl, opOK_step fun R hR => ?_⟩
      unfold opOK
      go_simp
      exact hR _ _ ⟨Below.refl _ _, rfl⟩
    · intro ρ w' hb hf hd
      have h28 : (Kw.val (.tuple #[.int .i64 13, .int .i64 0])).say (ρ 23) w' := hd 5 (by kernel_rfl)
      change ρ 23 = .tuple #[.int .i64 13, .int .i64 0] at h28
      clear hf hd
      refine .inl ⟨rfl, opOK_step fun R hR => ?_⟩
      unfold opOK
      go_simp
      exact hR _ _ ⟨Below.refl _ _, rfl⟩
    · intro ρ w' hb hf hd
      have h28 : (Kw.val (.tuple #[.int .i64 13, .int .i64 0])).say (ρ 23) w' := hd 5 (by kernel_rfl)
      change ρ 23 = .tuple #[.int .i64 13, .int .i64 0] at h28
      clear hf hd
      refine .inl ⟨rfl, opOK_step fun R hR => ?_⟩
      unfold opOK
      go_simp
      exact hR _ _ ⟨Below.refl _ _, rfl⟩
    · intro ρ w' hb hf hd
      have h28 : (Kw.val (.int .i64 13)).say (ρ 29) w' := hd 6 (by kernel_rfl)
      change ρ 29 = .int .i64 13 at h28
      clear hf hd
      refine .inl ⟨rfl, opOK_step fun R hR => ?_⟩
      unfold opOK
      go_simp
      exact hR _ _ ⟨Below.refl _ _, rfl⟩
    · intro ρ w' hb hf hd
      have h28 : (Kw.val (.int .i64 0)).say (ρ 30) w' := hd 7 (by kernel_rfl)
      change ρ 30 = .int .i64 0 at h28
      clear hf hd
      refine .inl ⟨rfl, opOK_step fun R hR => ?_⟩
      unfold opOK
      go_simp
      exact hR _ _ ⟨Below.refl _ _, rfl⟩
  · intro a' w5 hb5 hdf hsz hf hd
    have h3 : slotsOf a' 3 = .int .i64 13 := hd 8 (by decide)
    have h4 : slotsOf a' 4 = .int .i64 0 := hd 9 (by decide)
    have hb05 := fresh hb04 hb5
    clear Hr14 Hr3 HF24 HF4 hb1 hb2 hb02 hb3 hb03 hb4 hb04 hb5
    obtain ⟨T, D⟩ := a'
    have hD : D = [] := hdf
    subst hD
    obtain ⟨f, hT, hff⟩ : ∃ f : Nat → Value, T = ((List.range 95).map f).toArray ∧ slotsOf ⟨T, []⟩ = f := ⟨_, arr_list T 95 hsz, rfl⟩
    rw [hff] at h3 h4
    clear hff hsz hf hd hdf
    have hT' : T = #[f 0, f 1, f 2, f 3, f 4, f 5, f 6, f 7, f 8, f 9, f 10, f 11, f 12, f 13, f 14, f 15, f 16, f 17, f 18, f 19, f 20, f 21, f 22, f 23, f 24, f 25, f 26, f 27, f 28, f 29, f 30, f 31, f 32, f 33, f 34, f 35, f 36, f 37, f 38, f 39, f 40, f 41, f 42, f 43, f 44, f 45, f 46, f 47, f 48, f 49, f 50, f 51, f 52, f 53, f 54, f 55, f 56, f 57, f 58, f 59, f 60, f 61, f 62, f 63, f 64, f 65, f 66, f 67, f 68, f 69, f 70, f 71, f 72, f 73, f 74, f 75, f 76, f 77, f 78, f 79, f 80, f 81, f 82, f 83, f 84, f 85, f 86, f 87, f 88, f 89, f 90, f 91, f 92, f 93, f 94] := hT.trans (by kernel_rfl)
    clear hT
    subst hT'
    rw [h3, h4]
    clear h3 h4
    go_wp2_with fail
    go_loopw [5, 6] (fun v i wr => ∃ (j : Nat) (A' : Option Addr) (c' : Nat) (L' : List OpL), j ≤ 70 ∧ i = .int .i64 (j : Int) ∧ v = .slice A' j c' ∧ Hid (L'.length = j) ∧ Hid (∀ x ∈ L', ∃ a, x = oneL (some a) 1) ∧ Hid (OO wr w.heap.size A' c' L') ∧ Below w.heap.size w wr) (fun _ i _ => 70 - (intOf i).toNat)
    case atStart => exact ⟨0, none, 0, [], by omega, rfl, rfl, hide rfl, hide (fun x hx => by cases hx), hide (OO.nil _ _), hb05⟩
    case round =>
      obtain ⟨j, A', c', L', hj, rfl, rfl, hLl, hLo, hOO, hb⟩ := hrel
      by_cases hlt : j < 70
      · have z0 : (j : Int) < 70 := by omega
        go_wp2_with fail
        refine (wone_ok wr).mono ?_
        rintro e w6 ⟨a6, rfl, ho6, hb6⟩
        have hb06 := fresh hb hb6
        have HOO2 := hide (hOO.out.below hb6)
        have Hown2 := hide ho6
        clear ho6
        go_wp2_with (at_builtin; refine wpList_append_op _ rfl (.tmp 35) (.tmp 37) rfl w.heap.size A' c' j L' hLl.out rfl (HOO2.out.below (boxed _ _)) (oneL (some a6) 1) (own_less (own_below Hown2.out (boxed _ _) (Nat.le_refl _)) hb.size) (some ⟨w6.heap.size, 0, none⟩) rfl (op_row w6 (oneL (some a6) 1)) (by omega) (Nat.le_trans hb06.size (boxed w6 _).size) ?_; intro A3 c3 w7 hOO3 hb7 hk7)
        go_roundw
        case rel =>
          refine ⟨j + 1, A3, c3, L' ++ [oneL (some a6) 1], by omega, by go_num, rfl, hide ?_, hide fun x hx => ?_, hide hOO3, (fresh hb06 (boxed w6 _)).trans hb7⟩
          · rw [List.length_append, hLl.out]; rfl
          · rcases List.mem_append.1 hx with h | h
            · exact hLo.out x h
            · exact ⟨a6, by simpa using h⟩
        case measure => simp [intOf]; omega
      · have z0 : ¬ (j : Int) < 70 := by omega
        obtain rfl : j = 70 := by omega
        have hm : ∀ x ∈ L', mayL x := fun x hx => by obtain ⟨a, rfl⟩ := hLo.out x hx; exact wone_may _ _
        have hok : ∀ x ∈ L', okO x := fun x hx => by obtain ⟨a, rfl⟩ := hLo.out x hx; exact wone_okO _ _
        have hcc : 70 ≤ c' := by
          obtain ⟨A9, c9, e9, h9, -, -⟩ := own_slice hOO.out.1
          simp only [Value.slice.injEq] at e9
          have := hLl.out
          omega
        have P := hide (wpiece_any A' 70 c' L' wr hOO.out.ro hLl.out (by decide) hcc hok (fun x hx h => by obtain ⟨a, rfl⟩ := hLo.out x hx; cases h))
        rw [show allE L' = 0 from if_pos hm] at P
        have hpc : pcs L' = 64 := cntP_six L' 0 0 (fun x hx => by obtain ⟨a, rfl⟩ := hLo.out x hx; exact wone_sz _ _) rfl (by decide) (by rw [hLl.out]; decide)
        have Hm := hide (And.intro hm hpc)
        clear hm hok hpc hcc hOO hLo
        go_wp2_with fail
        refine P.out.mono ?_
        rintro e w6 ⟨A6, c6, L6, rfl, hL6, -, hb6⟩
        have hb06 := fresh hb hb6
        have h6 := two_piece hL6 Hm.out.1 Hm.out.2 (by rw [hLl.out]; decide)
        rw [h6]
        clear hL6 h6 P Hm hLl
        go_wp2_with fail
        refine (unhide PZ w6).mono ?_
        rintro e w7 ⟨rfl, hb7⟩
        have hb07 := fresh hb06 hb7
        go_wp2_with fail
        obtain ⟨w8, hmk, hb8⟩ := wmake_many w7
        rw [hmk]
        have hb08 := fresh hb07 hb8
        clear hmk
        generalize w7.heap.size = g7
        go_wp2_with fail
        refine (wtotal_many (some ⟨g7, 0, none⟩) 1025 1025 w8 (by decide)).mono ?_
        rintro e w9 ⟨rfl, hb9⟩
        have hb09 := fresh hb08 hb9
        go_wp2_with fail
        refine (unhide PN w9).mono ?_
        rintro e wa ⟨Aa, ca, La, rfl, hLa, -, hba⟩
        have hb0a := fresh hb09 hba
        have hla : La = [] := by simpa using hLa
        subst hla
        clear hLa
        go_wp2_with fail
        refine (walive_ok wa).mono ?_
        rintro e wb ⟨rfl, hbb⟩
        have hb0b := fresh hb0a hbb
        go_wp2_with fail
        go_ret
        exact ⟨rfl, hb0b⟩
end Go.Proofs.Ytbjfmkdjnglgbaa
