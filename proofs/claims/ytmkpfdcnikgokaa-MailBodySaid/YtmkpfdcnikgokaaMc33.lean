/-
  Texts of this claim, put together: ListRead. What each theorem asks stands in its statement.
-/
import Derived.Test.YtmkpfdcnikgokaaMc18
import Derived.Test.YtmkpfdcnikgokaaMc32
set_option linter.unusedVariables false
set_option linter.unusedSimpArgs false
namespace Go.Proofs.Ytmkpfdcnikgokaa
open Go.RowKit
theorem RB.rest0 {w : World} {B : Nat} {A SA : Option Addr} {b : List UInt8} {n c a SC : Nat} (hr : RB w B A b) (hn : b.length = n) (ha : a ≤ n) (hc : n ≤ c) (h : c = a ∧ SA = A ∧ SC = 0 ∨ ¬ c = a ∧ SA = Option.map (fun x => x.add a) A ∧ SC = c - a) : RB w B SA (b.drop a) := by
  rcases Nat.lt_or_ge a n with hlt | hge
  · obtain ⟨b0, o0, rfl, -⟩ := RB.cell hr (by omega)
    rcases h with ⟨h1, -, -⟩ | ⟨-, rfl, -⟩
    · omega
    · have := hr.sub a b.length (Nat.le_refl _)
      rw [List.take_length] at this
      have e : Option.map (fun x : Addr => x.add a) (some ⟨b0, o0, none⟩) = some ⟨b0, o0 + a, none⟩ := by simp [add_none]
      rw [e]
      exact this
  · rw [List.drop_eq_nil_of_le (by omega)]
    exact RD.nil_
set_option maxHeartbeats 25600000 in
set_option maxRecDepth 100000 in
theorem cread_any (A : Option Addr) (b : List UInt8) (n c : Nat) (w : World) (hr : RB w w.heap.size A b) (hn : b.length = n) (hl : n < 1073741824) (hc : n ≤ c) (hA : A = none → c = 0) :
    Calls Try.prog 61 #[.slice A n c] w fun e w' => ∃ A' c' L', e = .returned (.tuple #[.slice A' (List.length (α := OpP) (outL (readL b)).1) c', .int .i64 ((outL (readL b)).2.1 : Int), .int .i64 (outL (readL b)).2.2]) ∧ L'.map OpL.op = (outL (readL b)).1 ∧ OO w' w.heap.size A' c' L' ∧ Below w.heap.size w w' := by
  obtain ⟨w2, hw2⟩ : ∃ w2, w.alloc (.cells #[.slice A n c, .int .i64 0, .bool false] 133) = w2 := ⟨_, rfl⟩
  have hR2 : RDR w2 w.heap.size A n c 0 false := by rw [← hw2]; exact heap_alloc_new _ _
  have hb2 : Below w.heap.size w w2 := by rw [← hw2]; exact boxed _ _
  have hN := hide (next_ok A b n c w.heap.size 0 0 1024 w2 hR2 ((RD.below hr hb2).more hb2.size) hn hl (Nat.zero_le _) hc hA)
  have HRB := hide hr
  have HA := hide hA
  have Hn := hide hn
  clear hR2 hr hn hA
  cases hx : nxt b 0 0 1024 with
  | none =>
    have Hx := hide hx
    have Hno := hide (show readL b = none by unfold readL; rw [hx]; rfl)
    clear hx
    go_enter Try.func61, Try.ntmps61
    go_wp2_with fail
    refine hN.out.mono ?_
    rintro e w3 ⟨x, a', bd, rfl, hR3, ho3, -, -, hq⟩
    obtain ⟨rfl, rfl⟩ := hq Hx.out
    have hb3 : Below w.heap.size w w3 := hb2.trans ho3.1
    obtain ⟨r0, r1, r2⟩ := hR3.cells
    clear hR3 ho3 hw2
    go_wp2_with fail
    go_loopw [2, 14] (fun u i wr => u = .slice none 0 0 ∧ i = .int .i64 0 ∧ wr = w3) (fun _ _ _ => 0)
    case atStart => exact ⟨rfl, rfl, rfl⟩
    obtain ⟨rfl, rfl, rfl⟩ := hrel
    go_wp2_with fail
    refine bodyPost_ret (v := .tuple #[.slice none 0 0, .int .i64 0, .int .i64 8]) (by simp [results, Try.results61, go_sem]) rfl ?_
    exact ⟨none, 0, [], by rw [Hno.out]; rfl, by rw [Hno.out]; rfl, OO.nil _ _, hb3⟩
  | some y =>
    obtain ⟨x0, q⟩ := y
    obtain ⟨x1, x2, -, -, -, x3, -⟩ := nxt_inv hx
    obtain ⟨M, rfl⟩ : ∃ M : Nat, x0 = M := ⟨x0.toNat, by omega⟩
    have Hx := hide hx
    have Hrd := hide (show readL b = goL b M q [] by unfold readL; rw [hx]; rfl)
    have Hq := hide (show q ≤ n by rw [← Hn.out]; exact x3 (Nat.zero_le _))
    clear hx x3
    go_enter Try.func61, Try.ntmps61
    go_wp2_with fail
    refine hN.out.mono ?_
    rintro e w3 ⟨x, a0, bd, rfl, hR3, ho3, -, hq, -⟩
    obtain ⟨rfl, rfl, rfl⟩ := hq _ _ Hx.out
    have hb3 : Below w.heap.size w w3 := hb2.trans ho3.1
    have HR3 := hide hR3
    clear hR3 ho3 hw2 hN hb2 hq
    go_wp2_with fail
    go_loopw [2, 14] (fun v i wr => ∃ (j a : Nat) (A' : Option Addr) (c' : Nat) (L' : List OpL), j ≤ M ∧ a ≤ n ∧ i = .int .i64 (j : Int) ∧ v = .slice A' j c' ∧ Hid (L'.length = j) ∧ Hid (RDR wr w.heap.size A n c a false) ∧ Hid (OO wr w.heap.size A' c' L') ∧ Hid (readL b = goL b (M - j) a (L'.map OpL.op)) ∧ Below w.heap.size w wr) (fun _ i _ => M - (intOf i).toNat)
    case atStart => exact ⟨0, a0, none, 0, [], by omega, Hq.out, rfl, rfl, hide rfl, HR3, hide (OO.nil _ _), Hrd, hb3⟩
    case round =>
      obtain ⟨j, a, A', c', L', hj, ha, rfl, rfl, HLl, HR, HOO, HG, hb⟩ := hrel
      clear HR3 hb3 Hrd Hq
      by_cases hlt : j < M
      · have z0 : (j : Int) < M := by omega
        have z1 : (0 : Int) ≤ a := by omega
        have z2 : (a : Int) ≤ n := by omega
        have z3 : (n : Int) ≤ c := by omega
        have z4 : (a : Int) ≤ c := by omega
        have hlt9 := HR.out.lt
        obtain ⟨SA, SC, hSA⟩ : ∃ SA SC, (c = a ∧ SA = A ∧ SC = 0 ∨ ¬ c = a ∧ SA = Option.map (fun x => x.add a) A ∧ SC = c - a) := by
          by_cases h : c = a
          · exact ⟨_, _, .inl ⟨h, rfl, rfl⟩⟩
          · exact ⟨_, _, .inr ⟨h, rfl, rfl⟩⟩
        have G := hide (cget_any SA (b.drop a) (n - a) SC wr (RB.rest0 ((RD.below HRB.out hb).more hb.size) Hn.out ha hc hSA) (by rw [List.length_drop, Hn.out]) (by omega) (by rcases hSA with ⟨h1, -, h2⟩ | ⟨h1, -, h2⟩ <;> omega) (by
          intro e
          rcases hSA with ⟨-, -, h2⟩ | ⟨-, h1, h2⟩
          · exact h2
          · rw [h1, Option.map_eq_none_iff] at e
            have := HA.out e
            omega))
        have HG1 := hide (show readL b = match getP (b.drop a) with
          | none => none
          | some (k, t, r, p, z, n) => goL b (M - (j + 1)) (a + n) (L'.map OpL.op ++ [(k, t, r, p, z)]) by
            rw [HG.out, show M - j = (M - (j + 1)) + 1 by omega]
            rfl)
        obtain ⟨r0, r1, r2⟩ := HR.out.cells
        clear HG
        rcases hSA with ⟨hca, hA', hC'⟩ | ⟨hca, hA', hC'⟩
        all_goals
         replace hA' := hA'.symm
         replace hC' := hC'.symm
         subst hA' hC'
         go_wp2_with fail
         refine G.out.mono ?_
         rintro e w4 ⟨A4, c4, rfl, hown4, hb4⟩
         have hb04 := fresh hb hb4
         have HR4 := hide (HR.out.below hb4)
         have HOO4 := hide (HOO.out.below hb4)
         have Hown4 := hide (own_less hown4 hb.size)
         clear hown4 HR HOO r0 r1 r2 G
         cases hg : getP (b.drop a) with
         | none =>
          have Hno := hide (show readL b = none by rw [HG1.out, hg])
          simp only [outP]
          clear hg HG1 Hown4
          go_wp2_with fail
          refine bodyPost_ret (v := .tuple #[.slice none 0 0, .int .i64 0, .int .i64 8]) (by simp [results, Try.results61, go_sem]) rfl ?_
          exact ⟨none, 0, [], by rw [Hno.out]; rfl, by rw [Hno.out]; rfl, OO.nil _ _, fresh hb04 (boxed _ _)⟩
         | some o =>
          obtain ⟨k, t, r, p, z, s⟩ := o
          obtain ⟨-, -, hs9, -, -, -⟩ := getP_inv hg
          rw [List.length_drop, Hn.out] at hs9
          have HG2 := hide (show readL b = goL b (M - (j + 1)) (a + s) (L'.map OpL.op ++ [(k, t, r, p, z)]) by rw [HG1.out, hg])
          rw [hg] at Hown4
          simp only [outP] at Hown4 ⊢
          clear hg HG1
          obtain ⟨w5, hw5, F5, hs5, hb5⟩ := five_fb w4 (.int .u8 k) (.int .u32 t) (.int .u8 r) (.slice A4 p.length c4) (.int .i64 z)
          have hb05 := fresh hb04 hb5
          have HR5 := hide (HR4.out.below hb5)
          have HOO5 := hide (HOO4.out.below hb5)
          have Hown5 := hide (own_below Hown4.out hb5 (Nat.le_refl _))
          obtain ⟨gb, hgb⟩ : ∃ g, g = w4.heap.size := ⟨_, rfl⟩
          rw [← hgb] at F5
          have HF5 := hide F5
          have Hne := hide (show gb ≠ w.heap.size by rw [hgb]; have := hb4.size; omega)
          have z5 : IntKind.i64.wrap ((a : Int) + (s : Int)) = (a : Int) + (s : Int) := IntWalk.i64_in _ (by omega)
          clear F5 HR4 HOO4 Hown4
          go_wp2_with fail
          rw [← hgb]
          clear hw5 hgb hs5 hlt9
          refine wp_region_inv (fun done ρ W => LI (stepV w.heap.size a s (.slice A' j c') ⟨k, t, r, A4, c4, p, z⟩) (fun _ => True) done ρ W ∧ RJ w gb w.heap.size A n c a s A' j c' L' ⟨k, t, r, A4, c4, p, z⟩ done ρ W) (by kernel_rfl) 53 (by rfl) (by kernel_rfl) ?_ ?_ ?_
          · exact ⟨LI.start _ trivial, ⟨hb05.drew, fun _ => rfl, fun _ => HF5.out, fun e => (by cases e), fun _ => ⟨HOO5.out, Hown5.out⟩, fun e => (by cases e), fun _ => HR5.out, fun e => (by cases e), fun e => (by cases e), fun e => (by cases e), fun e => (by cases e), fun e => (by cases e), fun e => (by cases e), fun e => (by cases e)⟩⟩
          · refine ⟨?_, ?_, ?_, ?_, ?_, ?_, ?_, ?_, ?_, ?_, ?_, ?_, ?_, ?_, ?_, trivial⟩
            · -- 0: slot 30
              intro done ρ W hn hf hd h
              have q5 := hf 5 (by kernel_rfl)
              change ρ 5 = .pointer (some ⟨w.heap.size, 0, none⟩) at q5
              clear hf
              refine .inl ⟨rfl, opOK_step fun R hR => ?_⟩
              unfold opOK
              go_simp
              exact hR _ _ ⟨h.1.put stepS rfl (by decide) 0 30 _ rfl trivial, h.2.plain 0 30 _ (by decide) (by decide) (by decide) (by decide) (by decide) (by decide) (by decide) (fun e => by cases e)⟩
            · -- 1: slot 31
              intro done ρ W hn hf hd h
              have q2 := h.2.e2 (by
                cases hx : done 11 with
                | false => rfl
                | true => rw [h.2.z41 (h.2.z11 hx)] at hn; cases hn)
              clear hf
              refine .inl ⟨rfl, opOK_step fun R hR => ?_⟩
              unfold opOK
              go_simp
              exact hR _ _ ⟨h.1.put stepS rfl (by decide) 1 31 _ rfl trivial, h.2.plain 1 31 _ (by decide) (by decide) (by decide) (by decide) (by decide) (by decide) (by decide) (fun e => by cases e)⟩
            · -- 2: slot 32
              intro done ρ W hn hf hd h
              have q6 := hf 6 (by kernel_rfl)
              change ρ 6 = .pointer (some ⟨gb, 0, none⟩) at q6
              obtain ⟨y0, y1, y2, y3, y4⟩ := (h.2.f2 hn).cells
              clear hf
              refine .inl ⟨rfl, opOK_step fun R hR => ?_⟩
              unfold opOK
              go_simp
              exact hR _ _ ⟨h.1.put stepS rfl (by decide) 2 32 _ rfl trivial, h.2.plain 2 32 _ (by decide) (by decide) (by decide) (by decide) (by decide) (by decide) (by decide) (fun e => by cases e)⟩
            · -- 3: slot 33
              intro done ρ W hn hf hd h
              have q32 := h.1.get 2 32 _ rfl (hd 2 (by kernel_rfl))
              clear hf
              refine .inl ⟨rfl, opOK_step fun R hR => ?_⟩
              unfold opOK
              go_simp
              exact hR _ _ ⟨h.1.skip stepS rfl 3 33 _ rfl rfl trivial, h.2.row hn (hd 2 (by kernel_rfl))⟩
            · -- 4: slot 34
              intro done ρ W hn hf hd h
              have q31 := h.1.get 1 31 _ rfl (hd 1 (by kernel_rfl))
              obtain ⟨g, k1, k2⟩ := h.2.m3 (hd 3 (by kernel_rfl)) hn
              obtain ⟨k3, k4⟩ := h.2.m4 hn
              clear hf
              refine .inl ⟨rfl, opOK_step fun R hR => ?_⟩
              refine step_append (.tmp 31) (.tmp 33) rfl q31 k1 HLl.out k3 k4 k2 (by omega) h.2.b.size fun A2 c2 W' j1 j2 j3 => hR _ _ ⟨h.1.skip stepS rfl 4 34 _ rfl rfl trivial, h.2.app hn (hd 3 (by kernel_rfl)) (hd 1 (by kernel_rfl)) j1 j2 j3⟩
            · -- 5: slot 35
              intro done ρ W hn hf hd h
              have q5 := hf 5 (by kernel_rfl)
              change ρ 5 = .pointer (some ⟨w.heap.size, 0, none⟩) at q5
              clear hf
              refine .inl ⟨rfl, opOK_step fun R hR => ?_⟩
              unfold opOK
              go_simp
              exact hR _ _ ⟨h.1.put stepS rfl (by decide) 5 35 _ rfl trivial, h.2.plain 5 35 _ (by decide) (by decide) (by decide) (by decide) (by decide) (by decide) (by decide) (fun e => by cases e)⟩
            · -- 6: slot 36
              intro done ρ W hn hf hd h
              have q35 := h.1.get 5 35 _ rfl (hd 5 (by kernel_rfl))
              clear hf
              refine .inl ⟨rfl, opOK_step fun R hR => ?_⟩
              unfold opOK
              go_simp
              exact hR _ _ ⟨h.1.put stepS rfl (by decide) 6 36 _ rfl trivial, h.2.plain 6 36 _ (by decide) (by decide) (by decide) (by decide) (by decide) (by decide) (by decide) (fun e => by cases e)⟩
            · -- 7: slot 37
              intro done ρ W hn hf hd h
              have q36 := h.1.get 6 36 _ rfl (hd 6 (by kernel_rfl))
              clear hf
              refine .inl ⟨rfl, opOK_step fun R hR => ?_⟩
              unfold opOK
              go_simp
              exact hR _ _ ⟨h.1.put stepS rfl (by decide) 7 37 _ rfl trivial, h.2.plain 7 37 _ (by decide) (by decide) (by decide) (by decide) (by decide) (by decide) (by decide) (fun e => by cases e)⟩
            · -- 8: slot 38
              intro done ρ W hn hf hd h
              have q37 := h.1.get 7 37 _ rfl (hd 7 (by kernel_rfl))
              obtain ⟨y0, y1, y2⟩ := (h.2.r1 (by
                cases hx : done 14 with
                | false => rfl
                | true => rw [h.2.z14 hx] at hn; cases hn)).cells
              clear hf
              refine .inl ⟨rfl, opOK_step fun R hR => ?_⟩
              unfold opOK
              go_simp
              exact hR _ _ ⟨h.1.put stepS rfl (by decide) 8 38 _ rfl trivial, h.2.plain 8 38 _ (by decide) (by decide) (by decide) (by decide) (by decide) (by decide) (by decide) (fun e => by cases e)⟩
            · -- 9: slot 39
              intro done ρ W hn hf hd h
              have q7 := hf 7 (by kernel_rfl)
              change ρ 7 = .int .i64 (s : Int) at q7
              clear hf
              refine .inl ⟨rfl, opOK_step fun R hR => ?_⟩
              unfold opOK
              go_simp
              exact hR _ _ ⟨h.1.put stepS rfl (by decide) 9 39 _ rfl trivial, h.2.plain 9 39 _ (by decide) (by decide) (by decide) (by decide) (by decide) (by decide) (by decide) (fun e => by cases e)⟩
            · -- 10: slot 40
              intro done ρ W hn hf hd h
              have q38 := h.1.get 8 38 _ rfl (hd 8 (by kernel_rfl))
              have q39 := h.1.get 9 39 _ rfl (hd 9 (by kernel_rfl))
              clear hf
              refine .inl ⟨rfl, opOK_step fun R hR => ?_⟩
              unfold opOK
              go_simp
              exact hR _ _ ⟨h.1.put stepS rfl (by decide) 10 40 _ rfl trivial, h.2.plain 10 40 _ (by decide) (by decide) (by decide) (by decide) (by decide) (by decide) (by decide) (fun _ => hd 8 (by kernel_rfl))⟩
            · -- 11: slot 2
              intro done ρ W hn hf hd h
              obtain ⟨A2, c2, k1, -, -⟩ := h.2.n4 (hd 4 (by kernel_rfl))
              clear hf
              refine .inl ⟨rfl, opOK_step fun R hR => ?_⟩
              unfold opOK
              go_simp
              exact hR _ _ ⟨h.1.skip stepS rfl 11 2 _ rfl rfl trivial, h.2.asg (hd 4 (by kernel_rfl)) k1.symm⟩
            · -- 12: slot 41
              intro done ρ W hn hf hd h
              have q30 := h.1.get 0 30 _ rfl (hd 0 (by kernel_rfl))
              clear hf
              refine .inl ⟨rfl, opOK_step fun R hR => ?_⟩
              unfold opOK
              go_simp
              exact hR _ _ ⟨h.1.put stepS rfl (by decide) 12 41 _ rfl trivial, h.2.plain 12 41 _ (by decide) (by decide) (by decide) (by decide) (by decide) (by decide) (by decide) (fun e => by cases e)⟩
            · -- 13: slot 42
              intro done ρ W hn hf hd h
              have q41 := h.1.get 12 41 _ rfl (hd 12 (by kernel_rfl))
              clear hf
              refine .inl ⟨rfl, opOK_step fun R hR => ?_⟩
              unfold opOK
              go_simp
              exact hR _ _ ⟨h.1.put stepS rfl (by decide) 13 42 _ rfl trivial, h.2.plain 13 42 _ (by decide) (by decide) (by decide) (by decide) (by decide) (by decide) (by decide) (fun e => by cases e)⟩
            · -- 14: the store
              intro done ρ W hn hf hd h
              have q42 := h.1.get 13 42 _ rfl (hd 13 (by kernel_rfl))
              have q40 := h.1.get 10 40 _ rfl (hd 10 (by kernel_rfl))
              have HR := h.2.r1 hn
              obtain ⟨y0, y1, y2⟩ := HR.cells
              have f1 := frozen_of_row W w.heap.size 1 _ _ HR
              clear hf
              refine .inl ⟨rfl, opOK_step fun R hR => ?_⟩
              unfold opOK
              go_simp
              exact hR _ _ ⟨h.1.world 14 _ rfl trivial, h.2.store hn (hd 10 (by kernel_rfl)) (Nat.le_refl _) Hne.out _⟩
          · intro a' w6 hdf hsz hf h
            obtain ⟨A2, c2, -, hOO6, k3⟩ := h.2.n4 (by kernel_rfl)
            have h2 := k3 (by kernel_rfl)
            have hR6 := h.2.r2 (by kernel_rfl)
            have hb06 := h.2.b
            have h0 : slotsOf a' 0 = .slice A n c := hf 0 (by kernel_rfl)
            have h5 : slotsOf a' 5 = .pointer (some ⟨w.heap.size, 0, none⟩) := hf 5 (by kernel_rfl)
            have h13 : slotsOf a' 13 = .int .i64 (M : Int) := hf 13 (by kernel_rfl)
            have h14 : slotsOf a' 14 = .int .i64 (j : Int) := hf 14 (by kernel_rfl)
            have h1 : slotsOf a' 1 = undef := hf 1 (by kernel_rfl)
            have h9 : slotsOf a' 9 = .slice A n c := hf 9 (by kernel_rfl)
            have h10 : slotsOf a' 10 = .agg #[.slice A n c, .int .i64 0, .bool false] := hf 10 (by kernel_rfl)
            have h11 : slotsOf a' 11 = .pointer (some ⟨w.heap.size, 0, none⟩) := hf 11 (by kernel_rfl)
            have h12 : slotsOf a' 12 = .pointer (some ⟨w.heap.size, 0, none⟩) := hf 12 (by kernel_rfl)
            have h44 : slotsOf a' 44 = undef := hf 44 (by kernel_rfl)
            have h45 : slotsOf a' 45 = undef := hf 45 (by kernel_rfl)
            have h46 : slotsOf a' 46 = undef := hf 46 (by kernel_rfl)
            have h47 : slotsOf a' 47 = undef := hf 47 (by kernel_rfl)
            have h48 : slotsOf a' 48 = undef := hf 48 (by kernel_rfl)
            have h49 : slotsOf a' 49 = undef := hf 49 (by kernel_rfl)
            have h50 : slotsOf a' 50 = undef := hf 50 (by kernel_rfl)
            have h51 : slotsOf a' 51 = undef := hf 51 (by kernel_rfl)
            have h52 : slotsOf a' 52 = undef := hf 52 (by kernel_rfl)
            have HR6 := hide hR6
            have HOO6 := hide hOO6
            clear hR6 hOO6 k3 HR5 HOO5 Hown5 HF5 hb05 hb5 hb4 hb04
            obtain ⟨T, D⟩ := a'
            have hD : D = [] := hdf
            subst hD
            obtain ⟨f, hT, hff⟩ : ∃ f : Nat → Value, T = ((List.range 53).map f).toArray ∧ slotsOf ⟨T, []⟩ = f := ⟨_, arr_list T 53 hsz, rfl⟩
            rw [hff] at h0 h2 h5 h13 h14 h1 h9 h10 h11 h12 h44 h45 h46 h47 h48 h49 h50 h51 h52
            clear hff hsz hf h hdf
            have hT' : T = #[f 0, f 1, f 2, f 3, f 4, f 5, f 6, f 7, f 8, f 9, f 10, f 11, f 12, f 13, f 14, f 15, f 16, f 17, f 18, f 19, f 20, f 21, f 22, f 23, f 24, f 25, f 26, f 27, f 28, f 29, f 30, f 31, f 32, f 33, f 34, f 35, f 36, f 37, f 38, f 39, f 40, f 41, f 42, f 43, f 44, f 45, f 46, f 47, f 48, f 49, f 50, f 51, f 52] := hT.trans (by kernel_rfl)
            clear hT
            subst hT'
            rw [h0, h2, h5, h13, h14, h1, h9, h10, h11, h12, h44, h45, h46, h47, h48, h49, h50, h51, h52]
            clear h0 h2 h5 h13 h14 h1 h9 h10 h11 h12 h44 h45 h46 h47 h48 h49 h50 h51 h52
            go_wp2_with fail
            go_roundw
            case rel =>
              refine ⟨j + 1, a + s, A2, c2, L' ++ [⟨k, t, r, A4, c4, p, z⟩], by omega, by omega, by go_num, rfl, hide ?_, HR6, HOO6, hide ?_, hb06⟩
              · rw [List.length_append, HLl.out]; rfl
              · rw [HG2.out, List.map_append]; rfl
            case measure => simp [intOf]; omega
      · have z0 : ¬ (j : Int) < M := by omega
        obtain rfl : j = M := by omega
        have HG0 := hide (show readL b = some (L'.map OpL.op, a) by
          have := HG.out
          rw [Nat.sub_self] at this
          exact this)
        have hlt9 := HR.out.lt
        obtain ⟨r0, r1, r2⟩ := HR.out.cells
        clear HG HR
        go_wp2_with fail
        go_quiet (fail)
        go_wp2_with fail
        refine bodyPost_ret (v := .tuple #[.slice A' j c', .int .i64 (a : Int), .int .i64 0]) (by simp [results, Try.results61, go_sem]) rfl ?_
        exact ⟨A', c', L', by rw [HG0.out]; simp only [outL]; rw [List.length_map, HLl.out], by rw [HG0.out]; rfl, HOO.out, below_drewN hb _⟩
end Go.Proofs.Ytmkpfdcnikgokaa
