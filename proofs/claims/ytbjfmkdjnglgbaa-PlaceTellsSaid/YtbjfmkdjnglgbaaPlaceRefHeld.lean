/-
  octavoref06: First, Held. Condition: parts of their types, and places that may be.
-/
import Derived.Test.YtbjfmkdjnglgbaaPlaceRefCut
import Derived.Test.YtbjfmkdjnglgbaaPlaceBegins
namespace Go.Proofs.Ytbjfmkdjnglgbaa
open Go.RowKit

theorem partRel_refl {a b : List Rn} (ha : ∀ x ∈ a, oneR x ∧ okR x) (hb : ∀ x ∈ b, oneR x ∧ okR x) : partRel a b a b := ⟨⟨[], rfl, rfl⟩, ha, hb⟩
/-- One round. -/
theorem partRel_cut {a b a' b' : List Rn} {t r m m2 : Int} (h : partRel a b ((t, r, m) :: a') ((t, r, m2) :: b')) :
    partRel a b (cutR (t, r, m) a' (if m ≤ m2 then m else m2)) (cutR (t, r, m2) b' (if m ≤ m2 then m else m2)) := by
  obtain ⟨h1, h2, h3⟩ := partRel_step h
  unfold cutR
  simp only
  rcases Int.lt_trichotomy m m2 with g | g | g
  · rw [if_pos (by omega : m ≤ m2), if_pos rfl, if_neg (by omega)]; exact h2 g
  · rw [if_pos (by omega : m ≤ m2), if_pos rfl, if_pos g.symm]; exact h1 g
  · rw [if_neg (by omega : ¬ m ≤ m2), if_neg (by omega), if_pos rfl]; exact h3 g
theorem cutR_len (x : Rn) (l : List Rn) (k : Int) : (cutR x l k).length ≤ l.length + 1 := by unfold cutR; split <;> simp
theorem cutR_less {t r m m2 : Int} (a b : List Rn) : (cutR (t, r, m) a (if m ≤ m2 then m else m2)).length + (cutR (t, r, m2) b (if m ≤ m2 then m else m2)).length < (a.length + 1) + (b.length + 1) := by
  unfold cutR
  simp only
  rcases Int.lt_trichotomy m m2 with g | g | g
  · rw [if_pos (by omega : m ≤ m2), if_pos rfl, if_neg (by omega)]; simp
  · rw [if_pos (by omega : m ≤ m2), if_pos rfl, if_pos g.symm]; omega
  · rw [if_neg (by omega : ¬ m ≤ m2), if_neg (by omega), if_pos rfl]; simp

set_option maxHeartbeats 6400000 in
set_option maxRecDepth 100000 in
theorem reffirst_ok (A B : Option Addr) (n k c d : Nat) (a b : List Rn) (w : World) (hr : RR w w.heap.size A a) (hs : RR w w.heap.size B b) (hn : a.length = n) (hk : b.length = k) (hnc : n ≤ c) (hkd : k ≤ d) (hl : n < 1073741824) (hm : k < 1073741824)
    (ha : ∀ x ∈ a, oneR x ∧ okR x) (hb : ∀ x ∈ b, oneR x ∧ okR x) :
    Calls Try.prog 95 #[.slice A n c, .slice B k d] w fun e w' => e = .returned (.bool ((allR a).isPrefixOf (allR b))) ∧ Below w.heap.size w w' := by
  subst hn hk
  have hP := hide (partRel_refl ha hb)
  clear ha hb
  go_enter Try.func95, Try.ntmps95
  go_wp2_with fail
  go_loopw [0, 1, 5] (fun u v _ wr => ∃ (a' b' : List Rn) (A' B' : Option Addr) (c' d' : Nat), u = .slice A' a'.length c' ∧ v = .slice B' b'.length d' ∧ a'.length ≤ c' ∧ b'.length ≤ d' ∧ a'.length < 1073741824 ∧ b'.length < 1073741824 ∧ RR wr wr.heap.size A' a' ∧ RR wr wr.heap.size B' b' ∧ Hid (partRel a b a' b') ∧ Below w.heap.size w wr) (fun u v _ _ => lenOf u + lenOf v)
  case atStart => exact ⟨a, b, A, B, c, d, rfl, rfl, hnc, hkd, hl, hm, hr, hs, hP, Below.refl _ _⟩
  case round =>
    obtain ⟨a', b', A', B', c', d', rfl, rfl, hc', hd', hl', hm', hr', hs', hP', hb⟩ := hrel
    clear hr hs hP hnc hkd hl hm
    rcases a' with _ | ⟨⟨t, r, m⟩, a'⟩
    · have hv := hide (beg_nil hP'.out)
      simp only [List.length_nil]
      go_wp2_with fail
      go_ret
      exact ⟨ret_bool hv.out.symm, hb⟩
    rcases b' with _ | ⟨⟨t2, r2, m2⟩, b'⟩
    · have hv := hide (beg_cons hP'.out trivial)
      simp only [List.length_nil, List.length_cons] at hc' hl' ⊢
      have z0 : (0 : Int) < (a'.length : Int) + 1 := by omega
      have z2 : ((a'.length : Int) + 1 == 0) = false := by simp; omega
      clear hr' hs'
      go_wp2_with fail
      go_ret
      exact ⟨ret_bool hv.out.symm, hb⟩
    obtain ⟨b0, o0, rfl, hB0, hC0⟩ := RR.cell hr' (by simp)
    obtain ⟨b1, o1, rfl, hB1, hC1⟩ := RR.cell hs' (by simp)
    obtain ⟨x0, x1, x2⟩ := hC0 0 (by simp)
    obtain ⟨y0, y1, y2⟩ := hC1 0 (by simp)
    simp only [List.getElem_cons_zero, Nat.zero_mul, Nat.add_zero] at x0 x1 x2 y0 y1 y2
    simp only [List.length_cons] at hc' hd' hl' hm' ⊢
    have Hr := hide hr'
    have Hs := hide hs'
    have hoa := hide (hP'.out.2.1 _ List.mem_cons_self).1
    have hob := hide (hP'.out.2.2 _ List.mem_cons_self).1
    clear hC0 hC1 hr' hs'
    have z0 : (0 : Int) < (a'.length : Int) + 1 := by omega
    have z1 : (0 : Int) < (b'.length : Int) + 1 := by omega
    have zt : ∀ q : Nat, ((q + 1 : Nat) : Int) = (q : Int) + 1 := fun q => by omega
    by_cases hne : t = t2 ∧ r = r2
    · obtain ⟨rfl, rfl⟩ := hne
      go_wp2_with fail
      refine wp_region_wq (by kernel_rfl) (by kernel_rfl) ?_
      repeat (
        refine WQ.step (fun K hK => ?_)
        go_simp
        refine hK _ ?_
        clear hK K)
      refine WQ.nil ?_
      intro U
      have hbN := below_past wr U
      replace x0 := keep_cell hbN hB0 x0
      replace x1 := keep_cell hbN hB0 x1
      replace x2 := keep_cell hbN hB0 x2
      replace y0 := keep_cell hbN hB1 y0
      replace y1 := keep_cell hbN hB1 y1
      replace y2 := keep_cell hbN hB1 y2
      replace hB0 := Nat.lt_of_lt_of_le hB0 hbN.size
      replace hB1 := Nat.lt_of_lt_of_le hB1 hbN.size
      replace Hr := hide (Hr.out.below' hbN)
      replace Hs := hide (Hs.out.below' hbN)
      have W1_b := fresh hb hbN
      clear hbN
      generalize past wr U = W1 at x0 x1 x2 y0 y1 y2 hB0 hB1 Hr Hs W1_b ⊢
      rcases Int.lt_trichotomy m m2 with hm | hm | hm
      · have hle : m ≤ m2 := by omega
        go_wp2_with fail
        refine wp_region_wq (by kernel_rfl) (by kernel_rfl) ?_
        repeat (
          refine WQ.step (fun K hK => ?_)
          go_simp
          refine hK _ ?_
          clear hK K)
        refine WQ.nil ?_
        intro U
        have hbN := below_past W1 U
        replace x0 := keep_cell hbN hB0 x0
        replace x1 := keep_cell hbN hB0 x1
        replace x2 := keep_cell hbN hB0 x2
        replace y0 := keep_cell hbN hB1 y0
        replace y1 := keep_cell hbN hB1 y1
        replace y2 := keep_cell hbN hB1 y2
        replace hB0 := Nat.lt_of_lt_of_le hB0 hbN.size
        replace hB1 := Nat.lt_of_lt_of_le hB1 hbN.size
        replace Hr := hide (Hr.out.below' hbN)
        replace Hs := hide (Hs.out.below' hbN)
        have W2_b := fresh W1_b hbN
        clear hbN
        generalize past W1 U = W2 at x0 x1 x2 y0 y1 y2 hB0 hB1 Hr Hs W2_b ⊢
        have hnx := hide (partRel_cut hP'.out)
        have hls := hide (cutR_less (t := t) (r := r) (m := m) (m2 := m2) a' b')
        rw [if_pos hle] at hnx hls
        have C1 := hide (refcut_ok (some ⟨b0, o0, none⟩) (a'.length + 1) c' t r m m a' W2 Hr.out rfl hc' hl' hoa.out (by have := hoa.out.2.2.2.1; have := hob.out.2.2.2.1; simp only at *; omega) (by omega))
        have C2 := hide (fun W h => refcut_ok (some ⟨b1, o1, none⟩) (b'.length + 1) d' t r m2 m b' W h rfl hd' hm' hob.out (by have := hoa.out.2.2.2.1; have := hob.out.2.2.2.1; simp only at *; omega) (by omega))
        go_wp2_with fail
        refine C1.out.mono ?_
        rintro e w4 ⟨A4, c4, rfl, hc4, hr4, hb4⟩
        go_wp2_with fail
        refine (unhide C2 w4 (Hs.out.below' hb4)).mono ?_
        rintro e w5 ⟨A5, c5, rfl, hc5, hr5, hb5⟩
        have hb05 := fresh (fresh W2_b hb4) hb5
        have hr45 := hr4.below' hb5
        have hca := cutR_len (t, r, m) a' m
        have hcb := cutR_len (t, r, m2) b' m
        obtain ⟨qa, hqa⟩ : ∃ q, q = cutR (t, r, m) a' m := ⟨_, rfl⟩
        obtain ⟨qb, hqb⟩ : ∃ q, q = cutR (t, r, m2) b' m := ⟨_, rfl⟩
        rw [← hqa] at hnx hls hca hr45 hc4
        rw [← hqb] at hnx hls hcb hr5 hc5
        rw [← hqa, ← hqb]
        clear hqa hqb hr4
        go_wp2_with fail
        go_roundw
        case rel => exact ⟨qa, qb, A4, A5, c4, c5, rfl, rfl, hc4, hc5, by omega, by omega, hr45, hr5, hnx, hb05⟩
        case measure => have := hls.out; simp only [lenOf] at *; omega
      · subst hm
        go_wp2_with fail
        refine wp_region_wq (by kernel_rfl) (by kernel_rfl) ?_
        repeat (
          refine WQ.step (fun K hK => ?_)
          go_simp
          refine hK _ ?_
          clear hK K)
        refine WQ.nil ?_
        intro U
        have hbN := below_past W1 U
        replace x0 := keep_cell hbN hB0 x0
        replace x1 := keep_cell hbN hB0 x1
        replace x2 := keep_cell hbN hB0 x2
        replace y0 := keep_cell hbN hB1 y0
        replace y1 := keep_cell hbN hB1 y1
        replace y2 := keep_cell hbN hB1 y2
        replace hB0 := Nat.lt_of_lt_of_le hB0 hbN.size
        replace hB1 := Nat.lt_of_lt_of_le hB1 hbN.size
        replace Hr := hide (Hr.out.below' hbN)
        replace Hs := hide (Hs.out.below' hbN)
        have W2_b := fresh W1_b hbN
        clear hbN
        generalize past W1 U = W2 at x0 x1 x2 y0 y1 y2 hB0 hB1 Hr Hs W2_b ⊢
        have hnx := hide (partRel_cut hP'.out)
        have hls := hide (cutR_less (t := t) (r := r) (m := m) (m2 := m) a' b')
        rw [if_pos (Int.le_refl m)] at hnx hls
        have C1 := hide (refcut_ok (some ⟨b0, o0, none⟩) (a'.length + 1) c' t r m m a' W2 Hr.out rfl hc' hl' hoa.out (by have := hoa.out.2.2.2.1; have := hob.out.2.2.2.1; simp only at *; omega) (by omega))
        have C2 := hide (fun W h => refcut_ok (some ⟨b1, o1, none⟩) (b'.length + 1) d' t r m m b' W h rfl hd' hm' hob.out (by have := hoa.out.2.2.2.1; have := hob.out.2.2.2.1; simp only at *; omega) (by omega))
        go_wp2_with fail
        refine C1.out.mono ?_
        rintro e w4 ⟨A4, c4, rfl, hc4, hr4, hb4⟩
        go_wp2_with fail
        refine (unhide C2 w4 (Hs.out.below' hb4)).mono ?_
        rintro e w5 ⟨A5, c5, rfl, hc5, hr5, hb5⟩
        have hb05 := fresh (fresh W2_b hb4) hb5
        have hr45 := hr4.below' hb5
        have hca := cutR_len (t, r, m) a' m
        have hcb := cutR_len (t, r, m) b' m
        obtain ⟨qa, hqa⟩ : ∃ q, q = cutR (t, r, m) a' m := ⟨_, rfl⟩
        obtain ⟨qb, hqb⟩ : ∃ q, q = cutR (t, r, m) b' m := ⟨_, rfl⟩
        rw [← hqa] at hnx hls hca hr45 hc4
        rw [← hqb] at hnx hls hcb hr5 hc5
        rw [← hqa, ← hqb]
        clear hqa hqb hr4
        go_wp2_with fail
        go_roundw
        case rel => exact ⟨qa, qb, A4, A5, c4, c5, rfl, rfl, hc4, hc5, by omega, by omega, hr45, hr5, hnx, hb05⟩
        case measure => have := hls.out; simp only [lenOf] at *; omega
      · have hle : ¬ m ≤ m2 := by omega
        go_wp2_with fail
        refine wp_region_wq (by kernel_rfl) (by kernel_rfl) ?_
        repeat (
          refine WQ.step (fun K hK => ?_)
          go_simp
          refine hK _ ?_
          clear hK K)
        refine WQ.nil ?_
        intro U
        have hbN := below_past W1 U
        replace x0 := keep_cell hbN hB0 x0
        replace x1 := keep_cell hbN hB0 x1
        replace x2 := keep_cell hbN hB0 x2
        replace y0 := keep_cell hbN hB1 y0
        replace y1 := keep_cell hbN hB1 y1
        replace y2 := keep_cell hbN hB1 y2
        replace hB0 := Nat.lt_of_lt_of_le hB0 hbN.size
        replace hB1 := Nat.lt_of_lt_of_le hB1 hbN.size
        replace Hr := hide (Hr.out.below' hbN)
        replace Hs := hide (Hs.out.below' hbN)
        have W2_b := fresh W1_b hbN
        clear hbN
        generalize past W1 U = W2 at x0 x1 x2 y0 y1 y2 hB0 hB1 Hr Hs W2_b ⊢
        have hnx := hide (partRel_cut hP'.out)
        have hls := hide (cutR_less (t := t) (r := r) (m := m) (m2 := m2) a' b')
        rw [if_neg (by omega : ¬ m ≤ m2)] at hnx hls
        have C1 := hide (refcut_ok (some ⟨b0, o0, none⟩) (a'.length + 1) c' t r m m2 a' W2 Hr.out rfl hc' hl' hoa.out (by have := hoa.out.2.2.2.1; have := hob.out.2.2.2.1; simp only at *; omega) (by omega))
        have C2 := hide (fun W h => refcut_ok (some ⟨b1, o1, none⟩) (b'.length + 1) d' t r m2 m2 b' W h rfl hd' hm' hob.out (by have := hoa.out.2.2.2.1; have := hob.out.2.2.2.1; simp only at *; omega) (by omega))
        go_wp2_with fail
        refine C1.out.mono ?_
        rintro e w4 ⟨A4, c4, rfl, hc4, hr4, hb4⟩
        go_wp2_with fail
        refine (unhide C2 w4 (Hs.out.below' hb4)).mono ?_
        rintro e w5 ⟨A5, c5, rfl, hc5, hr5, hb5⟩
        have hb05 := fresh (fresh W2_b hb4) hb5
        have hr45 := hr4.below' hb5
        have hca := cutR_len (t, r, m) a' m2
        have hcb := cutR_len (t, r, m2) b' m2
        obtain ⟨qa, hqa⟩ : ∃ q, q = cutR (t, r, m) a' m2 := ⟨_, rfl⟩
        obtain ⟨qb, hqb⟩ : ∃ q, q = cutR (t, r, m2) b' m2 := ⟨_, rfl⟩
        rw [← hqa] at hnx hls hca hr45 hc4
        rw [← hqb] at hnx hls hcb hr5 hc5
        rw [← hqa, ← hqb]
        clear hqa hqb hr4
        go_wp2_with fail
        go_roundw
        case rel => exact ⟨qa, qb, A4, A5, c4, c5, rfl, rfl, hc4, hc5, by omega, by omega, hr45, hr5, hnx, hb05⟩
        case measure => have := hls.out; simp only [lenOf] at *; omega
    · have hv := hide (beg_cons hP'.out (show parted ((t, r, m) :: a') ((t2, r2, m2) :: b') from hne))
      have hways : (t == t2) = false ∨ ((t == t2) = true ∧ (r == r2) = false) := by
        cases h1 : (t == t2)
        · exact .inl rfl
        · cases h2 : (r == r2)
          · exact .inr ⟨rfl, rfl⟩
          · exact absurd ⟨by simpa using h1, by simpa using h2⟩ hne
      clear hne
      have hways : (t != t2) = true ∨ ((t != t2) = false ∧ (r != r2) = true) := by simpa only [bne, Bool.not_eq_true', Bool.not_eq_false'] using hways
      rcases hways with h1 | ⟨h1, h2⟩
      all_goals
        go_wp2_with fail
        refine wp_region_wq (by kernel_rfl) (by kernel_rfl) ?_
        repeat (
          refine WQ.step (fun K hK => ?_)
          go_simp
          refine hK _ ?_
          clear hK K)
        refine WQ.nil ?_
        intro U
        have hbN := below_past wr U
        go_wp2_with fail
        go_ret
        exact ⟨ret_bool hv.out.symm, fresh hb hbN⟩

set_option maxHeartbeats 6400000 in
set_option maxRecDepth 100000 in
theorem refheld_ok (A B : Option Addr) (n k c d : Nat) (a b : List Rn) (w : World) (hr : RR w w.heap.size A a) (hs : RR w w.heap.size B b) (hn : a.length = n) (hk : b.length = k) (hnc : n ≤ c) (hkd : k ≤ d) (hl : n < 1073741824) (hm : k < 1073741824)
    (ha : ∀ x ∈ a, oneR x ∧ okR x) (hb : ∀ x ∈ b, oneR x ∧ okR x) :
    Calls Try.prog 94 #[.slice A n c, .slice B k d] w fun e w' => e = .returned (.int .i64 (cmpS (allR a) (allR b))) ∧ Below w.heap.size w w' := by
  subst hn hk
  have hP := hide (partRel_refl ha hb)
  clear ha hb
  go_enter Try.func94, Try.ntmps94
  go_wp2_with fail
  go_loopw [0, 1, 5, 6, 7] (fun u v _ _ _ wr => ∃ (a' b' : List Rn) (A' B' : Option Addr) (c' d' : Nat), u = .slice A' a'.length c' ∧ v = .slice B' b'.length d' ∧ a'.length ≤ c' ∧ b'.length ≤ d' ∧ a'.length < 1073741824 ∧ b'.length < 1073741824 ∧ RR wr wr.heap.size A' a' ∧ RR wr wr.heap.size B' b' ∧ Hid (partRel a b a' b') ∧ Below w.heap.size w wr) (fun u v _ _ _ _ => lenOf u + lenOf v)
  case atStart => exact ⟨a, b, A, B, c, d, rfl, rfl, hnc, hkd, hl, hm, hr, hs, hP, Below.refl _ _⟩
  case round =>
    obtain ⟨a', b', A', B', c', d', rfl, rfl, hc', hd', hl', hm', hr', hs', hP', hb⟩ := hrel
    clear hr hs hP hnc hkd hl hm
    rcases a' with _ | ⟨⟨t, r, m⟩, a'⟩
    · rcases b' with _ | ⟨⟨t2, r2, m2⟩, b'⟩
      · have hv := hide (part_nil hP'.out)
        simp only [List.length_nil]
        go_wp2_with fail
        go_ret
        exact ⟨ret_int hv.out.symm, hb⟩
      · have hv := hide (part_left hP'.out)
        simp only [List.length_nil, List.length_cons] at hd' hm' ⊢
        have z0 : (0 : Int) < (b'.length : Int) + 1 := by omega
        clear hr' hs'
        go_wp2_with fail
        go_ret
        exact ⟨ret_int hv.out.symm, hb⟩
    rcases b' with _ | ⟨⟨t2, r2, m2⟩, b'⟩
    · have hv := hide (part_right hP'.out)
      simp only [List.length_nil, List.length_cons] at hc' hl' ⊢
      have z0 : (0 : Int) < (a'.length : Int) + 1 := by omega
      clear hr' hs'
      go_wp2_with fail
      go_ret
      exact ⟨ret_int hv.out.symm, hb⟩
    obtain ⟨b0, o0, rfl, hB0, hC0⟩ := RR.cell hr' (by simp)
    obtain ⟨b1, o1, rfl, hB1, hC1⟩ := RR.cell hs' (by simp)
    obtain ⟨x0, x1, x2⟩ := hC0 0 (by simp)
    obtain ⟨y0, y1, y2⟩ := hC1 0 (by simp)
    simp only [List.getElem_cons_zero, Nat.zero_mul, Nat.add_zero] at x0 x1 x2 y0 y1 y2
    simp only [List.length_cons] at hc' hd' hl' hm' ⊢
    have Hr := hide hr'
    have Hs := hide hs'
    have hoa := hide (hP'.out.2.1 _ List.mem_cons_self).1
    have hob := hide (hP'.out.2.2 _ List.mem_cons_self).1
    clear hC0 hC1 hr' hs'
    have z0 : (0 : Int) < (a'.length : Int) + 1 := by omega
    have z1 : (0 : Int) < (b'.length : Int) + 1 := by omega
    have zt : ∀ q : Nat, ((q + 1 : Nat) : Int) = (q : Int) + 1 := fun q => by omega
    by_cases hne : t = t2 ∧ r = r2
    · obtain ⟨rfl, rfl⟩ := hne
      go_wp2_with fail
      go_region_held3 (fun w' => w'.cell? ⟨b0, o0, none⟩ = some (.int .u32 t) ∧ w'.cell? ⟨b0, o0 + 1, none⟩ = some (.int .u8 r) ∧ w'.cell? ⟨b1, o1, none⟩ = some (.int .u32 t) ∧ w'.cell? ⟨b1, o1 + 1, none⟩ = some (.int .u8 r)) (go_keep) (fail)
      obtain ⟨V1, hV1, k0, k1, hk1, hkb⟩ := one_box wr (.int .u32 t) (.int .u8 r) 25
      try rw [hV1]
      obtain ⟨V1x, hWN⟩ : ∃ W : World, V1.drew = W := ⟨_, rfl⟩
      try rw [hWN]
      have hbN : Below wr.heap.size wr V1x := by rw [← hWN]; exact hkb.drew
      have gx0 : V1x.cell? ⟨wr.heap.size, 0, none⟩ = some (.int .u32 t) := by rw [← hWN]; exact k0
      have gx1 : V1x.cell? ⟨wr.heap.size, 1, none⟩ = some (.int .u8 r) := by rw [← hWN]; exact k1
      have gxs : wr.heap.size < V1x.heap.size := by rw [← hWN]; exact hk1
      clear hWN hV1 k0 k1 hk1 hkb
      obtain ⟨gx, hgx⟩ : ∃ g, g = wr.heap.size := ⟨_, rfl⟩
      rw [← hgx] at gx0 gx1 gxs ⊢
      clear hgx
      replace x0 := keep_cell hbN hB0 x0
      replace x1 := keep_cell hbN hB0 x1
      replace x2 := keep_cell hbN hB0 x2
      replace y0 := keep_cell hbN hB1 y0
      replace y1 := keep_cell hbN hB1 y1
      replace y2 := keep_cell hbN hB1 y2
      replace hB0 := Nat.lt_of_lt_of_le hB0 hbN.size
      replace hB1 := Nat.lt_of_lt_of_le hB1 hbN.size
      replace Hr := hide (Hr.out.below' hbN)
      replace Hs := hide (Hs.out.below' hbN)
      have V1x_b := fresh hb hbN
      clear hbN
      go_wp2_with fail
      go_region_held3 (fun w' => w'.cell? ⟨b0, o0, none⟩ = some (.int .u32 t) ∧ w'.cell? ⟨b0, o0 + 1, none⟩ = some (.int .u8 r) ∧ w'.cell? ⟨b1, o1, none⟩ = some (.int .u32 t) ∧ w'.cell? ⟨b1, o1 + 1, none⟩ = some (.int .u8 r)) (go_keep) (fail)
      obtain ⟨V1, hV1, k0, k1, hk1, hkb⟩ := one_box V1x (.int .u32 t) (.int .u8 r) 25
      try rw [hV1]
      obtain ⟨W1, hWN⟩ : ∃ W : World, V1.drew = W := ⟨_, rfl⟩
      try rw [hWN]
      have hbN : Below V1x.heap.size V1x W1 := by rw [← hWN]; exact hkb.drew
      have gy0 : W1.cell? ⟨V1x.heap.size, 0, none⟩ = some (.int .u32 t) := by rw [← hWN]; exact k0
      have gy1 : W1.cell? ⟨V1x.heap.size, 1, none⟩ = some (.int .u8 r) := by rw [← hWN]; exact k1
      have gys : V1x.heap.size < W1.heap.size := by rw [← hWN]; exact hk1
      clear hWN hV1 k0 k1 hk1 hkb
      obtain ⟨gy, hgy⟩ : ∃ g, g = V1x.heap.size := ⟨_, rfl⟩
      rw [← hgy] at gy0 gy1 gys ⊢
      clear hgy
      replace x0 := keep_cell hbN hB0 x0
      replace x1 := keep_cell hbN hB0 x1
      replace x2 := keep_cell hbN hB0 x2
      replace y0 := keep_cell hbN hB1 y0
      replace y1 := keep_cell hbN hB1 y1
      replace y2 := keep_cell hbN hB1 y2
      replace hB0 := Nat.lt_of_lt_of_le hB0 hbN.size
      replace hB1 := Nat.lt_of_lt_of_le hB1 hbN.size
      replace Hr := hide (Hr.out.below' hbN)
      replace Hs := hide (Hs.out.below' hbN)
      have W1_b := fresh V1x_b hbN
      replace gx0 := keep_cell hbN gxs gx0
      replace gx1 := keep_cell hbN gxs gx1
      replace gxs := Nat.lt_of_lt_of_le gxs hbN.size
      clear hbN
      go_wp2_with fail
      clear gx0 gx1 gxs gy0 gy1 gys
      rcases Int.lt_trichotomy m m2 with hm | hm | hm
      · have hle : m ≤ m2 := by omega
        go_wp2_with fail
        refine wp_region_wq (by kernel_rfl) (by kernel_rfl) ?_
        repeat (
          refine WQ.step (fun K hK => ?_)
          go_simp
          refine hK _ ?_
          clear hK K)
        refine WQ.nil ?_
        intro U
        have hbN := below_past W1 U
        replace x0 := keep_cell hbN hB0 x0
        replace x1 := keep_cell hbN hB0 x1
        replace x2 := keep_cell hbN hB0 x2
        replace y0 := keep_cell hbN hB1 y0
        replace y1 := keep_cell hbN hB1 y1
        replace y2 := keep_cell hbN hB1 y2
        replace hB0 := Nat.lt_of_lt_of_le hB0 hbN.size
        replace hB1 := Nat.lt_of_lt_of_le hB1 hbN.size
        replace Hr := hide (Hr.out.below' hbN)
        replace Hs := hide (Hs.out.below' hbN)
        have W2_b := fresh W1_b hbN
        clear hbN
        generalize past W1 U = W2 at x0 x1 x2 y0 y1 y2 hB0 hB1 Hr Hs W2_b ⊢
        have hnx := hide (partRel_cut hP'.out)
        have hls := hide (cutR_less (t := t) (r := r) (m := m) (m2 := m2) a' b')
        rw [if_pos hle] at hnx hls
        have C1 := hide (refcut_ok (some ⟨b0, o0, none⟩) (a'.length + 1) c' t r m m a' W2 Hr.out rfl hc' hl' hoa.out (by have := hoa.out.2.2.2.1; have := hob.out.2.2.2.1; simp only at *; omega) (by omega))
        have C2 := hide (fun W h => refcut_ok (some ⟨b1, o1, none⟩) (b'.length + 1) d' t r m2 m b' W h rfl hd' hm' hob.out (by have := hoa.out.2.2.2.1; have := hob.out.2.2.2.1; simp only at *; omega) (by omega))
        go_wp2_with fail
        refine C1.out.mono ?_
        rintro e w4 ⟨A4, c4, rfl, hc4, hr4, hb4⟩
        go_wp2_with fail
        refine (unhide C2 w4 (Hs.out.below' hb4)).mono ?_
        rintro e w5 ⟨A5, c5, rfl, hc5, hr5, hb5⟩
        have hb05 := fresh (fresh W2_b hb4) hb5
        have hr45 := hr4.below' hb5
        have hca := cutR_len (t, r, m) a' m
        have hcb := cutR_len (t, r, m2) b' m
        obtain ⟨qa, hqa⟩ : ∃ q, q = cutR (t, r, m) a' m := ⟨_, rfl⟩
        obtain ⟨qb, hqb⟩ : ∃ q, q = cutR (t, r, m2) b' m := ⟨_, rfl⟩
        rw [← hqa] at hnx hls hca hr45 hc4
        rw [← hqb] at hnx hls hcb hr5 hc5
        rw [← hqa, ← hqb]
        clear hqa hqb hr4
        go_wp2_with fail
        go_roundw
        case rel => exact ⟨qa, qb, A4, A5, c4, c5, rfl, rfl, hc4, hc5, by omega, by omega, hr45, hr5, hnx, hb05⟩
        case measure => have := hls.out; simp only [lenOf] at *; omega
      · subst hm
        go_wp2_with fail
        refine wp_region_wq (by kernel_rfl) (by kernel_rfl) ?_
        repeat (
          refine WQ.step (fun K hK => ?_)
          go_simp
          refine hK _ ?_
          clear hK K)
        refine WQ.nil ?_
        intro U
        have hbN := below_past W1 U
        replace x0 := keep_cell hbN hB0 x0
        replace x1 := keep_cell hbN hB0 x1
        replace x2 := keep_cell hbN hB0 x2
        replace y0 := keep_cell hbN hB1 y0
        replace y1 := keep_cell hbN hB1 y1
        replace y2 := keep_cell hbN hB1 y2
        replace hB0 := Nat.lt_of_lt_of_le hB0 hbN.size
        replace hB1 := Nat.lt_of_lt_of_le hB1 hbN.size
        replace Hr := hide (Hr.out.below' hbN)
        replace Hs := hide (Hs.out.below' hbN)
        have W2_b := fresh W1_b hbN
        clear hbN
        generalize past W1 U = W2 at x0 x1 x2 y0 y1 y2 hB0 hB1 Hr Hs W2_b ⊢
        have hnx := hide (partRel_cut hP'.out)
        have hls := hide (cutR_less (t := t) (r := r) (m := m) (m2 := m) a' b')
        rw [if_pos (Int.le_refl m)] at hnx hls
        have C1 := hide (refcut_ok (some ⟨b0, o0, none⟩) (a'.length + 1) c' t r m m a' W2 Hr.out rfl hc' hl' hoa.out (by have := hoa.out.2.2.2.1; have := hob.out.2.2.2.1; simp only at *; omega) (by omega))
        have C2 := hide (fun W h => refcut_ok (some ⟨b1, o1, none⟩) (b'.length + 1) d' t r m m b' W h rfl hd' hm' hob.out (by have := hoa.out.2.2.2.1; have := hob.out.2.2.2.1; simp only at *; omega) (by omega))
        go_wp2_with fail
        refine C1.out.mono ?_
        rintro e w4 ⟨A4, c4, rfl, hc4, hr4, hb4⟩
        go_wp2_with fail
        refine (unhide C2 w4 (Hs.out.below' hb4)).mono ?_
        rintro e w5 ⟨A5, c5, rfl, hc5, hr5, hb5⟩
        have hb05 := fresh (fresh W2_b hb4) hb5
        have hr45 := hr4.below' hb5
        have hca := cutR_len (t, r, m) a' m
        have hcb := cutR_len (t, r, m) b' m
        obtain ⟨qa, hqa⟩ : ∃ q, q = cutR (t, r, m) a' m := ⟨_, rfl⟩
        obtain ⟨qb, hqb⟩ : ∃ q, q = cutR (t, r, m) b' m := ⟨_, rfl⟩
        rw [← hqa] at hnx hls hca hr45 hc4
        rw [← hqb] at hnx hls hcb hr5 hc5
        rw [← hqa, ← hqb]
        clear hqa hqb hr4
        go_wp2_with fail
        go_roundw
        case rel => exact ⟨qa, qb, A4, A5, c4, c5, rfl, rfl, hc4, hc5, by omega, by omega, hr45, hr5, hnx, hb05⟩
        case measure => have := hls.out; simp only [lenOf] at *; omega
      · have hle : ¬ m ≤ m2 := by omega
        go_wp2_with fail
        refine wp_region_wq (by kernel_rfl) (by kernel_rfl) ?_
        repeat (
          refine WQ.step (fun K hK => ?_)
          go_simp
          refine hK _ ?_
          clear hK K)
        refine WQ.nil ?_
        intro U
        have hbN := below_past W1 U
        replace x0 := keep_cell hbN hB0 x0
        replace x1 := keep_cell hbN hB0 x1
        replace x2 := keep_cell hbN hB0 x2
        replace y0 := keep_cell hbN hB1 y0
        replace y1 := keep_cell hbN hB1 y1
        replace y2 := keep_cell hbN hB1 y2
        replace hB0 := Nat.lt_of_lt_of_le hB0 hbN.size
        replace hB1 := Nat.lt_of_lt_of_le hB1 hbN.size
        replace Hr := hide (Hr.out.below' hbN)
        replace Hs := hide (Hs.out.below' hbN)
        have W2_b := fresh W1_b hbN
        clear hbN
        generalize past W1 U = W2 at x0 x1 x2 y0 y1 y2 hB0 hB1 Hr Hs W2_b ⊢
        have hnx := hide (partRel_cut hP'.out)
        have hls := hide (cutR_less (t := t) (r := r) (m := m) (m2 := m2) a' b')
        rw [if_neg (by omega : ¬ m ≤ m2)] at hnx hls
        have C1 := hide (refcut_ok (some ⟨b0, o0, none⟩) (a'.length + 1) c' t r m m2 a' W2 Hr.out rfl hc' hl' hoa.out (by have := hoa.out.2.2.2.1; have := hob.out.2.2.2.1; simp only at *; omega) (by omega))
        have C2 := hide (fun W h => refcut_ok (some ⟨b1, o1, none⟩) (b'.length + 1) d' t r m2 m2 b' W h rfl hd' hm' hob.out (by have := hoa.out.2.2.2.1; have := hob.out.2.2.2.1; simp only at *; omega) (by omega))
        go_wp2_with fail
        refine C1.out.mono ?_
        rintro e w4 ⟨A4, c4, rfl, hc4, hr4, hb4⟩
        go_wp2_with fail
        refine (unhide C2 w4 (Hs.out.below' hb4)).mono ?_
        rintro e w5 ⟨A5, c5, rfl, hc5, hr5, hb5⟩
        have hb05 := fresh (fresh W2_b hb4) hb5
        have hr45 := hr4.below' hb5
        have hca := cutR_len (t, r, m) a' m2
        have hcb := cutR_len (t, r, m2) b' m2
        obtain ⟨qa, hqa⟩ : ∃ q, q = cutR (t, r, m) a' m2 := ⟨_, rfl⟩
        obtain ⟨qb, hqb⟩ : ∃ q, q = cutR (t, r, m2) b' m2 := ⟨_, rfl⟩
        rw [← hqa] at hnx hls hca hr45 hc4
        rw [← hqb] at hnx hls hcb hr5 hc5
        rw [← hqa, ← hqb]
        clear hqa hqb hr4
        go_wp2_with fail
        go_roundw
        case rel => exact ⟨qa, qb, A4, A5, c4, c5, rfl, rfl, hc4, hc5, by omega, by omega, hr45, hr5, hnx, hb05⟩
        case measure => have := hls.out; simp only [lenOf] at *; omega
    · have hv := hide (part_both hP'.out (show parted ((t, r, m) :: a') ((t2, r2, m2) :: b') from hne))
      have hways : (t == t2) = false ∨ ((t == t2) = true ∧ (r == r2) = false) := by
        cases h1 : (t == t2)
        · exact .inl rfl
        · cases h2 : (r == r2)
          · exact .inr ⟨rfl, rfl⟩
          · exact absurd ⟨by simpa using h1, by simpa using h2⟩ hne
      clear hne
      obtain ⟨lb, hlb⟩ : ∃ q, lessB t2 r2 t r = q := ⟨_, rfl⟩
      simp only [hlb] at hv
      have hL := hide (fun W => refless_any t2 r2 t r W)
      rw [hlb] at hL
      clear hlb
      rcases hways with h1 | ⟨h1, h2⟩
      all_goals
        go_wp2_with fail
        go_region_held3 (fun w' => w'.cell? ⟨b0, o0, none⟩ = some (.int .u32 t) ∧ w'.cell? ⟨b0, o0 + 1, none⟩ = some (.int .u8 r) ∧ w'.cell? ⟨b1, o1, none⟩ = some (.int .u32 t2) ∧ w'.cell? ⟨b1, o1 + 1, none⟩ = some (.int .u8 r2)) (go_keep) (fail)
        obtain ⟨V1, hV1, k0, k1, hk1, hkb⟩ := one_box wr (.int .u32 t) (.int .u8 r) 25
        try rw [hV1]
        obtain ⟨V1x, hWN⟩ : ∃ W : World, V1.drew = W := ⟨_, rfl⟩
        try rw [hWN]
        have hbN : Below wr.heap.size wr V1x := by rw [← hWN]; exact hkb.drew
        have gx0 : V1x.cell? ⟨wr.heap.size, 0, none⟩ = some (.int .u32 t) := by rw [← hWN]; exact k0
        have gx1 : V1x.cell? ⟨wr.heap.size, 1, none⟩ = some (.int .u8 r) := by rw [← hWN]; exact k1
        have gxs : wr.heap.size < V1x.heap.size := by rw [← hWN]; exact hk1
        clear hWN hV1 k0 k1 hk1 hkb
        obtain ⟨gx, hgx⟩ : ∃ g, g = wr.heap.size := ⟨_, rfl⟩
        rw [← hgx] at gx0 gx1 gxs ⊢
        clear hgx
        replace x0 := keep_cell hbN hB0 x0
        replace x1 := keep_cell hbN hB0 x1
        replace x2 := keep_cell hbN hB0 x2
        replace y0 := keep_cell hbN hB1 y0
        replace y1 := keep_cell hbN hB1 y1
        replace y2 := keep_cell hbN hB1 y2
        replace hB0 := Nat.lt_of_lt_of_le hB0 hbN.size
        replace hB1 := Nat.lt_of_lt_of_le hB1 hbN.size
        replace Hr := hide (Hr.out.below' hbN)
        replace Hs := hide (Hs.out.below' hbN)
        have V1x_b := fresh hb hbN
        clear hbN
        go_wp2_with fail
        go_region_held3 (fun w' => w'.cell? ⟨b0, o0, none⟩ = some (.int .u32 t) ∧ w'.cell? ⟨b0, o0 + 1, none⟩ = some (.int .u8 r) ∧ w'.cell? ⟨b1, o1, none⟩ = some (.int .u32 t2) ∧ w'.cell? ⟨b1, o1 + 1, none⟩ = some (.int .u8 r2)) (go_keep) (fail)
        obtain ⟨V1, hV1, k0, k1, hk1, hkb⟩ := one_box V1x (.int .u32 t2) (.int .u8 r2) 25
        try rw [hV1]
        obtain ⟨W1, hWN⟩ : ∃ W : World, V1.drew = W := ⟨_, rfl⟩
        try rw [hWN]
        have hbN : Below V1x.heap.size V1x W1 := by rw [← hWN]; exact hkb.drew
        have gy0 : W1.cell? ⟨V1x.heap.size, 0, none⟩ = some (.int .u32 t2) := by rw [← hWN]; exact k0
        have gy1 : W1.cell? ⟨V1x.heap.size, 1, none⟩ = some (.int .u8 r2) := by rw [← hWN]; exact k1
        have gys : V1x.heap.size < W1.heap.size := by rw [← hWN]; exact hk1
        clear hWN hV1 k0 k1 hk1 hkb
        obtain ⟨gy, hgy⟩ : ∃ g, g = V1x.heap.size := ⟨_, rfl⟩
        rw [← hgy] at gy0 gy1 gys ⊢
        clear hgy
        replace x0 := keep_cell hbN hB0 x0
        replace x1 := keep_cell hbN hB0 x1
        replace x2 := keep_cell hbN hB0 x2
        replace y0 := keep_cell hbN hB1 y0
        replace y1 := keep_cell hbN hB1 y1
        replace y2 := keep_cell hbN hB1 y2
        replace hB0 := Nat.lt_of_lt_of_le hB0 hbN.size
        replace hB1 := Nat.lt_of_lt_of_le hB1 hbN.size
        replace Hr := hide (Hr.out.below' hbN)
        replace Hs := hide (Hs.out.below' hbN)
        have W1_b := fresh V1x_b hbN
        replace gx0 := keep_cell hbN gxs gx0
        replace gx1 := keep_cell hbN gxs gx1
        replace gxs := Nat.lt_of_lt_of_le gxs hbN.size
        clear hbN
        go_wp2_with fail
        refine (unhide hL W1).mono ?_
        rintro e w4 ⟨rfl, hb4⟩
        cases lb with
        | true =>
          go_wp2_with fail
          go_ret
          exact ⟨ret_int hv.out.symm, fresh W1_b hb4⟩
        | false =>
          go_wp2_with fail
          go_ret
          exact ⟨ret_int hv.out.symm, fresh W1_b hb4⟩
end Go.Proofs.Ytbjfmkdjnglgbaa
