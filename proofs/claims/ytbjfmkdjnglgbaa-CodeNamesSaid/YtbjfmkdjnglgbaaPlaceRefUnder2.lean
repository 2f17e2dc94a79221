/-
  octavoref06: Last, Under. Condition: parts of their types.
-/
import Derived.Test.YtbjfmkdjnglgbaaPlaceRefUnder
import Derived.Test.YtbjfmkdjnglgbaaOpCheck
namespace Go.Proofs.Ytbjfmkdjnglgbaa
open Go.RowKit

set_option maxHeartbeats 1600000 in
set_option maxRecDepth 100000 in
theorem reflast_any (A : Option Addr) (n c : Nat) (p : List Rn) (w : World) (hr : RR w w.heap.size A p) (hn : p.length = n) (hok : ∀ x ∈ p, okR x) :
    Calls Try.prog 29 #[.slice A n c] w fun e w' => e = .returned (.agg #[.int .u32 (lastR p).1, .int .u8 (lastR p).2]) ∧ Below w.heap.size w w' := by
  have hM := hide (fun W h => prefmay_any A n c p W h hn hok)
  by_cases hm : mayR p
  · rw [decide_eq_true hm] at hM
    have hF := hide (fun W h => reffinal_ok A n c p W h hn hm)
    clear hm
    obtain ⟨lt, hlt⟩ : ∃ x, x = (lastR p).1 := ⟨_, rfl⟩
    obtain ⟨lr, hlr⟩ : ∃ x, x = (lastR p).2 := ⟨_, rfl⟩
    rw [← hlt, ← hlr] at hF ⊢
    clear hlt hlr
    go_enter Try.func29, Try.ntmps29
    go_wp2_with fail
    have hb1 := boxed w (.cells #[.int .u32 0, .int .u8 0] 25)
    refine (unhide hM _ (hr.below' hb1)).mono ?_
    rintro e w2 ⟨rfl, hb2⟩
    have hb02 := fresh hb1 hb2
    have hlt : w.heap.size < (w.alloc (.cells #[.int .u32 0, .int .u8 0] 25)).heap.size := by simp
    have q0 := keep_cell (o := 0) hb2 hlt (by rw [World.cell?_alloc_new]; rfl : (w.alloc (.cells #[.int .u32 0, .int .u8 0] 25)).cell? ⟨w.heap.size, 0, none⟩ = some (.int .u32 0))
    have q1 := keep_cell (o := 1) hb2 hlt (by rw [World.cell?_alloc_new]; rfl : (w.alloc (.cells #[.int .u32 0, .int .u8 0] 25)).cell? ⟨w.heap.size, 1, none⟩ = some (.int .u8 0))
    have f0 : w2.frozen? ⟨w.heap.size, 0, none⟩ = false := (hb2.frozen (p := ⟨w.heap.size, 0, none⟩) hlt).trans (by simp)
    have f1 : w2.frozen? ⟨w.heap.size, 1, none⟩ = false := (hb2.frozen (p := ⟨w.heap.size, 1, none⟩) hlt).trans (by simp)
    have hs2 := Nat.lt_of_lt_of_le hlt hb2.size
    clear hlt
    go_wp2_with fail
    refine (unhide hF w2 (hr.below' hb02)).mono ?_
    rintro e w3 ⟨rfl, hb3⟩
    have hb03 := fresh hb02 hb3
    replace q0 := keep_cell hb3 hs2 q0
    replace q1 := keep_cell hb3 hs2 q1
    replace f0 : w3.frozen? ⟨w.heap.size, 0, none⟩ = false := (hb3.frozen (p := ⟨w.heap.size, 0, none⟩) hs2).trans f0
    replace f1 : w3.frozen? ⟨w.heap.size, 1, none⟩ = false := (hb3.frozen (p := ⟨w.heap.size, 1, none⟩) hs2).trans f1
    go_wp2_with fail
    exact bodyPost_ret (v := .agg #[.int .u32 lt, .int .u8 lr]) (by simp [results, Try.results29, go_sem, q0, q1]) rfl ⟨rfl, (hb03.setCell (Nat.le_refl _) _).setCell (Nat.le_refl _) _⟩
  · rw [decide_eq_false hm] at hM
    have hfin := hide (lastR_no hm)
    clear hm
    go_enter Try.func29, Try.ntmps29
    go_wp2_with fail
    have hb1 := boxed w (.cells #[.int .u32 0, .int .u8 0] 25)
    refine (unhide hM _ (hr.below' hb1)).mono ?_
    rintro e w2 ⟨rfl, hb2⟩
    have hb02 := fresh hb1 hb2
    have hlt : w.heap.size < (w.alloc (.cells #[.int .u32 0, .int .u8 0] 25)).heap.size := by simp
    have q0 := keep_cell (o := 0) hb2 hlt (by rw [World.cell?_alloc_new]; rfl : (w.alloc (.cells #[.int .u32 0, .int .u8 0] 25)).cell? ⟨w.heap.size, 0, none⟩ = some (.int .u32 0))
    have q1 := keep_cell (o := 1) hb2 hlt (by rw [World.cell?_alloc_new]; rfl : (w.alloc (.cells #[.int .u32 0, .int .u8 0] 25)).cell? ⟨w.heap.size, 1, none⟩ = some (.int .u8 0))
    have f0 : w2.frozen? ⟨w.heap.size, 0, none⟩ = false := (hb2.frozen (p := ⟨w.heap.size, 0, none⟩) hlt).trans (by simp)
    have f1 : w2.frozen? ⟨w.heap.size, 1, none⟩ = false := (hb2.frozen (p := ⟨w.heap.size, 1, none⟩) hlt).trans (by simp)
    clear hlt
    go_wp2_with fail
    rw [hfin.out]
    exact bodyPost_ret (v := .agg #[.int .u32 0, .int .u8 0]) (by simp [results, Try.results29, go_sem, q0, q1]) rfl ⟨rfl, (hb02.setCell (Nat.le_refl _) _).setCell (Nat.le_refl _) _⟩

theorem RR.none (w : World) (B : Nat) : RR w B none [] := ⟨rfl, fun h => absurd h (by decide)⟩

set_option maxHeartbeats 3200000 in
set_option maxRecDepth 100000 in
theorem refunder_any (A : Option Addr) (n c : Nat) (p : List Rn) (t r : Int) (w : World) (hr : RR w w.heap.size A p) (hn : p.length = n) (hok : ∀ x ∈ p, okR x) :
    Calls Try.prog 24 #[.slice A n c, .agg #[.int .u32 t, .int .u8 r]] w fun e w' => ∃ A' c', e = .returned (.tuple #[.slice A' (underR p t r).1.length c', .int .i64 (underR p t r).2]) ∧ RR w' w'.heap.size A' (underR p t r).1 ∧ Below w.heap.size w w' := by
  have M1 := hide (fun W h => refany_any A n c p W h hn hok)
  by_cases h1 : anyR p
  · rw [decide_eq_true h1] at M1
    have M2 := hide (fun W => refmay_any t r W)
    by_cases h2 : mayI t r
    · rw [decide_eq_true h2] at M2
      have hu : underR p t r = if t ≤ (lastR p).1 then ([], 2) else if mayR (moreR p t r) then (moreR p t r, 0) else ([], 60) := if_neg (fun h => h ⟨h1, h2⟩)
      have hl64 : n ≤ 64 := by
        rcases h1 with rfl | h1
        · simp at hn; omega
        · have := h1.2.1; omega
      have hways : (p = [] ∧ (lastR p).1 < t) ∨ (¬ p = [] ∧ t ≤ (lastR p).1) ∨ (¬ p = [] ∧ (lastR p).1 < t) := by
        by_cases hp : p = []
        · left
          refine ⟨hp, ?_⟩
          have : lastR p = (0, 0) := lastR_no (by rw [hp]; intro h; exact absurd h.1 (by decide))
          rw [this]
          have := h2.1
          simp only
          omega
        · rcases Int.lt_or_le (lastR p).1 t with h | h
          · exact .inr (.inr ⟨hp, h⟩)
          · exact .inr (.inl ⟨hp, h⟩)
      have Hmore := hide (fun W h (hl : (lastR p).1 < t) => refmore_ok A n c p t r W h hn h1 h2 hl)
      have Hmm := hide (more_may h1 h2)
      have Hparts := hide (more_parts (t := t) (r := r) h1)
      have Hmlen := hide (show (moreR p t r).length ≤ 65 by
        unfold moreR
        split
        · simp; omega
        · simp; omega)
      have HF := hide (fun W h (hp : ¬ p = []) => reffinal_ok A n c p W h hn (h1.resolve_left hp))
      obtain ⟨lt, hlt⟩ : ∃ x, x = (lastR p).1 := ⟨_, rfl⟩
      obtain ⟨lr, hlr⟩ : ∃ x, x = (lastR p).2 := ⟨_, rfl⟩
      simp only [← hlt, ← hlr] at HF hways Hmore hu Hmm
      have hfd := fun W => field_t lt lr W
      subst hn
      clear h1 h2 hlt hlr
      rcases hways with ⟨hp, hl⟩ | ⟨hp, hl⟩ | ⟨hp, hl⟩
      · rw [if_neg (by omega)] at hu
        have hz : ¬ (0 : Int) < p.length := by rw [hp]; simp
        have hzd : decide (0 < p.length) = false := by rw [hp]; simp
        clear hp HF
        go_enter Try.func24, Try.ntmps24
        go_wp2_with fail
        obtain ⟨w1, hw1, k0, k1, hs1, hb1⟩ := one_box w (.int .u32 t) (.int .u8 r) 25
        try rw [hw1]
        try clear hw1
        refine (unhide M1 w1 (RR.below' hr hb1)).mono ?_
        rintro e w2 ⟨rfl, hb2⟩
        replace k0 := keep_cell hb2 hs1 k0
        replace k1 := keep_cell hb2 hs1 k1
        replace hs1 := Nat.lt_of_lt_of_le hs1 hb2.size
        have hb02 := fresh hb1 hb2
        clear hb1 hb2
        go_wp2_with fail
        refine (unhide M2 w2).mono ?_
        rintro e w3 ⟨rfl, hb3⟩
        replace k0 := keep_cell hb3 hs1 k0
        replace k1 := keep_cell hb3 hs1 k1
        replace hs1 := Nat.lt_of_lt_of_le hs1 hb3.size
        have hb03 := fresh hb02 hb3
        clear hb02 hb3
        go_wp2_with fail
        refine wp_region_wq (by kernel_rfl) (by kernel_rfl) ?_
        repeat (
          refine WQ.step (fun K hK => ?_)
          go_simp
          first
            | (refine hK _ ?_; clear hK K)
            | (apply Exists.intro
               refine ⟨fun _ => ?_, hK _ ?_⟩
               fail
               clear hK K))
        refine WQ.nil ?_
        intro u
        have hb4 := below_past w3 u
        replace k0 := keep_cell hb4 hs1 k0
        replace k1 := keep_cell hb4 hs1 k1
        replace hs1 := Nat.lt_of_lt_of_le hs1 hb4.size
        have hb04 := fresh hb03 hb4
        clear hb03 hb4
        go_wp2_with fail
        refine (unhide Hmore _ (hr.below' hb04) hl).mono ?_
        rintro e w5 ⟨A5, c5, g5, rfl, S5, hb5⟩
        have hb05 := fresh hb04 hb5
        have hr5 := S5.rr
        have HL := hide (fun W h => reflong_any A5 (moreR p t r).length c5 (moreR p t r) W h rfl (by have := Hmlen.out; omega) Hparts.out)
        clear k0 k1 hs1 S5
        by_cases hm1 : (64 : Int) < (moreR p t r).length
        · have hno : ¬ mayR (moreR p t r) := fun h => by have := h.2.1; omega
          rw [if_neg hno] at hu
          have Hu := hide hu
          clear hu hno
          go_wp2_with fail
          exact bodyPost_ret (v := .tuple #[.slice none 0 0, .int .i64 60]) (by simp [results, Try.results24, go_sem]) rfl ⟨none, 0, by rw [Hu.out]; rfl, by rw [Hu.out]; exact RR.none _ _, hb05⟩
        · by_cases hm2 : (4096 : Int) < long (moreR p t r)
          · have hno : ¬ mayR (moreR p t r) := fun h => by have := h.2.2.2; omega
            rw [if_neg hno] at hu
            have Hu := hide hu
            clear hu hno
            go_wp2_with fail
            refine (unhide HL w5 hr5).mono ?_
            rintro e w6 ⟨rfl, hb6⟩
            go_wp2_with fail
            exact bodyPost_ret (v := .tuple #[.slice none 0 0, .int .i64 60]) (by simp [results, Try.results24, go_sem]) rfl ⟨none, 0, by rw [Hu.out]; rfl, by rw [Hu.out]; exact RR.none _ _, fresh hb05 hb6⟩
          · have hyes : mayR (moreR p t r) := (Hmm.out hl).2 ⟨by omega, by omega⟩
            rw [if_pos hyes] at hu
            have Hu := hide hu
            clear hu hyes
            go_wp2_with fail
            refine (unhide HL w5 hr5).mono ?_
            rintro e w6 ⟨rfl, hb6⟩
            go_wp2_with fail
            exact bodyPost_ret (v := .tuple #[.slice A5 (moreR p t r).length c5, .int .i64 0]) (by simp [results, Try.results24, go_sem]) rfl ⟨A5, c5, by rw [Hu.out], by rw [Hu.out]; exact hr5.below' hb6, fresh hb05 hb6⟩
      · rw [if_pos hl] at hu
        have hz : (0 : Int) < p.length := by have := List.length_pos_iff.2 hp; omega
        have hzd : decide (0 < p.length) = true := by simpa using List.length_pos_iff.2 hp
        have Hu := hide hu
        have Hp := hide hp
        clear hu hp
        go_enter Try.func24, Try.ntmps24
        go_wp2_with fail
        obtain ⟨w1, hw1, k0, k1, hs1, hb1⟩ := one_box w (.int .u32 t) (.int .u8 r) 25
        try rw [hw1]
        try clear hw1
        refine (unhide M1 w1 (RR.below' hr hb1)).mono ?_
        rintro e w2 ⟨rfl, hb2⟩
        replace k0 := keep_cell hb2 hs1 k0
        replace k1 := keep_cell hb2 hs1 k1
        replace hs1 := Nat.lt_of_lt_of_le hs1 hb2.size
        have hb02 := fresh hb1 hb2
        clear hb1 hb2
        go_wp2_with fail
        refine (unhide M2 w2).mono ?_
        rintro e w3 ⟨rfl, hb3⟩
        replace k0 := keep_cell hb3 hs1 k0
        replace k1 := keep_cell hb3 hs1 k1
        replace hs1 := Nat.lt_of_lt_of_le hs1 hb3.size
        have hb03 := fresh hb02 hb3
        clear hb02 hb3
        have E := hide (fun W => unhide HF (past w3 W) ((hr.below' hb03).below' (below_past _ W)) Hp.out)
        go_wp2_with fail
        refine wp_region_wq (by kernel_rfl) (by kernel_rfl) ?_
        repeat (
          refine WQ.step (fun K hK => ?_)
          go_simp
          first
            | (refine hK _ ?_; clear hK K)
            | (apply Exists.intro
               refine ⟨fun _ => ?_, hK _ ?_⟩
               (go_at_call 84; with_reducible exact past_call (unhide E _))
               clear hK K))
        refine WQ.nil ?_
        intro u
        have hb4 := below_past w3 u
        have hb04 := fresh hb03 hb4
        go_wp2_with fail
        exact bodyPost_ret (v := .tuple #[.slice none 0 0, .int .i64 2]) (by simp [results, Try.results24, go_sem]) rfl ⟨none, 0, by rw [Hu.out]; rfl, by rw [Hu.out]; exact RR.none _ _, hb04⟩
      · rw [if_neg (by omega)] at hu
        have hz : (0 : Int) < p.length := by have := List.length_pos_iff.2 hp; omega
        have hzd : decide (0 < p.length) = true := by simpa using List.length_pos_iff.2 hp
        have hl' : ¬ t ≤ lt := by omega
        have Hp := hide hp
        clear hp
        go_enter Try.func24, Try.ntmps24
        go_wp2_with fail
        obtain ⟨w1, hw1, k0, k1, hs1, hb1⟩ := one_box w (.int .u32 t) (.int .u8 r) 25
        try rw [hw1]
        try clear hw1
        refine (unhide M1 w1 (RR.below' hr hb1)).mono ?_
        rintro e w2 ⟨rfl, hb2⟩
        replace k0 := keep_cell hb2 hs1 k0
        replace k1 := keep_cell hb2 hs1 k1
        replace hs1 := Nat.lt_of_lt_of_le hs1 hb2.size
        have hb02 := fresh hb1 hb2
        clear hb1 hb2
        go_wp2_with fail
        refine (unhide M2 w2).mono ?_
        rintro e w3 ⟨rfl, hb3⟩
        replace k0 := keep_cell hb3 hs1 k0
        replace k1 := keep_cell hb3 hs1 k1
        replace hs1 := Nat.lt_of_lt_of_le hs1 hb3.size
        have hb03 := fresh hb02 hb3
        clear hb02 hb3
        have E := hide (fun W => unhide HF (past w3 W) ((hr.below' hb03).below' (below_past _ W)) Hp.out)
        go_wp2_with fail
        refine wp_region_wq (by kernel_rfl) (by kernel_rfl) ?_
        repeat (
          refine WQ.step (fun K hK => ?_)
          go_simp
          first
            | (refine hK _ ?_; clear hK K)
            | (apply Exists.intro
               refine ⟨fun _ => ?_, hK _ ?_⟩
               (go_at_call 84; with_reducible exact past_call (unhide E _))
               clear hK K))
        refine WQ.nil ?_
        intro u
        have hb4 := below_past w3 u
        replace k0 := keep_cell hb4 hs1 k0
        replace k1 := keep_cell hb4 hs1 k1
        replace hs1 := Nat.lt_of_lt_of_le hs1 hb4.size
        have hb04 := fresh hb03 hb4
        clear hb03 hb4
        go_wp2_with fail
        refine (unhide Hmore _ (hr.below' hb04) hl).mono ?_
        rintro e w5 ⟨A5, c5, g5, rfl, S5, hb5⟩
        have hb05 := fresh hb04 hb5
        have hr5 := S5.rr
        have HL := hide (fun W h => reflong_any A5 (moreR p t r).length c5 (moreR p t r) W h rfl (by have := Hmlen.out; omega) Hparts.out)
        clear k0 k1 hs1 S5
        by_cases hm1 : (64 : Int) < (moreR p t r).length
        · have hno : ¬ mayR (moreR p t r) := fun h => by have := h.2.1; omega
          rw [if_neg hno] at hu
          have Hu := hide hu
          clear hu hno
          go_wp2_with fail
          exact bodyPost_ret (v := .tuple #[.slice none 0 0, .int .i64 60]) (by simp [results, Try.results24, go_sem]) rfl ⟨none, 0, by rw [Hu.out]; rfl, by rw [Hu.out]; exact RR.none _ _, hb05⟩
        · by_cases hm2 : (4096 : Int) < long (moreR p t r)
          · have hno : ¬ mayR (moreR p t r) := fun h => by have := h.2.2.2; omega
            rw [if_neg hno] at hu
            have Hu := hide hu
            clear hu hno
            go_wp2_with fail
            refine (unhide HL w5 hr5).mono ?_
            rintro e w6 ⟨rfl, hb6⟩
            go_wp2_with fail
            exact bodyPost_ret (v := .tuple #[.slice none 0 0, .int .i64 60]) (by simp [results, Try.results24, go_sem]) rfl ⟨none, 0, by rw [Hu.out]; rfl, by rw [Hu.out]; exact RR.none _ _, fresh hb05 hb6⟩
          · have hyes : mayR (moreR p t r) := (Hmm.out hl).2 ⟨by omega, by omega⟩
            rw [if_pos hyes] at hu
            have Hu := hide hu
            clear hu hyes
            go_wp2_with fail
            refine (unhide HL w5 hr5).mono ?_
            rintro e w6 ⟨rfl, hb6⟩
            go_wp2_with fail
            exact bodyPost_ret (v := .tuple #[.slice A5 (moreR p t r).length c5, .int .i64 0]) (by simp [results, Try.results24, go_sem]) rfl ⟨A5, c5, by rw [Hu.out], by rw [Hu.out]; exact hr5.below' hb6, fresh hb05 hb6⟩
    · rw [decide_eq_false h2] at M2
      have Hu := hide (show underR p t r = ([], 8) from if_pos (fun h => h2 h.2))
      clear h1 h2
      go_enter Try.func24, Try.ntmps24
      go_wp2_with fail
      obtain ⟨w1, hw1, k0, k1, hs1, hb1⟩ := one_box w (.int .u32 t) (.int .u8 r) 25
      try rw [hw1]
      try clear hw1
      refine (unhide M1 w1 (RR.below' hr hb1)).mono ?_
      rintro e w2 ⟨rfl, hb2⟩
      replace k0 := keep_cell hb2 hs1 k0
      replace k1 := keep_cell hb2 hs1 k1
      replace hs1 := Nat.lt_of_lt_of_le hs1 hb2.size
      have hb02 := fresh hb1 hb2
      clear hb1 hb2
      go_wp2_with fail
      refine (unhide M2 w2).mono ?_
      rintro e w3 ⟨rfl, hb3⟩
      replace k0 := keep_cell hb3 hs1 k0
      replace k1 := keep_cell hb3 hs1 k1
      replace hs1 := Nat.lt_of_lt_of_le hs1 hb3.size
      have hb03 := fresh hb02 hb3
      clear hb02 hb3
      go_wp2_with fail
      exact bodyPost_ret (v := .tuple #[.slice none 0 0, .int .i64 8]) (by simp [results, Try.results24, go_sem]) rfl ⟨none, 0, by rw [Hu.out]; rfl, by rw [Hu.out]; exact RR.none _ _, hb03⟩
  · rw [decide_eq_false h1] at M1
    have Hu := hide (show underR p t r = ([], 8) from if_pos (fun h => h1 h.1))
    clear h1
    go_enter Try.func24, Try.ntmps24
    go_wp2_with fail
    obtain ⟨w1, hw1, k0, k1, hs1, hb1⟩ := one_box w (.int .u32 t) (.int .u8 r) 25
    try rw [hw1]
    try clear hw1
    refine (unhide M1 w1 (RR.below' hr hb1)).mono ?_
    rintro e w2 ⟨rfl, hb2⟩
    replace k0 := keep_cell hb2 hs1 k0
    replace k1 := keep_cell hb2 hs1 k1
    replace hs1 := Nat.lt_of_lt_of_le hs1 hb2.size
    have hb02 := fresh hb1 hb2
    clear hb1 hb2
    go_wp2_with fail
    exact bodyPost_ret (v := .tuple #[.slice none 0 0, .int .i64 8]) (by simp [results, Try.results24, go_sem]) rfl ⟨none, 0, by rw [Hu.out]; rfl, by rw [Hu.out]; exact RR.none _ _, hb02⟩
end Go.Proofs.Ytbjfmkdjnglgbaa
