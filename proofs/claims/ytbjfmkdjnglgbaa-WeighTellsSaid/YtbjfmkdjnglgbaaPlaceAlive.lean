/-
  octavolaw06.run, of, may, alive. No condition.
-/
import Derived.Test.YtbjfmkdjnglgbaaPlaceUnder
namespace Go.Proofs.Ytbjfmkdjnglgbaa
open Go.RowKit

set_option maxRecDepth 100000 in
theorem prun_ok (t r m : Int) (w : World) : Calls Try.prog 47 #[.int .u32 t, .int .u8 r, .int .i64 m] w fun e w' => e = .returned (.agg #[.int .u32 t, .int .u8 r, .int .i64 m]) ∧ Below w.heap.size w w' := by
  go_enter Try.func47, Try.ntmps47
  go_wp2_with fail
  exact bodyPost_ret (v := .agg #[.int .u32 t, .int .u8 r, .int .i64 m]) (by simp [results, Try.results47, go_sem]) rfl ⟨rfl, boxed w _⟩

set_option maxRecDepth 100000 in
theorem pof_ok (A : Option Addr) (n c : Nat) (w : World) : Calls Try.prog 46 #[.slice A n c] w fun e w' => e = .returned (.slice A n c) ∧ Below w.heap.size w w' := by
  go_enter Try.func46, Try.ntmps46
  go_wp2_with fail
  go_ret
  exact ⟨rfl, Below.refl _ _⟩

set_option maxRecDepth 100000 in
theorem lmay_any (A : Option Addr) (n c : Nat) (p : List Rn) (w : World) (hr : RR w w.heap.size A p) (hn : p.length = n) (hl : n < 1073741824) (hok : ∀ x ∈ p, okR x) :
    Calls Try.prog 49 #[.slice A n c] w fun e w' => e = .returned (.bool (decide (anyR p))) ∧ Below w.heap.size w w' := by
  subst hn
  have Hok := hide hok
  clear hok
  by_cases h0 : p = []
  · have hf := hide (show decide (anyR p) = true from decide_eq_true (.inl h0))
    have hz : ((p.length : Int) == 0) = true := by simp [h0]
    clear h0
    go_enter Try.func49, Try.ntmps49
    go_wp2_with fail
    go_ret
    exact ⟨ret_bool hf.out.symm, Below.refl _ _⟩
  · have hz : ((p.length : Int) == 0) = false := by simp; exact h0
    by_cases hm : mayR p
    · have hf := hide (show decide (anyR p) = true from decide_eq_true (.inr hm))
      have hc := hide (show chkR p = 0 from if_pos hm)
      clear h0 hm
      go_enter Try.func49, Try.ntmps49
      go_wp2_with fail
      refine (pcheck_any A p.length c p w hr rfl hl Hok.out).mono ?_
      rintro e w1 ⟨rfl, hb1⟩
      rw [hc.out]
      go_wp2_with fail
      go_ret
      exact ⟨ret_bool hf.out.symm, hb1⟩
    · have hf := hide (show decide (anyR p) = false from decide_eq_false (fun h => h.elim h0 hm))
      have hc := hide (show chkR p = 8 from if_neg hm)
      clear h0 hm
      go_enter Try.func49, Try.ntmps49
      go_wp2_with fail
      refine (pcheck_any A p.length c p w hr rfl hl Hok.out).mono ?_
      rintro e w1 ⟨rfl, hb1⟩
      rw [hc.out]
      go_wp2_with fail
      go_ret
      exact ⟨ret_bool hf.out.symm, hb1⟩

theorem okR_dec {p : List Rn} (h : (p.all fun x => decide (0 ≤ x.1) && decide (x.1 < 4294967296) && decide (0 ≤ x.2.1) && decide (x.2.1 < 256) && decide (-9223372036854775808 ≤ x.2.2) && decide (x.2.2 ≤ 9223372036854775807)) = true) : ∀ x ∈ p, okR x := by
  intro x hx
  have := List.all_eq_true.1 h x hx
  simp only [Bool.and_eq_true, decide_eq_true_eq] at this
  obtain ⟨⟨⟨⟨⟨a, b⟩, c⟩, d⟩, e⟩, f⟩ := this
  exact ⟨a, b, c, d, e, f⟩
theorem cmp_new (w : World) (B1 B2 : Option Addr) (n1 n2 c1 c2 : Nat) (a b : List Rn) (z : Int) (ha : RR w w.heap.size B1 a) (hb : RR w w.heap.size B2 b) (h1 : a.length = n1) (h2 : b.length = n2) (l1 : n1 < 1073741824) (l2 : n2 < 1073741824) (e1 : B1 = none → c1 = 0) (e2 : B2 = none → c2 = 0)
    (o1 : (a.all fun x => decide (0 ≤ x.1) && decide (x.1 < 4294967296) && decide (0 ≤ x.2.1) && decide (x.2.1 < 256) && decide (-9223372036854775808 ≤ x.2.2) && decide (x.2.2 ≤ 9223372036854775807)) = true)
    (o2 : (b.all fun x => decide (0 ≤ x.1) && decide (x.1 < 4294967296) && decide (0 ≤ x.2.1) && decide (x.2.1 < 256) && decide (-9223372036854775808 ≤ x.2.2) && decide (x.2.2 ≤ 9223372036854775807)) = true) (hz : cmpR a b = z) :
    Calls Try.prog 41 #[.slice B1 n1 c1, .slice B2 n2 c2] w fun e w' => e = .returned (.int .i64 z) ∧ Below w.heap.size w w' := by
  subst hz
  exact pcompare_any B1 B2 n1 n2 c1 c2 a b w ha hb h1 h2 l1 l2 e1 e2 (okR_dec o1) (okR_dec o2)

set_option maxHeartbeats 3200000 in
set_option maxRecDepth 100000 in
theorem palive_ok (w : World) : Calls Try.prog 48 #[] w fun e w' => e = .returned (.bool true) ∧ Below w.heap.size w w' := by
  go_enter Try.func48, Try.ntmps48
  go_wp2_with fail
  refine (prun_ok 1 0 2 _).mono ?_
  rintro e w1 ⟨rfl, hb1⟩
  have hbw := hb1
  clear hb1
  go_wp2_with fail
  refine (pof_ok _ _ _ _).mono ?_
  rintro e w2 ⟨rfl, hb2⟩
  have hn2 := RR.below' (RR.new w1 #[.int .u32 1, .int .u8 0, .int .i64 2] 41 [(1, 0, 2)] rfl) hb2
  have hb2 := fresh (boxed w1 (.cells #[.int .u32 1, .int .u8 0, .int .i64 2] 41)) hb2
  replace hbw := fresh hbw hb2
  have hra := hn2
  clear hn2 hb2
  go_wp2_with fail
  refine (punder_any _ _ _ [(1, 0, 2)] 3 0 _ hra rfl (by decide) (fun h => by cases h) (okR_dec (by decide)) (by decide) (by decide) (by decide) (by decide)).mono ?_
  rw [show underR [(1, 0, 2)] 3 0 = ([(1, 0, 3)], 0) from by decide]
  rintro e w3 ⟨A3, c3, g3, rfl, S3, hA3, hb3⟩
  replace hra := RR.below' hra hb3
  replace hbw := fresh hbw hb3
  have hru : RR w3 w3.heap.size A3 [(1, 0, 3)] := SB.rr S3
  clear S3 hb3
  clear hra
  go_wp2_with fail
  refine (prun_ok 1 0 2 _).mono ?_
  rintro e w4 ⟨rfl, hb4⟩
  replace hru := RR.below' hru hb4
  replace hbw := fresh hbw hb4
  clear hb4
  go_wp2_with fail
  refine (pof_ok _ _ _ _).mono ?_
  rintro e w5 ⟨rfl, hb5⟩
  have hn5 := RR.below' (RR.new w4 #[.int .u32 1, .int .u8 0, .int .i64 2] 41 [(1, 0, 2)] rfl) hb5
  have hb5 := fresh (boxed w4 (.cells #[.int .u32 1, .int .u8 0, .int .i64 2] 41)) hb5
  replace hru := RR.below' hru hb5
  replace hbw := fresh hbw hb5
  have hrb := hn5
  clear hn5 hb5
  go_wp2_with fail
  refine (prun_ok 1 0 3 _).mono ?_
  rintro e w6 ⟨rfl, hb6⟩
  replace hru := RR.below' hru hb6
  replace hrb := RR.below' hrb hb6
  replace hbw := fresh hbw hb6
  clear hb6
  go_wp2_with fail
  refine (pof_ok _ _ _ _).mono ?_
  rintro e w7 ⟨rfl, hb7⟩
  have hn7 := RR.below' (RR.new w6 #[.int .u32 1, .int .u8 0, .int .i64 3] 41 [(1, 0, 3)] rfl) hb7
  have hb7 := fresh (boxed w6 (.cells #[.int .u32 1, .int .u8 0, .int .i64 3] 41)) hb7
  replace hru := RR.below' hru hb7
  replace hrb := RR.below' hrb hb7
  replace hbw := fresh hbw hb7
  have hrc := hn7
  clear hn7 hb7
  go_wp2_with fail
  refine (cmp_new _ _ _ _ _ _ _ [(1, 0, 2)] [(1, 0, 3)] (-1) hrb hrc rfl rfl (by decide) (by decide) (fun h => by cases h) (fun h => by cases h) (by decide) (by decide) (by decide)).mono ?_
  rintro e w8 ⟨rfl, hb8⟩
  replace hru := RR.below' hru hb8
  replace hrb := RR.below' hrb hb8
  replace hrc := RR.below' hrc hb8
  replace hbw := fresh hbw hb8
  clear hb8
  clear hrb hrc
  go_wp2_with fail
  refine (prun_ok 1 0 1 _).mono ?_
  rintro e w9 ⟨rfl, hb9⟩
  replace hru := RR.below' hru hb9
  replace hbw := fresh hbw hb9
  clear hb9
  go_wp2_with fail
  refine (prun_ok 5 0 1 _).mono ?_
  rintro e w10 ⟨rfl, hb10⟩
  replace hru := RR.below' hru hb10
  replace hbw := fresh hbw hb10
  clear hb10
  go_wp2_with fail
  refine (pof_ok _ _ _ _).mono ?_
  rintro e w11 ⟨rfl, hb11⟩
  have hn11 := RR.below' (RR.new w10 #[.int .u32 1, .int .u8 0, .int .i64 1, .int .u32 5, .int .u8 0, .int .i64 1] 41 [(1, 0, 1), (5, 0, 1)] rfl) hb11
  have hb11 := fresh (boxed w10 (.cells #[.int .u32 1, .int .u8 0, .int .i64 1, .int .u32 5, .int .u8 0, .int .i64 1] 41)) hb11
  replace hru := RR.below' hru hb11
  replace hbw := fresh hbw hb11
  have hrd := hn11
  clear hn11 hb11
  go_wp2_with fail
  refine (prun_ok 1 0 1 _).mono ?_
  rintro e w12 ⟨rfl, hb12⟩
  replace hru := RR.below' hru hb12
  replace hrd := RR.below' hrd hb12
  replace hbw := fresh hbw hb12
  clear hb12
  go_wp2_with fail
  refine (prun_ok 4 1 1 _).mono ?_
  rintro e w13 ⟨rfl, hb13⟩
  replace hru := RR.below' hru hb13
  replace hrd := RR.below' hrd hb13
  replace hbw := fresh hbw hb13
  clear hb13
  go_wp2_with fail
  refine (pof_ok _ _ _ _).mono ?_
  rintro e w14 ⟨rfl, hb14⟩
  have hn14 := RR.below' (RR.new w13 #[.int .u32 1, .int .u8 0, .int .i64 1, .int .u32 4, .int .u8 1, .int .i64 1] 41 [(1, 0, 1), (4, 1, 1)] rfl) hb14
  have hb14 := fresh (boxed w13 (.cells #[.int .u32 1, .int .u8 0, .int .i64 1, .int .u32 4, .int .u8 1, .int .i64 1] 41)) hb14
  replace hru := RR.below' hru hb14
  replace hrd := RR.below' hrd hb14
  replace hbw := fresh hbw hb14
  have hrf := hn14
  clear hn14 hb14
  go_wp2_with fail
  refine (cmp_new _ _ _ _ _ _ _ [(1, 0, 1), (5, 0, 1)] [(1, 0, 1), (4, 1, 1)] (-1) hrd hrf rfl rfl (by decide) (by decide) (fun h => by cases h) (fun h => by cases h) (by decide) (by decide) (by decide)).mono ?_
  rintro e w15 ⟨rfl, hb15⟩
  replace hru := RR.below' hru hb15
  replace hrd := RR.below' hrd hb15
  replace hrf := RR.below' hrf hb15
  replace hbw := fresh hbw hb15
  clear hb15
  clear hrd hrf
  go_wp2_with fail
  refine (prun_ok 1 0 3 _).mono ?_
  rintro e w16 ⟨rfl, hb16⟩
  replace hru := RR.below' hru hb16
  replace hbw := fresh hbw hb16
  clear hb16
  go_wp2_with fail
  refine (pof_ok _ _ _ _).mono ?_
  rintro e w17 ⟨rfl, hb17⟩
  have hn17 := RR.below' (RR.new w16 #[.int .u32 1, .int .u8 0, .int .i64 3] 41 [(1, 0, 3)] rfl) hb17
  have hb17 := fresh (boxed w16 (.cells #[.int .u32 1, .int .u8 0, .int .i64 3] 41)) hb17
  replace hru := RR.below' hru hb17
  replace hbw := fresh hbw hb17
  have hrh := hn17
  clear hn17 hb17
  go_wp2_with fail
  refine (refsame_any _ _ _ _ _ _ [(1, 0, 3)] [(1, 0, 3)] _ hru hrh rfl rfl (by decide) (by decide)).mono ?_
  rintro e w18 ⟨rfl, hb18⟩
  replace hru := RR.below' hru hb18
  replace hrh := RR.below' hrh hb18
  replace hbw := fresh hbw hb18
  rw [show decide (([(1, 0, 3)] : List Rn) = [(1, 0, 3)]) = true from by decide]
  go_wp2_with fail
  go_ret
  exact ⟨rfl, hbw⟩
end Go.Proofs.Ytbjfmkdjnglgbaa
