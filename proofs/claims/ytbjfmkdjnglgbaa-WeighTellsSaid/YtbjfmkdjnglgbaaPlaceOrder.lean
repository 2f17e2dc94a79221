/-
  PlaceOrder. No condition.
-/
import Derived.Test.YtbjfmkdjnglgbaaPlaceAlive
namespace Go.Proofs.Ytbjfmkdjnglgbaa
open Go.RowKit

theorem any_chain {p : List Rn} (h : anyR p) : chainR p := by
  rcases h with rfl | h
  · trivial
  · exact h.2.2.1
theorem cmpR_any {a b : List Rn} (ha : anyR a) (hb : anyR b) : cmpR a b = cmpS (allR a) (allR b) := if_pos ⟨ha, hb⟩
theorem cmpR_swap (a b : List Rn) : cmpR b a = - cmpR a b := by
  unfold cmpR
  by_cases h : anyR a ∧ anyR b
  · rw [if_pos h, if_pos ⟨h.2, h.1⟩, cmpS_neg]
  · rw [if_neg h, if_neg (fun g => h ⟨g.2, g.1⟩)]
    rfl
theorem cmpR_zero {a b : List Rn} (ha : anyR a) (hb : anyR b) : cmpR a b = 0 ↔ a = b := by
  rw [cmpR_any ha hb]
  constructor
  · intro h
    exact allR_inj (any_chain ha) (any_chain hb) (cmpS_zero h)
  · intro h
    rw [h, cmpS_self]
theorem cmpR_trans {a b c : List Rn} (ha : anyR a) (hb : anyR b) (hc : anyR c) (h1 : cmpR a b = -1) (h2 : cmpR b c < 0) : cmpR a c = -1 := by
  rw [cmpR_any ha hb] at h1
  rw [cmpR_any hb hc] at h2
  rw [cmpR_any ha hc]
  have h3 := cmpS_trans (by omega : cmpS (allR a) (allR b) < 0) h2
  rcases cmpS_range (allR a) (allR c) with h | h | h <;> omega
theorem cmpR_range (a b : List Rn) : cmpR a b = -1 ∨ cmpR a b = 0 ∨ cmpR a b = 1 := by
  unfold cmpR
  split
  · exact cmpS_range _ _
  · exact .inr (.inl rfl)
theorem cmp_at (A B : Option Addr) (n k c d : Nat) (a b : List Rn) (z : Int) (w : World) (hr : RR w w.heap.size A a) (hs : RR w w.heap.size B b) (hn : a.length = n) (hk : b.length = k) (hl : n < 1073741824) (hm : k < 1073741824)
    (hA : A = none → c = 0) (hB : B = none → d = 0) (ha : ∀ x ∈ a, okR x) (hb : ∀ x ∈ b, okR x) (hz : cmpR a b = z) :
    Calls Try.prog 41 #[.slice A n c, .slice B k d] w fun e w' => e = .returned (.int .i64 z) ∧ Below w.heap.size w w' := by
  subst hz
  exact pcompare_any A B n k c d a b w hr hs hn hk hl hm hA hB ha hb
theorem same_at (A B : Option Addr) (c d n k : Nat) (l m : List Rn) (z : Bool) (w : World) (hr : RR w w.heap.size A l) (hs : RR w w.heap.size B m) (hn : l.length = n) (hk : m.length = k) (hl : n < 1073741824) (hm : k < 1073741824) (hz : decide (l = m) = z) :
    Calls Try.prog 45 #[.slice A n c, .slice B k d] w fun e w' => e = .returned (.bool z) ∧ Below w.heap.size w w' := by
  subst hz
  exact psame_any A B c d n k l m w hr hs hn hk hl hm
theorem lmay_at (A : Option Addr) (n c : Nat) (p : List Rn) (z : Bool) (w : World) (hr : RR w w.heap.size A p) (hn : p.length = n) (hl : n < 1073741824) (hok : ∀ x ∈ p, okR x) (hz : decide (anyR p) = z) :
    Calls Try.prog 49 #[.slice A n c] w fun e w' => e = .returned (.bool z) ∧ Below w.heap.size w w' := by
  subst hz
  exact lmay_any A n c p w hr hn hl hok

set_option maxHeartbeats 6400000 in
set_option maxRecDepth 100000 in
theorem placeOrder_walk (A0 : Option Addr) (c0 : Nat) (l0 : List Rn) (A1 : Option Addr) (c1 : Nat) (l1 : List Rn) (A2 : Option Addr) (c2 : Nat) (l2 : List Rn) (w : World) (hr0 : RR w w.heap.size A0 l0) (hr1 : RR w w.heap.size A1 l1) (hr2 : RR w w.heap.size A2 l2)
    (ok0 : ∀ x ∈ l0, okR x) (ok1 : ∀ x ∈ l1, okR x) (ok2 : ∀ x ∈ l2, okR x) (n0 : A0 = none → c0 = 0) (n1 : A1 = none → c1 = 0) (n2 : A2 = none → c2 = 0) :
    Calls Try.prog 8 #[.slice A0 l0.length c0, .slice A1 l1.length c1, .slice A2 l2.length c2] w fun e w' => e = .returned (.bool true) ∧ Below w.heap.size w w' := by
  have Ok0 := hide ok0
  have Ok1 := hide ok1
  have Ok2 := hide ok2
  have N0 := hide n0
  have N1 := hide n1
  have N2 := hide n2
  clear ok0 ok1 ok2 n0 n1 n2
  by_cases g0 : (100 : Int) < l0.length
  · have b0 := g0
    go_enter Try.func8, Try.ntmps8
    go_wp2_with fail
    refine (palive_ok w).mono ?_
    rintro e w1 ⟨rfl, hb1⟩
    replace hr0 := RR.below' hr0 hb1
    replace hr1 := RR.below' hr1 hb1
    replace hr2 := RR.below' hr2 hb1
    have hbw := hb1
    clear hb1
    go_wp2_with fail
    go_ret
    exact ⟨rfl, hbw⟩
  by_cases g1 : (100 : Int) < l1.length
  · have b1 := g1
    go_enter Try.func8, Try.ntmps8
    go_wp2_with fail
    refine (palive_ok w).mono ?_
    rintro e w1 ⟨rfl, hb1⟩
    replace hr0 := RR.below' hr0 hb1
    replace hr1 := RR.below' hr1 hb1
    replace hr2 := RR.below' hr2 hb1
    have hbw := hb1
    clear hb1
    go_wp2_with fail
    go_ret
    exact ⟨rfl, hbw⟩
  by_cases g2 : (100 : Int) < l2.length
  · have b2 := g2
    go_enter Try.func8, Try.ntmps8
    go_wp2_with fail
    refine (palive_ok w).mono ?_
    rintro e w1 ⟨rfl, hb1⟩
    replace hr0 := RR.below' hr0 hb1
    replace hr1 := RR.below' hr1 hb1
    replace hr2 := RR.below' hr2 hb1
    have hbw := hb1
    clear hb1
    go_wp2_with fail
    go_ret
    exact ⟨rfl, hbw⟩
  by_cases m0 : anyR l0
  rotate_left
  · have d0 := hide (decide_eq_false m0)
    clear m0
    go_enter Try.func8, Try.ntmps8
    go_wp2_with fail
    refine (palive_ok w).mono ?_
    rintro e w1 ⟨rfl, hb1⟩
    replace hr0 := RR.below' hr0 hb1
    replace hr1 := RR.below' hr1 hb1
    replace hr2 := RR.below' hr2 hb1
    have hbw := hb1
    clear hb1
    go_wp2_with fail
    refine (lmay_at A0 _ c0 l0 _ _ hr0 rfl (by omega) Ok0.out d0.out).mono ?_
    rintro e w2 ⟨rfl, hb2⟩
    replace hr0 := RR.below' hr0 hb2
    replace hr1 := RR.below' hr1 hb2
    replace hr2 := RR.below' hr2 hb2
    replace hbw := fresh hbw hb2
    clear hb2
    go_wp2_with fail
    go_ret
    exact ⟨rfl, hbw⟩
  have D0 := hide (decide_eq_true m0)
  by_cases m1 : anyR l1
  rotate_left
  · have d1 := hide (decide_eq_false m1)
    clear m1 m0
    go_enter Try.func8, Try.ntmps8
    go_wp2_with fail
    refine (palive_ok w).mono ?_
    rintro e w1 ⟨rfl, hb1⟩
    replace hr0 := RR.below' hr0 hb1
    replace hr1 := RR.below' hr1 hb1
    replace hr2 := RR.below' hr2 hb1
    have hbw := hb1
    clear hb1
    go_wp2_with fail
    refine (lmay_at A0 _ c0 l0 _ _ hr0 rfl (by omega) Ok0.out D0.out).mono ?_
    rintro e w2 ⟨rfl, hb2⟩
    replace hr0 := RR.below' hr0 hb2
    replace hr1 := RR.below' hr1 hb2
    replace hr2 := RR.below' hr2 hb2
    replace hbw := fresh hbw hb2
    clear hb2
    go_wp2_with fail
    refine (lmay_at A1 _ c1 l1 _ _ hr1 rfl (by omega) Ok1.out d1.out).mono ?_
    rintro e w3 ⟨rfl, hb3⟩
    replace hr0 := RR.below' hr0 hb3
    replace hr1 := RR.below' hr1 hb3
    replace hr2 := RR.below' hr2 hb3
    replace hbw := fresh hbw hb3
    clear hb3
    go_wp2_with fail
    go_ret
    exact ⟨rfl, hbw⟩
  have D1 := hide (decide_eq_true m1)
  by_cases m2 : anyR l2
  rotate_left
  · have d2 := hide (decide_eq_false m2)
    clear m2 m0 m1
    go_enter Try.func8, Try.ntmps8
    go_wp2_with fail
    refine (palive_ok w).mono ?_
    rintro e w1 ⟨rfl, hb1⟩
    replace hr0 := RR.below' hr0 hb1
    replace hr1 := RR.below' hr1 hb1
    replace hr2 := RR.below' hr2 hb1
    have hbw := hb1
    clear hb1
    go_wp2_with fail
    refine (lmay_at A0 _ c0 l0 _ _ hr0 rfl (by omega) Ok0.out D0.out).mono ?_
    rintro e w2 ⟨rfl, hb2⟩
    replace hr0 := RR.below' hr0 hb2
    replace hr1 := RR.below' hr1 hb2
    replace hr2 := RR.below' hr2 hb2
    replace hbw := fresh hbw hb2
    clear hb2
    go_wp2_with fail
    refine (lmay_at A1 _ c1 l1 _ _ hr1 rfl (by omega) Ok1.out D1.out).mono ?_
    rintro e w3 ⟨rfl, hb3⟩
    replace hr0 := RR.below' hr0 hb3
    replace hr1 := RR.below' hr1 hb3
    replace hr2 := RR.below' hr2 hb3
    replace hbw := fresh hbw hb3
    clear hb3
    go_wp2_with fail
    refine (lmay_at A2 _ c2 l2 _ _ hr2 rfl (by omega) Ok2.out d2.out).mono ?_
    rintro e w4 ⟨rfl, hb4⟩
    replace hr0 := RR.below' hr0 hb4
    replace hr1 := RR.below' hr1 hb4
    replace hr2 := RR.below' hr2 hb4
    replace hbw := fresh hbw hb4
    clear hb4
    go_wp2_with fail
    go_ret
    exact ⟨rfl, hbw⟩
  have D2 := hide (decide_eq_true m2)
  have S := hide (cmpR_swap l0 l1)
  have Z := hide (cmpR_zero m0 m1)
  have T := hide (fun h1 h2 => cmpR_trans (c := l2) m0 m1 m2 h1 h2)
  clear m0 m1 m2
  rcases cmpR_range l0 l1 with h | h | h
  · by_cases hy : cmpR l1 l2 < 0
    · have V := hide (T.out h hy)
      have hy1 : cmpR l1 l2 = -1 := by rcases cmpR_range l1 l2 with g | g | g <;> omega
      have U := hide hy1
      have X := hide h
      have Y := hide (show cmpR l1 l0 = 1 by have s := S.out; rw [h] at s; omega)
      have E := hide (decide_eq_false (fun e => by have := Z.out.2 e; omega : ¬ l0 = l1))
      clear h hy hy1
      go_enter Try.func8, Try.ntmps8
      go_wp2_with fail
      refine (palive_ok w).mono ?_
      rintro e w1 ⟨rfl, hb1⟩
      replace hr0 := RR.below' hr0 hb1
      replace hr1 := RR.below' hr1 hb1
      replace hr2 := RR.below' hr2 hb1
      have hbw := hb1
      clear hb1
      go_wp2_with fail
      refine (lmay_at A0 _ c0 l0 _ _ hr0 rfl (by omega) Ok0.out D0.out).mono ?_
      rintro e w2 ⟨rfl, hb2⟩
      replace hr0 := RR.below' hr0 hb2
      replace hr1 := RR.below' hr1 hb2
      replace hr2 := RR.below' hr2 hb2
      replace hbw := fresh hbw hb2
      clear hb2
      go_wp2_with fail
      refine (lmay_at A1 _ c1 l1 _ _ hr1 rfl (by omega) Ok1.out D1.out).mono ?_
      rintro e w3 ⟨rfl, hb3⟩
      replace hr0 := RR.below' hr0 hb3
      replace hr1 := RR.below' hr1 hb3
      replace hr2 := RR.below' hr2 hb3
      replace hbw := fresh hbw hb3
      clear hb3
      go_wp2_with fail
      refine (lmay_at A2 _ c2 l2 _ _ hr2 rfl (by omega) Ok2.out D2.out).mono ?_
      rintro e w4 ⟨rfl, hb4⟩
      replace hr0 := RR.below' hr0 hb4
      replace hr1 := RR.below' hr1 hb4
      replace hr2 := RR.below' hr2 hb4
      replace hbw := fresh hbw hb4
      clear hb4
      go_wp2_with fail
      refine (cmp_at A0 A1 _ _ c0 c1 l0 l1 _ _ hr0 hr1 rfl rfl (by omega) (by omega) N0.out N1.out Ok0.out Ok1.out X.out).mono ?_
      rintro e w5 ⟨rfl, hb5⟩
      replace hr0 := RR.below' hr0 hb5
      replace hr1 := RR.below' hr1 hb5
      replace hr2 := RR.below' hr2 hb5
      replace hbw := fresh hbw hb5
      clear hb5
      go_wp2_with fail
      refine (cmp_at A1 A0 _ _ c1 c0 l1 l0 _ _ hr1 hr0 rfl rfl (by omega) (by omega) N1.out N0.out Ok1.out Ok0.out Y.out).mono ?_
      rintro e w6 ⟨rfl, hb6⟩
      replace hr0 := RR.below' hr0 hb6
      replace hr1 := RR.below' hr1 hb6
      replace hr2 := RR.below' hr2 hb6
      replace hbw := fresh hbw hb6
      clear hb6
      go_wp2_with fail
      refine (same_at A0 A1 c0 c1 _ _ l0 l1 _ _ hr0 hr1 rfl rfl (by omega) (by omega) E.out).mono ?_
      rintro e w7 ⟨rfl, hb7⟩
      replace hr0 := RR.below' hr0 hb7
      replace hr1 := RR.below' hr1 hb7
      replace hr2 := RR.below' hr2 hb7
      replace hbw := fresh hbw hb7
      clear hb7
      go_wp2_with fail
      refine (cmp_at A1 A2 _ _ c1 c2 l1 l2 _ _ hr1 hr2 rfl rfl (by omega) (by omega) N1.out N2.out Ok1.out Ok2.out U.out).mono ?_
      rintro e w8 ⟨rfl, hb8⟩
      replace hr0 := RR.below' hr0 hb8
      replace hr1 := RR.below' hr1 hb8
      replace hr2 := RR.below' hr2 hb8
      replace hbw := fresh hbw hb8
      clear hb8
      go_wp2_with fail
      refine (cmp_at A0 A2 _ _ c0 c2 l0 l2 _ _ hr0 hr2 rfl rfl (by omega) (by omega) N0.out N2.out Ok0.out Ok2.out V.out).mono ?_
      rintro e w9 ⟨rfl, hb9⟩
      replace hr0 := RR.below' hr0 hb9
      replace hr1 := RR.below' hr1 hb9
      replace hr2 := RR.below' hr2 hb9
      replace hbw := fresh hbw hb9
      clear hb9
      go_wp2_with fail
      go_ret
      exact ⟨rfl, hbw⟩
    · obtain ⟨y, hy1⟩ : ∃ y, cmpR l1 l2 = y := ⟨_, rfl⟩
      have hy2 : 0 ≤ y := by omega
      have U := hide hy1
      have X := hide h
      have Y := hide (show cmpR l1 l0 = 1 by have s := S.out; rw [h] at s; omega)
      have E := hide (decide_eq_false (fun e => by have := Z.out.2 e; omega : ¬ l0 = l1))
      clear h hy hy1
      go_enter Try.func8, Try.ntmps8
      go_wp2_with fail
      refine (palive_ok w).mono ?_
      rintro e w1 ⟨rfl, hb1⟩
      replace hr0 := RR.below' hr0 hb1
      replace hr1 := RR.below' hr1 hb1
      replace hr2 := RR.below' hr2 hb1
      have hbw := hb1
      clear hb1
      go_wp2_with fail
      refine (lmay_at A0 _ c0 l0 _ _ hr0 rfl (by omega) Ok0.out D0.out).mono ?_
      rintro e w2 ⟨rfl, hb2⟩
      replace hr0 := RR.below' hr0 hb2
      replace hr1 := RR.below' hr1 hb2
      replace hr2 := RR.below' hr2 hb2
      replace hbw := fresh hbw hb2
      clear hb2
      go_wp2_with fail
      refine (lmay_at A1 _ c1 l1 _ _ hr1 rfl (by omega) Ok1.out D1.out).mono ?_
      rintro e w3 ⟨rfl, hb3⟩
      replace hr0 := RR.below' hr0 hb3
      replace hr1 := RR.below' hr1 hb3
      replace hr2 := RR.below' hr2 hb3
      replace hbw := fresh hbw hb3
      clear hb3
      go_wp2_with fail
      refine (lmay_at A2 _ c2 l2 _ _ hr2 rfl (by omega) Ok2.out D2.out).mono ?_
      rintro e w4 ⟨rfl, hb4⟩
      replace hr0 := RR.below' hr0 hb4
      replace hr1 := RR.below' hr1 hb4
      replace hr2 := RR.below' hr2 hb4
      replace hbw := fresh hbw hb4
      clear hb4
      go_wp2_with fail
      refine (cmp_at A0 A1 _ _ c0 c1 l0 l1 _ _ hr0 hr1 rfl rfl (by omega) (by omega) N0.out N1.out Ok0.out Ok1.out X.out).mono ?_
      rintro e w5 ⟨rfl, hb5⟩
      replace hr0 := RR.below' hr0 hb5
      replace hr1 := RR.below' hr1 hb5
      replace hr2 := RR.below' hr2 hb5
      replace hbw := fresh hbw hb5
      clear hb5
      go_wp2_with fail
      refine (cmp_at A1 A0 _ _ c1 c0 l1 l0 _ _ hr1 hr0 rfl rfl (by omega) (by omega) N1.out N0.out Ok1.out Ok0.out Y.out).mono ?_
      rintro e w6 ⟨rfl, hb6⟩
      replace hr0 := RR.below' hr0 hb6
      replace hr1 := RR.below' hr1 hb6
      replace hr2 := RR.below' hr2 hb6
      replace hbw := fresh hbw hb6
      clear hb6
      go_wp2_with fail
      refine (same_at A0 A1 c0 c1 _ _ l0 l1 _ _ hr0 hr1 rfl rfl (by omega) (by omega) E.out).mono ?_
      rintro e w7 ⟨rfl, hb7⟩
      replace hr0 := RR.below' hr0 hb7
      replace hr1 := RR.below' hr1 hb7
      replace hr2 := RR.below' hr2 hb7
      replace hbw := fresh hbw hb7
      clear hb7
      go_wp2_with fail
      refine (cmp_at A1 A2 _ _ c1 c2 l1 l2 _ _ hr1 hr2 rfl rfl (by omega) (by omega) N1.out N2.out Ok1.out Ok2.out U.out).mono ?_
      rintro e w8 ⟨rfl, hb8⟩
      replace hr0 := RR.below' hr0 hb8
      replace hr1 := RR.below' hr1 hb8
      replace hr2 := RR.below' hr2 hb8
      replace hbw := fresh hbw hb8
      clear hb8
      go_wp2_with fail
      go_ret
      exact ⟨rfl, hbw⟩
  · have V := S
    have X := hide h
    have Y := hide (show cmpR l1 l0 = 0 by have s := S.out; rw [h] at s; omega)
    have E := hide (decide_eq_true (Z.out.1 h))
    clear h
    go_enter Try.func8, Try.ntmps8
    go_wp2_with fail
    refine (palive_ok w).mono ?_
    rintro e w1 ⟨rfl, hb1⟩
    replace hr0 := RR.below' hr0 hb1
    replace hr1 := RR.below' hr1 hb1
    replace hr2 := RR.below' hr2 hb1
    have hbw := hb1
    clear hb1
    go_wp2_with fail
    refine (lmay_at A0 _ c0 l0 _ _ hr0 rfl (by omega) Ok0.out D0.out).mono ?_
    rintro e w2 ⟨rfl, hb2⟩
    replace hr0 := RR.below' hr0 hb2
    replace hr1 := RR.below' hr1 hb2
    replace hr2 := RR.below' hr2 hb2
    replace hbw := fresh hbw hb2
    clear hb2
    go_wp2_with fail
    refine (lmay_at A1 _ c1 l1 _ _ hr1 rfl (by omega) Ok1.out D1.out).mono ?_
    rintro e w3 ⟨rfl, hb3⟩
    replace hr0 := RR.below' hr0 hb3
    replace hr1 := RR.below' hr1 hb3
    replace hr2 := RR.below' hr2 hb3
    replace hbw := fresh hbw hb3
    clear hb3
    go_wp2_with fail
    refine (lmay_at A2 _ c2 l2 _ _ hr2 rfl (by omega) Ok2.out D2.out).mono ?_
    rintro e w4 ⟨rfl, hb4⟩
    replace hr0 := RR.below' hr0 hb4
    replace hr1 := RR.below' hr1 hb4
    replace hr2 := RR.below' hr2 hb4
    replace hbw := fresh hbw hb4
    clear hb4
    go_wp2_with fail
    refine (cmp_at A0 A1 _ _ c0 c1 l0 l1 _ _ hr0 hr1 rfl rfl (by omega) (by omega) N0.out N1.out Ok0.out Ok1.out X.out).mono ?_
    rintro e w5 ⟨rfl, hb5⟩
    replace hr0 := RR.below' hr0 hb5
    replace hr1 := RR.below' hr1 hb5
    replace hr2 := RR.below' hr2 hb5
    replace hbw := fresh hbw hb5
    clear hb5
    go_wp2_with fail
    refine (cmp_at A1 A0 _ _ c1 c0 l1 l0 _ _ hr1 hr0 rfl rfl (by omega) (by omega) N1.out N0.out Ok1.out Ok0.out Y.out).mono ?_
    rintro e w6 ⟨rfl, hb6⟩
    replace hr0 := RR.below' hr0 hb6
    replace hr1 := RR.below' hr1 hb6
    replace hr2 := RR.below' hr2 hb6
    replace hbw := fresh hbw hb6
    clear hb6
    go_wp2_with fail
    refine (same_at A0 A1 c0 c1 _ _ l0 l1 _ _ hr0 hr1 rfl rfl (by omega) (by omega) E.out).mono ?_
    rintro e w7 ⟨rfl, hb7⟩
    replace hr0 := RR.below' hr0 hb7
    replace hr1 := RR.below' hr1 hb7
    replace hr2 := RR.below' hr2 hb7
    replace hbw := fresh hbw hb7
    clear hb7
    go_wp2_with fail
    go_ret
    exact ⟨rfl, hbw⟩
  · have V := S
    have X := hide h
    have Y := hide (show cmpR l1 l0 = -1 by have s := S.out; rw [h] at s; omega)
    have E := hide (decide_eq_false (fun e => by have := Z.out.2 e; omega : ¬ l0 = l1))
    clear h
    go_enter Try.func8, Try.ntmps8
    go_wp2_with fail
    refine (palive_ok w).mono ?_
    rintro e w1 ⟨rfl, hb1⟩
    replace hr0 := RR.below' hr0 hb1
    replace hr1 := RR.below' hr1 hb1
    replace hr2 := RR.below' hr2 hb1
    have hbw := hb1
    clear hb1
    go_wp2_with fail
    refine (lmay_at A0 _ c0 l0 _ _ hr0 rfl (by omega) Ok0.out D0.out).mono ?_
    rintro e w2 ⟨rfl, hb2⟩
    replace hr0 := RR.below' hr0 hb2
    replace hr1 := RR.below' hr1 hb2
    replace hr2 := RR.below' hr2 hb2
    replace hbw := fresh hbw hb2
    clear hb2
    go_wp2_with fail
    refine (lmay_at A1 _ c1 l1 _ _ hr1 rfl (by omega) Ok1.out D1.out).mono ?_
    rintro e w3 ⟨rfl, hb3⟩
    replace hr0 := RR.below' hr0 hb3
    replace hr1 := RR.below' hr1 hb3
    replace hr2 := RR.below' hr2 hb3
    replace hbw := fresh hbw hb3
    clear hb3
    go_wp2_with fail
    refine (lmay_at A2 _ c2 l2 _ _ hr2 rfl (by omega) Ok2.out D2.out).mono ?_
    rintro e w4 ⟨rfl, hb4⟩
    replace hr0 := RR.below' hr0 hb4
    replace hr1 := RR.below' hr1 hb4
    replace hr2 := RR.below' hr2 hb4
    replace hbw := fresh hbw hb4
    clear hb4
    go_wp2_with fail
    refine (cmp_at A0 A1 _ _ c0 c1 l0 l1 _ _ hr0 hr1 rfl rfl (by omega) (by omega) N0.out N1.out Ok0.out Ok1.out X.out).mono ?_
    rintro e w5 ⟨rfl, hb5⟩
    replace hr0 := RR.below' hr0 hb5
    replace hr1 := RR.below' hr1 hb5
    replace hr2 := RR.below' hr2 hb5
    replace hbw := fresh hbw hb5
    clear hb5
    go_wp2_with fail
    refine (cmp_at A1 A0 _ _ c1 c0 l1 l0 _ _ hr1 hr0 rfl rfl (by omega) (by omega) N1.out N0.out Ok1.out Ok0.out Y.out).mono ?_
    rintro e w6 ⟨rfl, hb6⟩
    replace hr0 := RR.below' hr0 hb6
    replace hr1 := RR.below' hr1 hb6
    replace hr2 := RR.below' hr2 hb6
    replace hbw := fresh hbw hb6
    clear hb6
    go_wp2_with fail
    refine (same_at A0 A1 c0 c1 _ _ l0 l1 _ _ hr0 hr1 rfl rfl (by omega) (by omega) E.out).mono ?_
    rintro e w7 ⟨rfl, hb7⟩
    replace hr0 := RR.below' hr0 hb7
    replace hr1 := RR.below' hr1 hb7
    replace hr2 := RR.below' hr2 hb7
    replace hbw := fresh hbw hb7
    clear hb7
    go_wp2_with fail
    go_ret
    exact ⟨rfl, hbw⟩
end Go.Proofs.Ytbjfmkdjnglgbaa
