/-
  What place.Begins does. Condition: fewer than 2^30 runs, whose parts are of their types.
-/
import Derived.Test.YtbjfmkdjnglgbaaPlaceCompare
namespace Go.Proofs.Ytbjfmkdjnglgbaa
open Go.RowKit

theorem pre_pre (c a b : List Id2) : (c ++ a).isPrefixOf (c ++ b) = a.isPrefixOf b := by
  induction c with
  | nil => rfl
  | cons x c ih => simp [ih]
theorem part_pre {a b a' b' : List Rn} (h : partRel a b a' b') : (allR a).isPrefixOf (allR b) = (allR a').isPrefixOf (allR b') := by
  obtain ⟨⟨c, h1, h2⟩, -, -⟩ := h
  rw [h1, h2, pre_pre]
theorem beg_nil {a b b' : List Rn} (h : partRel a b [] b') : (allR a).isPrefixOf (allR b) = true := by
  rw [part_pre h]
  rfl
theorem beg_cons {a b a' b' : List Rn} {x : Rn} (h : partRel a b (x :: a') b') (hp : parted (x :: a') b') : (allR a).isPrefixOf (allR b) = false := by
  rw [part_pre h]
  obtain ⟨r, hr⟩ := allR_head x a' (h.2.1 x List.mem_cons_self).1
  rw [hr]
  cases b' with
  | nil => rfl
  | cons y b' =>
    obtain ⟨s, hs⟩ := allR_head y b' (h.2.2 y List.mem_cons_self).1
    rw [hs, List.isPrefixOf_cons_cons]
    have : ((x.1, x.2.1) == (y.1, y.2.1)) = false := by
      rw [beq_eq_false_iff_ne]
      intro e
      simp only [Prod.mk.injEq] at e
      exact hp e
    rw [this]
    rfl

set_option maxHeartbeats 1600000 in
set_option maxRecDepth 100000 in
theorem pbegins_any (A B : Option Addr) (n k c d : Nat) (a b : List Rn) (w : World) (hr : RR w w.heap.size A a) (hs : RR w w.heap.size B b) (hn : a.length = n) (hk : b.length = k) (hl : n < 1073741824) (hm : k < 1073741824)
    (hA : A = none → c = 0) (hB : B = none → d = 0) (ha : ∀ x ∈ a, okR x) (hb : ∀ x ∈ b, okR x) :
    Calls Try.prog 43 #[.slice A n c, .slice B k d] w fun e w' => e = .returned (.bool (begR a b)) ∧ Below w.heap.size w w' := by
  have M1 := hide (fun w h => pmay_any A n c a w h hn hl ha)
  have M2 := hide (fun w h => pmay_any B k d b w h hk hm hb)
  by_cases h1 : anyR a
  · by_cases h2 : anyR b
    · have P := hide (fun w h h' => part_ok A B n k c d a b w h h' hn hk hl hm hA hB (fun x hx => ⟨any_one h1 x hx, ha x hx⟩) (fun x hx => ⟨any_one h2 x hx, hb x hx⟩))
      have hfin := hide (show begR a b = (allR a).isPrefixOf (allR b) by
        unfold begR
        cases (allR a).isPrefixOf (allR b) <;> simp [h1, h2])
      have d1 := hide (decide_eq_true h1)
      have d2 := hide (decide_eq_true h2)
      clear hn hk hA hB ha hb h1 h2
      go_enter Try.func43, Try.ntmps43
      go_wp2_with fail
      refine (unhide M1 w hr).mono ?_
      rintro e w1 ⟨rfl, hb1⟩
      rw [d1.out]
      have hr1 := RR.below' hr hb1
      have hs1 := RR.below' hs hb1
      go_wp2_with fail
      refine (unhide M2 w1 hs1).mono ?_
      rintro e w2 ⟨rfl, hb2⟩
      rw [d2.out]
      have hr2 := RR.below' hr1 hb2
      have hs2 := RR.below' hs1 hb2
      have hbw2 := fresh hb1 hb2
      clear hr hs hr1 hs1
      go_wp2_with fail
      refine (unhide P w2 hr2 hs2).mono ?_
      rintro e w3 ⟨A', B', c', d', a', b', rfl, hr3, hs3, hrel, hpart, hb3⟩
      have Hrel := hide hrel
      have Hpart := hide hpart
      have hbw3 := fresh hbw2 hb3
      clear hrel hpart hr2 hs2
      cases a' with
      | nil =>
        go_wp2_with fail
        go_ret
        exact ⟨ret_bool (by rw [hfin.out, beg_nil Hrel.out]), hbw3⟩
      | cons x a' =>
        have hz1 : ((a'.length : Int) + 1 == 0) = false := by simp; omega
        go_wp2_with fail
        go_ret
        exact ⟨ret_bool (by rw [hfin.out, beg_cons Hrel.out Hpart.out]), hbw3⟩
    · have hfin := hide (show begR a b = false from decide_eq_false (fun h => h2 h.2.1))
      have d1 := hide (decide_eq_true h1)
      have d2 := hide (decide_eq_false h2)
      clear hn hk hA hB ha hb h1 h2
      go_enter Try.func43, Try.ntmps43
      go_wp2_with fail
      refine (unhide M1 w hr).mono ?_
      rintro e w1 ⟨rfl, hb1⟩
      rw [d1.out]
      have hs1 := RR.below' hs hb1
      go_wp2_with fail
      refine (unhide M2 w1 hs1).mono ?_
      rintro e w2 ⟨rfl, hb2⟩
      rw [d2.out]
      go_wp2_with fail
      go_ret
      exact ⟨ret_bool hfin.out.symm, fresh hb1 hb2⟩
  · have hfin := hide (show begR a b = false from decide_eq_false (fun h => h1 h.1))
    have d1 := hide (decide_eq_false h1)
    clear hn hk hA hB ha hb h1
    go_enter Try.func43, Try.ntmps43
    go_wp2_with fail
    refine (unhide M1 w hr).mono ?_
    rintro e w1 ⟨rfl, hb1⟩
    rw [d1.out]
    go_wp2_with fail
    go_ret
    exact ⟨ret_bool hfin.out.symm, hb1⟩
end Go.Proofs.Ytbjfmkdjnglgbaa
