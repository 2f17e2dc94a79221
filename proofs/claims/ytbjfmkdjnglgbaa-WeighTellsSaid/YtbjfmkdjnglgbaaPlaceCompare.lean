/-
  What place.Compare and place.Begins do. Condition: fewer than 2^30 runs, whose parts are of their types.
-/
import Derived.Test.YtbjfmkdjnglgbaaPlacePart
namespace Go.Proofs.Ytbjfmkdjnglgbaa
open Go.RowKit

/-- What Compare answers. -/
def cmpR (a b : List Rn) : Int := if anyR a ∧ anyR b then cmpS (allR a) (allR b) else 0
/-- Begins one place another one? -/
def begR (a b : List Rn) : Bool := decide (anyR a ∧ anyR b ∧ (allR a).isPrefixOf (allR b) = true)

theorem any_one {p : List Rn} (h : anyR p) : ∀ x ∈ p, oneR x := by
  rcases h with rfl | h
  · intro x hx; cases hx
  · exact chainR_mem h.2.2.1
theorem part_cmp {a b a' b' : List Rn} (h : partRel a b a' b') : cmpS (allR a) (allR b) = cmpS (allR a') (allR b') := by
  obtain ⟨⟨c, h1, h2⟩, -, -⟩ := h
  rw [h1, h2, cmpS_pre]
theorem allR_head (x : Rn) (p : List Rn) (h : oneR x) : ∃ r, allR (x :: p) = (x.1, x.2.1) :: r := by
  rw [allR_cons, ofR_cons x h.2.2.2.1]
  exact ⟨_, rfl⟩
theorem part_nil {a b : List Rn} (h : partRel a b [] []) : cmpS (allR a) (allR b) = 0 := part_cmp h
theorem part_left {a b b' : List Rn} {y : Rn} (h : partRel a b [] (y :: b')) : cmpS (allR a) (allR b) = -1 := by
  rw [part_cmp h]
  obtain ⟨r, hr⟩ := allR_head y b' (h.2.2 y List.mem_cons_self).1
  rw [hr]
  rfl
theorem part_right {a b a' : List Rn} {x : Rn} (h : partRel a b (x :: a') []) : cmpS (allR a) (allR b) = 1 := by
  rw [part_cmp h]
  obtain ⟨r, hr⟩ := allR_head x a' (h.2.1 x List.mem_cons_self).1
  rw [hr]
  rfl
theorem part_both {a b a' b' : List Rn} {x y : Rn} (h : partRel a b (x :: a') (y :: b')) (hp : parted (x :: a') (y :: b')) : cmpS (allR a) (allR b) = if lessB y.1 y.2.1 x.1 x.2.1 = true then -1 else 1 := by
  rw [part_cmp h]
  obtain ⟨r, hr⟩ := allR_head x a' (h.2.1 x List.mem_cons_self).1
  obtain ⟨s, hs⟩ := allR_head y b' (h.2.2 y List.mem_cons_self).1
  rw [hr, hs, cmpS_ne (fun e => hp (by simp only [Prod.mk.injEq] at e; exact e))]
  unfold lessB ltI
  simp only [decide_eq_true_eq]

set_option maxHeartbeats 1600000 in
set_option maxRecDepth 100000 in
theorem pcompare_any (A B : Option Addr) (n k c d : Nat) (a b : List Rn) (w : World) (hr : RR w w.heap.size A a) (hs : RR w w.heap.size B b) (hn : a.length = n) (hk : b.length = k) (hl : n < 1073741824) (hm : k < 1073741824)
    (hA : A = none → c = 0) (hB : B = none → d = 0) (ha : ∀ x ∈ a, okR x) (hb : ∀ x ∈ b, okR x) :
    Calls Try.prog 41 #[.slice A n c, .slice B k d] w fun e w' => e = .returned (.int .i64 (cmpR a b)) ∧ Below w.heap.size w w' := by
  have M1 := hide (fun w h => pmay_any A n c a w h hn hl ha)
  have M2 := hide (fun w h => pmay_any B k d b w h hk hm hb)
  by_cases h1 : anyR a
  · by_cases h2 : anyR b
    · have P := hide (fun w h h' => part_ok A B n k c d a b w h h' hn hk hl hm hA hB (fun x hx => ⟨any_one h1 x hx, ha x hx⟩) (fun x hx => ⟨any_one h2 x hx, hb x hx⟩))
      have hfin := hide (show cmpR a b = cmpS (allR a) (allR b) from if_pos ⟨h1, h2⟩)
      have d1 := hide (decide_eq_true h1)
      have d2 := hide (decide_eq_true h2)
      clear hn hk hA hB ha hb h1 h2
      go_enter Try.func41, Try.ntmps41
      go_wp2_with fail
      refine (unhide M1 w hr).mono ?_
      rintro e w1 ⟨rfl, hb1⟩
      rw [d1.out]
      have hr1 := RR.below' hr hb1
      have hs1 := RR.below' hs hb1
      go_wp2_with fail
      refine (unhide M2 w1 hs1).mono ?_
      rintro e w2 ⟨rfl, hb2⟩
      rw [d2.out]
      have hr2 := RR.below' hr1 hb2
      have hs2 := RR.below' hs1 hb2
      have hbw2 := fresh hb1 hb2
      clear hr hs hr1 hs1
      go_wp2_with fail
      refine (unhide P w2 hr2 hs2).mono ?_
      rintro e w3 ⟨A', B', c', d', a', b', rfl, hr3, hs3, hrel, hpart, hb3⟩
      have Hrel := hide hrel
      have Hpart := hide hpart
      have hbw3 := fresh hbw2 hb3
      clear hrel hpart hr2 hs2
      cases a' with
      | nil =>
        cases b' with
        | nil =>
          go_wp2_with fail
          go_ret
          exact ⟨ret_int (by rw [hfin.out, part_nil Hrel.out]), hbw3⟩
        | cons y b' =>
          have hz2 : ((b'.length : Int) + 1 == 0) = false := by simp; omega
          go_wp2_with fail
          go_ret
          exact ⟨ret_int (by rw [hfin.out, part_left Hrel.out]), hbw3⟩
      | cons x a' =>
        have hz1 : ((a'.length : Int) + 1 == 0) = false := by simp; omega
        cases b' with
        | nil =>
          go_wp2_with fail
          go_quiet (fail)
          go_wp2_with fail
          go_ret
          exact ⟨ret_int (by rw [hfin.out, part_right Hrel.out]), below_drewN hbw3 _⟩
        | cons y b' =>
          obtain ⟨t, r, m⟩ := x
          obtain ⟨t2, r2, m2⟩ := y
          have hres := hide (hfin.out.trans (part_both Hrel.out Hpart.out))
          have ho1 := (Hrel.out.2.1 _ List.mem_cons_self).2
          have ho2 := (Hrel.out.2.2 _ List.mem_cons_self).2
          obtain ⟨p1, p2, p3, p4, -, -⟩ := ho1
          obtain ⟨n1, n2, n3, n4, -, -⟩ := ho2
          simp only at p1 p2 p3 p4 n1 n2 n3 n4
          obtain ⟨b0, o0, rfl, hB0, hC0⟩ := RR.cell hr3 (by simp)
          obtain ⟨b1, o1, rfl, hB1, hC1⟩ := RR.cell hs3 (by simp)
          obtain ⟨x0, x1, x2⟩ := hC0 0 (by simp)
          obtain ⟨y0, y1, y2⟩ := hC1 0 (by simp)
          simp only [List.getElem_cons_zero, Nat.zero_mul, Nat.add_zero] at x0 x1 x2 y0 y1 y2
          have hz2 : (0 : Int) < (b'.length : Int) + 1 := by omega
          obtain ⟨bb, hbb⟩ : ∃ bb, lessB t2 r2 t r = bb := ⟨_, rfl⟩
          have L := hide (fun w => hbb ▸ less_any t2 r2 t r w n1 n2 n3 n4 p1 p2 p3 p4)
          simp only [hbb] at hres
          clear hC0 hC1 hbb p1 p2 p3 p4 n1 n2 n3 n4
          go_wp2_with fail
          refine wp_region_past (by kernel_rfl) (by kernel_rfl) ?_
          repeat (quiet_step ((first
            | (go_at_call 90; exact past_call (first_ok _ _ _ _))
            | (go_at_call 50; exact past_call (unhide L _)))))
          refine wpQuiet_nil ?_
          intro w4 hw4
          obtain ⟨u, rfl⟩ := hw4
          have hbw4 := fresh hbw3 (below_past w3 u)
          clear x0 x1 x2 y0 y1 y2
          cases bb with
          | true =>
            go_wp2_with fail
            go_ret
            exact ⟨ret_int (by rw [hres.out]; rfl), hbw4⟩
          | false =>
            go_wp2_with fail
            go_ret
            exact ⟨ret_int (by rw [hres.out]; rfl), hbw4⟩
    · have hfin := hide (show cmpR a b = 0 from if_neg (fun h => h2 h.2))
      have d1 := hide (decide_eq_true h1)
      have d2 := hide (decide_eq_false h2)
      clear hn hk hA hB ha hb h1 h2
      go_enter Try.func41, Try.ntmps41
      go_wp2_with fail
      refine (unhide M1 w hr).mono ?_
      rintro e w1 ⟨rfl, hb1⟩
      rw [d1.out]
      have hs1 := RR.below' hs hb1
      go_wp2_with fail
      refine (unhide M2 w1 hs1).mono ?_
      rintro e w2 ⟨rfl, hb2⟩
      rw [d2.out]
      go_wp2_with fail
      go_ret
      exact ⟨ret_int hfin.out.symm, fresh hb1 hb2⟩
  · have hfin := hide (show cmpR a b = 0 from if_neg (fun h => h1 h.1))
    have d1 := hide (decide_eq_false h1)
    clear hn hk hA hB ha hb h1
    go_enter Try.func41, Try.ntmps41
    go_wp2_with fail
    refine (unhide M1 w hr).mono ?_
    rintro e w1 ⟨rfl, hb1⟩
    rw [d1.out]
    go_wp2_with fail
    go_ret
    exact ⟨ret_int hfin.out.symm, hb1⟩
end Go.Proofs.Ytbjfmkdjnglgbaa
