/-
  PointTells: true for every text, numbers and number. No condition.
-/
import Derived.Test.YtllmlnbgfikeaaaPointRefPoints
namespace Go.Proofs.Ytllmlnbgfikeaaa
open Go.RowKit

open Classical in
/-- What Points answers, in one. -/
noncomputable def pres (l : List UInt8) : List Int × Int :=
  if h : ∃ ps, Cod l ps then (if (Classical.choose h).length ≤ 1024 then (casts (Classical.choose h), 0) else ([], 4)) else ([], 40)
theorem pres_some {l : List UInt8} {ps : List Nat} (h : Cod l ps) : pres l = if ps.length ≤ 1024 then (casts ps, 0) else ([], 4) := by
  unfold pres
  have hx : ∃ ps, Cod l ps := ⟨ps, h⟩
  rw [dif_pos hx, cod_uniq (Classical.choose_spec hx) h]
theorem pres_none {l : List UInt8} (h : ∀ ps, ¬ Cod l ps) : pres l = ([], 40) := by
  unfold pres
  rw [dif_neg (fun ⟨ps, hp⟩ => h ps hp)]
theorem pres_len (l : List UInt8) : (pres l).1.length ≤ 1024 := by
  by_cases h : ∃ ps, Cod l ps
  · obtain ⟨ps, hp⟩ := h
    rw [pres_some hp]
    split
    · rw [casts_len]; assumption
    · exact Nat.zero_le _
  · rw [pres_none (fun ps hp => h ⟨ps, hp⟩)]
    exact Nat.zero_le _
theorem pointed_pres {l : List UInt8} {w w' : World} {e : Ending} (h : pointed l w e w') : ∃ A c, e = .returned (.tuple #[.slice A (pres l).1.length c, .int .i64 (pres l).2]) ∧ RZ w' w'.heap.size A (pres l).1 := by
  rcases h with ⟨ps, v, hc, hn, he, hown⟩ | ⟨ps, hc, hn, he⟩ | ⟨hno, he⟩
  · obtain ⟨A, c, rfl, -, -, -⟩ := own_slice hown
    rw [pres_some hc, if_pos hn]
    exact ⟨A, c, by rw [he, casts_len], RZ.of_own hown⟩
  · rw [pres_some hc, if_neg (by omega)]
    exact ⟨none, 0, he, RD.nil_⟩
  · rw [pres_none hno]
    exact ⟨none, 0, he, RD.nil_⟩

open Classical in
/-- What Text answers, in one. -/
noncomputable def tres (zs : List Int) : List UInt8 × Int :=
  if 1024 < zs.length then ([], 4) else if h : ∃ ps : List Nat, allP ps ∧ zs = casts ps then (cat (Classical.choose h), 0) else ([], 40)
theorem texted_tres {zs : List Int} {e : Ending} (h : texted zs e) : e = .returned (.tuple #[.string ⟨(tres zs).1.toArray⟩, .int .i64 (tres zs).2]) := by
  rcases h with ⟨h, he⟩ | ⟨hl, ps, hp, hz, he⟩ | ⟨hl, ⟨z, hz, hn⟩, he⟩
  · rw [he]
    unfold tres
    rw [if_pos h]
  · have hx : ∃ ps : List Nat, allP ps ∧ zs = casts ps := ⟨ps, hp, hz⟩
    have : Classical.choose hx = ps := casts_inj ((Classical.choose_spec hx).2.symm.trans hz)
    rw [he]
    unfold tres
    rw [if_neg (by omega), dif_pos hx, this]
  · rw [he]
    unfold tres
    rw [if_neg (by omega), dif_neg]
    rintro ⟨ps, hp, rfl⟩
    simp only [casts, List.mem_map] at hz
    obtain ⟨p, hpm, rfl⟩ := hz
    exact hn ⟨by omega, by simpa using hp p hpm⟩

set_option maxHeartbeats 1600000 in
set_option maxRecDepth 100000 in
theorem pointTells_walk (l : List UInt8) (A : Option Addr) (c : Nat) (m : List Int) (z : Int) (w : World) (hr : RZ w w.heap.size A m) : Calls Try.prog 9 #[.string ⟨l.toArray⟩, .slice A m.length c, .int .i64 z] w fun e w' => e = .returned (.bool true) ∧ Below w.heap.size w w' := by
  by_cases h1 : (5000 : Int) < (l.length : Int)
  · go_enter Try.func9, Try.ntmps9
    go_wp2_with fail
    go_ret
    exact ⟨rfl, Below.refl _ _⟩
  by_cases h2 : (5000 : Int) < (m.length : Int)
  · go_enter Try.func9, Try.ntmps9
    go_wp2_with fail
    go_ret
    exact ⟨rfl, Below.refl _ _⟩
  obtain ⟨i0, hi, hz0, hz1, hz2⟩ := info_parts iinfo
  go_enter Try.func9, Try.ntmps9
  go_wp2_with (at_builtin; refine wpList_append_src _ rfl (.tmp 24) (.tmp 25) 23 rfl w.heap.size 3 i0 (.int .i64 0) 1 8 Try.underlying23 hi hz0 hz1 hz2 rfl (by decide) _ 0 [] rfl (own_empty w _ _ _ (Nat.le_refl _)) w.heap.size A m.length c (zints m) rfl (RD.alloc hr (Nat.le_refl _) _) (zints_one _) (by omega) (by decide) (by simp) ?_; intro v1 w1 hown1 hb1; simp only [Nat.zero_add, List.nil_append] at hown1; replace hb1 : Below w.heap.size w w1 := (boxed w _).trans hb1; obtain ⟨A1, c1, rfl, -, -, -⟩ := own_slice hown1; have ho1 : RZ w1 w1.heap.size A1 m := RD.of_own hown1; have hr1 := RZ.below' hr hb1; clear hown1)
  refine (points_any l w1 (by omega)).mono ?_
  rintro e w2 ⟨h, hb2⟩
  obtain ⟨B, d, rfl, hp2⟩ := pointed_pres h
  clear h
  have hpl := pres_len l
  have hpr : ∃ pr, pr = pres l := ⟨_, rfl⟩
  obtain ⟨pr, hpr⟩ := hpr
  rw [← hpr] at hp2 hpl ⊢
  have Hpr := hide hpr
  clear hpr
  have hbw2 := fresh hb1 hb2
  have hr2 := RZ.below' hr1 hb2
  have ho2 := RZ.below' ho1 hb2
  go_wp2_with fail
  refine (refpoints_any l w2 (by omega)).mono ?_
  rintro e w3 ⟨h, hb3⟩
  obtain ⟨B', d', rfl, hq3⟩ := pointed_pres h
  clear h
  rw [← Hpr.out] at hq3 ⊢
  clear Hpr
  obtain ⟨ps, k⟩ := pr
  simp only at hp2 hq3 hpl ⊢
  have hbw3 := fresh hbw2 hb3
  have hr3 := RZ.below' hr2 hb3
  have ho3 := RZ.below' ho2 hb3
  have hp3 := RZ.below' hp2 hb3
  go_wp2_with fail
  refine (text_any A1 m.length c1 m w3 ho3 rfl (by omega)).mono ?_
  rintro e w4 ⟨h, hb4⟩
  obtain rfl := texted_tres h
  clear h
  obtain ⟨tr, htr⟩ : ∃ tr, tr = tres m := ⟨_, rfl⟩
  rw [← htr]
  have Htr := hide htr
  clear htr
  have hbw4 := fresh hbw3 hb4
  have hr4 := RZ.below' hr3 hb4
  have ho4 := RZ.below' ho3 hb4
  have hp4 := RZ.below' hp3 hb4
  have hq4 := RZ.below' hq3 hb4
  go_wp2_with fail
  refine (reftext_any A m.length c m w4 hr4 rfl (by omega)).mono ?_
  rintro e w5 ⟨h, hb5⟩
  obtain rfl := texted_tres h
  clear h
  rw [← Htr.out]
  clear Htr
  obtain ⟨t, j⟩ := tr
  simp only
  have hbw5 := fresh hbw4 hb5
  have hr5 := RZ.below' hr4 hb5
  have ho5 := RZ.below' ho4 hb5
  have hp5 := RZ.below' hp4 hb5
  have hq5 := RZ.below' hq4 hb5
  clear hr hr1 hr2 hr3 hr4 ho1 ho2 ho3 ho4 hp2 hp3 hp4 hq3 hq4
  go_wp2_with fail
  refine (isame_self B B' d d' _ _ ps w5 hp5 hq5 rfl rfl (by omega)).mono ?_
  rintro e w6 ⟨rfl, hb6⟩
  have hbw6 := fresh hbw5 hb6
  have hr6 := RZ.below' hr5 hb6
  have ho6 := RZ.below' ho5 hb6
  clear hr5 ho5 hp5 hq5
  go_wp2_with fail
  by_cases hz : isZ z
  · obtain ⟨p, hzp⟩ : ∃ p : Nat, z = (p : Int) := ⟨z.toNat, by have := hz.1; omega⟩
    have hp : isP p := by have := hz.2; rwa [hzp, Int.toNat_natCast] at this
    have Hzp := hide hzp
    clear hz hzp
    refine (check_z z p w6 Hzp.out hp).mono ?_
    rintro e w' ⟨rfl, rfl⟩
    go_wp2_with fail
    refine (refcheck_yes z p w6 Hzp.out hp).mono ?_
    rintro e w' ⟨rfl, rfl⟩
    go_wp2_with fail
    refine (isame_self A1 A c1 c _ _ m w6 ho6 hr6 rfl rfl (by omega)).mono ?_
    rintro e w7 ⟨rfl, hb7⟩
    go_wp2_with fail
    go_ret
    exact ⟨rfl, fresh hbw6 hb7⟩
  · have Hz := hide hz
    clear hz
    refine (check_no z w6 Hz.out).mono ?_
    rintro e w' ⟨rfl, rfl⟩
    go_wp2_with fail
    refine (refcheck_no z w6 Hz.out).mono ?_
    rintro e w' ⟨rfl, rfl⟩
    go_wp2_with fail
    refine (isame_self A1 A c1 c _ _ m w6 ho6 hr6 rfl rfl (by omega)).mono ?_
    rintro e w7 ⟨rfl, hb7⟩
    go_wp2_with fail
    go_ret
    exact ⟨rfl, fresh hbw6 hb7⟩
end Go.Proofs.Ytllmlnbgfikeaaa
