/-
  PointJoins: true for every two texts. No condition.
-/
import Derived.Test.YtllmlnbgfikeaaaPointOne
import Derived.Test.YtllmlnbgfikeaaaAppend
namespace Go.Proofs.Ytllmlnbgfikeaaa
open Go.RowKit

theorem zints_one (l : List Int) : ∀ u ∈ zints l, u.oneCell' = true := by
  intro u hu
  simp only [zints, List.mem_map] at hu
  obtain ⟨b, _, rfl⟩ := hu
  rfl
theorem zints_append (a b : List Int) : zints (a ++ b) = zints a ++ zints b := by simp [zints]
theorem RZ.of_zown {w : World} {base : Nat} {e : TypeId} {c n : Nat} {A : Option Addr} {l : List Int} (h : w.ownsRow base e 1 (.slice A n c) n (zints l)) (hn : l.length = n) : RZ w w.heap.size A l := by
  subst hn
  exact RD.of_own h
theorem RZ.below' {w w' : World} {A : Option Addr} {l : List Int} (h : RZ w w.heap.size A l) (hb : Below w.heap.size w w') : RZ w' w'.heap.size A l := (RD.below h hb).more hb.size

/-- Points, whatever the text. -/
theorem points_some (l : List UInt8) (w : World) (hl : l.length < 268435456) :
    Calls Try.prog 13 #[.string ⟨l.toArray⟩] w fun e w' => (∃ A n c k, e = .returned (.tuple #[.slice A n c, .int .i64 k])) ∧ Below w.heap.size w w' :=
  (points_any l w hl).mono fun e w' ⟨h, hb⟩ => by
    rcases h with ⟨qs, v, hq, _, he, hown⟩ | ⟨qs, hq, hm, he⟩ | ⟨hno, he⟩
    · obtain ⟨A, c, rfl, -, -, -⟩ := own_slice hown
      exact ⟨⟨_, _, _, _, he⟩, hb⟩
    · exact ⟨⟨_, _, _, _, he⟩, hb⟩
    · exact ⟨⟨_, _, _, _, he⟩, hb⟩
/-- What Points answers, as a slice that reads. -/
theorem points_three (l : List UInt8) (w : World) (hl : l.length < 268435456) :
    Calls Try.prog 13 #[.string ⟨l.toArray⟩] w fun e w' => ((∃ A c ps, Cod l ps ∧ ps.length ≤ 1024 ∧ e = .returned (.tuple #[.slice A ps.length c, .int .i64 0]) ∧ RZ w' w'.heap.size A (casts ps)) ∨
      (∃ ps, Cod l ps ∧ 1024 < ps.length ∧ e = .returned (.tuple #[.slice none 0 0, .int .i64 4])) ∨ ((∀ ps, ¬ Cod l ps) ∧ e = .returned (.tuple #[.slice none 0 0, .int .i64 40]))) ∧ Below w.heap.size w w' :=
  (points_any l w hl).mono fun e w' ⟨h, hb⟩ => by
    refine ⟨?_, hb⟩
    rcases h with ⟨qs, v, hq, hn, he, hown⟩ | h | h
    · obtain ⟨A, c, rfl, -, -, -⟩ := own_slice hown
      exact .inl ⟨A, c, qs, hq, hn, he, RZ.of_own hown⟩
    · exact .inr (.inl h)
    · exact .inr (.inr h)
theorem str_append (l m : List UInt8) : (⟨l.toArray⟩ : ByteArray) ++ ⟨m.toArray⟩ = ⟨(l ++ m).toArray⟩ := by
  apply ByteArray.ext
  rw [ByteArray.data_append]
  simp

set_option maxHeartbeats 1600000 in
set_option maxRecDepth 100000 in
theorem pointJoins_walk (l m : List UInt8) (w : World) : Calls Try.prog 3 #[.string ⟨l.toArray⟩, .string ⟨m.toArray⟩] w fun e w' => e = .returned (.bool true) ∧ Below w.heap.size w w' := by
  by_cases h1 : (2000 : Int) < (l.length : Int)
  · go_enter Try.func3, Try.ntmps3
    go_wp2_with fail
    refine (palive_ok _).mono ?_
    rintro e w1 ⟨rfl, hb1⟩
    go_wp2_with fail
    go_ret
    exact ⟨rfl, hb1⟩
  by_cases h2 : (2000 : Int) < (m.length : Int)
  · go_enter Try.func3, Try.ntmps3
    go_wp2_with fail
    refine (palive_ok _).mono ?_
    rintro e w1 ⟨rfl, hb1⟩
    go_wp2_with fail
    go_ret
    exact ⟨rfl, hb1⟩
  have hlm : (l ++ m).length < 268435456 := by rw [List.length_append]; omega
  have Hlm := hide hlm
  clear hlm
  have hsa := str_append l m
  obtain ⟨i0, hi, hz0, hz1, hz2⟩ := info_parts iinfo
  go_enter Try.func3, Try.ntmps3
  go_wp2_with fail
  refine (palive_ok _).mono ?_
  rintro e w1 ⟨rfl, hb1⟩
  go_wp2_with fail
  refine (points_three l w1 (by omega)).mono ?_
  rintro e w2 ⟨h, hb2⟩
  have hbw2 := fresh hb1 hb2
  rcases h with ⟨A, c, ps, hc, hn, rfl, hr⟩ | ⟨ps, hc, hn, rfl⟩ | ⟨hno, rfl⟩
  · have Hc := hide hc
    clear hc
    go_wp2_with fail
    refine (points_three m w2 (by omega)).mono ?_
    rintro e w3 ⟨h, hb3⟩
    have hbw3 := fresh hbw2 hb3
    have hr3 := RZ.below' hr hb3
    rcases h with ⟨B, d, qs, hd, hk, rfl, hs⟩ | ⟨qs, hd, hk, rfl⟩ | ⟨hno, rfl⟩
    · have Hd := hide hd
      clear hd
      go_wp2_with fail
      have hcod := cod_append Hc.out Hd.out
      by_cases hlen : 1024 < (ps ++ qs).length
      · have hlen' : (1024 : Int) < (ps.length : Int) + (qs.length : Int) := by rw [List.length_append] at hlen; omega
        refine (points_many (l ++ m) (ps ++ qs) w3 Hlm.out hcod hlen).mono ?_
        rintro e w4 ⟨rfl, hb4⟩
        have hbw4 := fresh hbw3 hb4
        have hr4 := RZ.below' hr3 hb4
        have hs4 := RZ.below' hs hb4
        clear hlen hcod
        go_wp2_with (first
          | (at_builtin; refine wpList_append_src _ rfl (.tmp 50) (.tmp 51) 23 rfl w4.heap.size 3 i0 (.int .i64 0) 1 8 Try.underlying23 hi hz0 hz1 hz2 rfl (by decide) _ 0 [] rfl (own_empty w4 _ _ _ (Nat.le_refl _)) w4.heap.size A ps.length c (zints (casts ps)) rfl (RD.alloc (by rw [← casts_len ps]; exact hr4) (Nat.le_refl _) _) (zints_one _) (by omega) (by decide) (by simp) ?_; intro v5 w5 hown5 hb5; simp only [Nat.zero_add, List.nil_append] at hown5; replace hb5 : Below w4.heap.size w4 w5 := (boxed w4 _).trans hb5; have hs5 := RZ.below' hs4 hb5)
          | (at_builtin; refine wpList_append_src _ rfl (.tmp 52) (.tmp 53) 23 rfl w4.heap.size 3 i0 (.int .i64 0) 1 8 Try.underlying23 hi hz0 hz1 hz2 rfl (by decide) _ ps.length _ rfl hown5 w5.heap.size B qs.length d (zints (casts qs)) rfl (by rw [← casts_len qs]; exact hs5) (zints_one _) (by omega) (by decide) hb5.size ?_; intro v6 w6 hown6 hb6; obtain ⟨A6, c6, rfl, -, -, -⟩ := own_slice hown6))
        go_ret
        exact ⟨rfl, fresh hbw4 (hb5.trans hb6)⟩
      · have hlen' : ¬ (1024 : Int) < (ps.length : Int) + (qs.length : Int) := by rw [List.length_append] at hlen; omega
        refine (points_ok (l ++ m) (ps ++ qs) w3 Hlm.out hcod (by omega)).mono ?_
        rintro e w4 ⟨C, g, rfl, ht, hb4⟩
        have hbw4 := fresh hbw3 hb4
        have hr4 := RZ.below' hr3 hb4
        have hs4 := RZ.below' hs hb4
        clear hlen hcod
        go_wp2_with (first
          | (at_builtin; refine wpList_append_src _ rfl (.tmp 50) (.tmp 51) 23 rfl w4.heap.size 3 i0 (.int .i64 0) 1 8 Try.underlying23 hi hz0 hz1 hz2 rfl (by decide) _ 0 [] rfl (own_empty w4 _ _ _ (Nat.le_refl _)) w4.heap.size A ps.length c (zints (casts ps)) rfl (RD.alloc (by rw [← casts_len ps]; exact hr4) (Nat.le_refl _) _) (zints_one _) (by omega) (by decide) (by simp) ?_; intro v5 w5 hown5 hb5; simp only [Nat.zero_add, List.nil_append] at hown5; replace hb5 : Below w4.heap.size w4 w5 := (boxed w4 _).trans hb5; have hs5 := RZ.below' hs4 hb5)
          | (at_builtin; refine wpList_append_src _ rfl (.tmp 52) (.tmp 53) 23 rfl w4.heap.size 3 i0 (.int .i64 0) 1 8 Try.underlying23 hi hz0 hz1 hz2 rfl (by decide) _ ps.length _ rfl hown5 w5.heap.size B qs.length d (zints (casts qs)) rfl (by rw [← casts_len qs]; exact hs5) (zints_one _) (by omega) (by decide) hb5.size ?_; intro v6 w6 hown6 hb6; obtain ⟨A6, c6, rfl, -, -, -⟩ := own_slice hown6))
        have hb46 := hb5.trans hb6
        have hr6 : RZ w6 w6.heap.size A6 (casts (ps ++ qs)) := by
          rw [casts_append]
          refine RZ.of_zown (l := casts ps ++ casts qs) (by rw [zints_append]; exact hown6) (by simp [casts_len])
        have ht6 := RZ.below' ht hb46
        clear hown6 hown5
        refine (isame_self C A6 g c6 _ _ (casts (ps ++ qs)) w6 ht6 hr6 (by rw [casts_len, List.length_append]) (by rw [casts_len, List.length_append]) (by omega)).mono ?_
        rintro e w7 ⟨rfl, hb7⟩
        go_wp2_with fail
        go_ret
        exact ⟨rfl, fresh (fresh hbw4 hb46) hb7⟩
    all_goals
      clear hr3
      go_wp2_with fail
      refine (points_some (l ++ m) w3 Hlm.out).mono ?_
      rintro e w4 ⟨⟨B, n, d, k, rfl⟩, hb4⟩
      have hbw4 := fresh hbw3 hb4
      go_wp2_with fail
      go_ret
      exact ⟨rfl, hbw4⟩
  all_goals
    go_wp2_with fail
    refine (points_some m w2 (by omega)).mono ?_
    rintro e w3 ⟨⟨B, n, d, k, rfl⟩, hb3⟩
    have hbw3 := fresh hbw2 hb3
    go_wp2_with fail
    refine (points_some (l ++ m) w3 Hlm.out).mono ?_
    rintro e w4 ⟨⟨B', n', d', k', rfl⟩, hb4⟩
    have hbw4 := fresh hbw3 hb4
    go_wp2_with fail
    go_ret
    exact ⟨rfl, hbw4⟩
end Go.Proofs.Ytllmlnbgfikeaaa
