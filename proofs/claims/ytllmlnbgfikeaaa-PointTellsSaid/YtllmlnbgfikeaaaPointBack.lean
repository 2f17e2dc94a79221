/-
  PointBack: true for every text and numbers. No condition.
-/
import Derived.Test.YtllmlnbgfikeaaaPointJoins
namespace Go.Proofs.Ytllmlnbgfikeaaa
open Go.RowKit

theorem text_three (A : Option Addr) (n c : Nat) (zs : List Int) (w : World) (hr : RZ w w.heap.size A zs) (hn : zs.length = n) (hl : n < 1073741824) :
    Calls Try.prog 23 #[.slice A n c] w fun e w' => ((∃ ps : List Nat, zs.length ≤ 1024 ∧ allP ps ∧ zs = casts ps ∧ e = .returned (.tuple #[.string ⟨(cat ps).toArray⟩, .int .i64 0])) ∨
      (1024 < zs.length ∧ e = .returned (.tuple #[.string ⟨#[]⟩, .int .i64 4])) ∨ (zs.length ≤ 1024 ∧ (∃ z ∈ zs, ¬ isZ z) ∧ e = .returned (.tuple #[.string ⟨#[]⟩, .int .i64 40]))) ∧ Below w.heap.size w w' :=
  (text_any A n c zs w hr hn hl).mono fun e w' ⟨h, hb⟩ => by
    refine ⟨?_, hb⟩
    rcases h with h | ⟨hl, ps, hp, hz, he⟩ | h
    · exact .inr (.inl h)
    · exact .inl ⟨ps, hl, hp, hz, he⟩
    · exact .inr (.inr h)

/-- Text of a text's code points is the text. -/
theorem text_back (l : List UInt8) (ps : List Nat) (A : Option Addr) (c : Nat) (w : World) (hr : RZ w w.heap.size A (casts ps)) (hc : Cod l ps) (hn : ps.length ≤ 1024) :
    Calls Try.prog 23 #[.slice A ps.length c] w fun e w' => e = .returned (.tuple #[.string ⟨l.toArray⟩, .int .i64 0]) ∧ Below w.heap.size w w' := by
  have := text_ok A ps.length c ps w hr hc.1 rfl hn
  rwa [hc.2] at this

set_option maxHeartbeats 1600000 in
set_option maxRecDepth 100000 in
theorem pointBack_walk (l : List UInt8) (A : Option Addr) (c : Nat) (m : List Int) (w : World) (hr : RZ w w.heap.size A m) : Calls Try.prog 10 #[.string ⟨l.toArray⟩, .slice A m.length c] w fun e w' => e = .returned (.bool true) ∧ Below w.heap.size w w' := by
  by_cases h1 : (5000 : Int) < (l.length : Int)
  · go_enter Try.func10, Try.ntmps10
    go_wp2_with fail
    refine (palive_ok _).mono ?_
    rintro e w1 ⟨rfl, hb1⟩
    go_wp2_with fail
    go_ret
    exact ⟨rfl, hb1⟩
  by_cases h2 : (2000 : Int) < (m.length : Int)
  · go_enter Try.func10, Try.ntmps10
    go_wp2_with fail
    refine (palive_ok _).mono ?_
    rintro e w1 ⟨rfl, hb1⟩
    go_wp2_with fail
    go_ret
    exact ⟨rfl, hb1⟩
  go_enter Try.func10, Try.ntmps10
  go_wp2_with fail
  refine (palive_ok _).mono ?_
  rintro e w1 ⟨rfl, hb1⟩
  have hr1 := RZ.below' hr hb1
  go_wp2_with fail
  refine (points_three l w1 (by omega)).mono ?_
  rintro e w2 ⟨h, hb2⟩
  have hbw2 := fresh hb1 hb2
  have hr2 := RZ.below' hr1 hb2
  obtain ⟨W, hW⟩ : ∃ W, W = w2 := ⟨_, rfl⟩
  rcases h with ⟨B, d, ps, hc, hn, rfl, hs⟩ | ⟨ps, hc, hn, rfl⟩ | ⟨hno, rfl⟩
  · have Hc := hide hc
    clear hc hW W
    go_wp2_with fail
    refine (text_back l ps B d w2 hs Hc.out hn).mono ?_
    rintro e w3 ⟨rfl, hb3⟩
    have hbw3 := fresh hbw2 hb3
    have hr3 := RZ.below' hr2 hb3
    go_wp2_with fail
    refine (text_three A m.length c m w3 hr3 rfl (by omega)).mono ?_
    rintro e w4 ⟨h, hb4⟩
    have hbw4 := fresh hbw3 hb4
    have hr4 := RZ.below' hr3 hb4
    rcases h with ⟨qs, hl, hq, hz, rfl⟩ | ⟨hl, rfl⟩ | ⟨hl, hz, rfl⟩
    · subst hz
      rw [casts_len] at hl h2
      have hcl := (cat_len qs).2
      go_wp2_with fail
      refine (points_ok (cat qs) qs w4 (by omega) (cod_cat hq) hl).mono ?_
      rintro e w5 ⟨C, g, rfl, ht, hb5⟩
      have hr5 := RZ.below' hr4 hb5
      clear hr4 hr3 hr2 hr1 hr hs
      go_wp2_with fail
      refine (isame_self C A g c _ _ (casts qs) w5 ht hr5 (casts_len _) rfl (by omega)).mono ?_
      rintro e w6 ⟨rfl, hb6⟩
      go_wp2_with fail
      go_ret
      exact ⟨rfl, fresh (fresh hbw4 hb5) hb6⟩
    · go_wp2_with fail
      go_ret
      exact ⟨rfl, hbw4⟩
    · have Hz := hide hz
      clear hz
      go_wp2_with fail
      go_ret
      exact ⟨rfl, hbw4⟩
  all_goals
    clear hW W
    go_wp2_with fail
    refine (text_three A m.length c m w2 hr2 rfl (by omega)).mono ?_
    rintro e w4 ⟨h, hb4⟩
    have hbw4 := fresh hbw2 hb4
    have hr4 := RZ.below' hr2 hb4
    rcases h with ⟨qs, hl, hq, hz, rfl⟩ | ⟨hl, rfl⟩ | ⟨hl, hz, rfl⟩
    · subst hz
      rw [casts_len] at hl h2
      have hcl := (cat_len qs).2
      go_wp2_with fail
      refine (points_ok (cat qs) qs w4 (by omega) (cod_cat hq) hl).mono ?_
      rintro e w5 ⟨C, g, rfl, ht, hb5⟩
      have hr5 := RZ.below' hr4 hb5
      clear hr4 hr2 hr1 hr
      go_wp2_with fail
      refine (isame_self C A g c _ _ (casts qs) w5 ht hr5 (casts_len _) rfl (by omega)).mono ?_
      rintro e w6 ⟨rfl, hb6⟩
      go_wp2_with fail
      go_ret
      exact ⟨rfl, fresh (fresh hbw4 hb5) hb6⟩
    · go_wp2_with fail
      go_ret
      exact ⟨rfl, hbw4⟩
    · have Hz := hide hz
      clear hz
      go_wp2_with fail
      go_ret
      exact ⟨rfl, hbw4⟩
end Go.Proofs.Ytllmlnbgfikeaaa
