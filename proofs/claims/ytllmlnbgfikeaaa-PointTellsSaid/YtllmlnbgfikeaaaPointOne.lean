/-
  PointOne: true for every number. No condition.
-/
import Derived.Test.YtllmlnbgfikeaaaPointAlive
namespace Go.Proofs.Ytllmlnbgfikeaaa
open Go.RowKit

theorem text_ok (A : Option Addr) (n c : Nat) (ps : List Nat) (w : World) (hr : RZ w w.heap.size A (casts ps)) (hp : allP ps) (hn : ps.length = n) (hl : n ≤ 1024) :
    Calls Try.prog 23 #[.slice A n c] w fun e w' => e = .returned (.tuple #[.string ⟨(cat ps).toArray⟩, .int .i64 0]) ∧ Below w.heap.size w w' :=
  (text_any A n c (casts ps) w hr (by rw [casts_len]; exact hn) (by omega)).mono fun e w' ⟨h, hb⟩ => by
    rw [texted, casts_len] at h
    rcases h with ⟨h, _⟩ | ⟨_, qs, hq, hc, he⟩ | ⟨_, ⟨z, hz, hn⟩, _⟩
    · omega
    · obtain rfl := casts_inj hc
      exact ⟨he, hb⟩
    · simp only [casts, List.mem_map] at hz
      obtain ⟨p, hpm, rfl⟩ := hz
      exact absurd ⟨by omega, by simpa using hp p hpm⟩ hn
theorem text_bad (A : Option Addr) (n c : Nat) (zs : List Int) (z : Int) (w : World) (hr : RZ w w.heap.size A zs) (hm : z ∈ zs) (hz : ¬ isZ z) (hn : zs.length = n) (hl : n ≤ 1024) :
    Calls Try.prog 23 #[.slice A n c] w fun e w' => e = .returned (.tuple #[.string ⟨#[]⟩, .int .i64 40]) ∧ Below w.heap.size w w' :=
  (text_any A n c zs w hr hn (by omega)).mono fun e w' ⟨h, hb⟩ => by
    rcases h with ⟨h, _⟩ | ⟨_, qs, hq, hc, he⟩ | ⟨_, _, he⟩
    · omega
    · subst hc
      simp only [casts, List.mem_map] at hm
      obtain ⟨p, hpm, rfl⟩ := hm
      exact absurd ⟨by omega, by simpa using hq p hpm⟩ hz
    · exact ⟨he, hb⟩
theorem text_many (A : Option Addr) (n c : Nat) (zs : List Int) (w : World) (hr : RZ w w.heap.size A zs) (hn : zs.length = n) (hl : 1024 < n) (hb : n < 1073741824) :
    Calls Try.prog 23 #[.slice A n c] w fun e w' => e = .returned (.tuple #[.string ⟨#[]⟩, .int .i64 4]) ∧ Below w.heap.size w w' :=
  (text_any A n c zs w hr hn hb).mono fun e w' ⟨h, hb⟩ => by
    rcases h with ⟨h, he⟩ | ⟨_, qs, hq, hc, he⟩ | ⟨_, _, he⟩
    · exact ⟨he, hb⟩
    · omega
    · omega

set_option maxHeartbeats 800000 in
set_option maxRecDepth 100000 in
theorem pointOne_no (z : Int) (w : World) (h : ¬ isZ z) : Calls Try.prog 11 #[.int .i64 z] w fun e w' => e = .returned (.bool true) ∧ Below w.heap.size w w' := by
  have H := hide h
  have hc : z < 0 ∨ 1114111 < z ∨ (55296 ≤ z ∧ z ≤ 57343) := by unfold isZ isP at h; omega
  clear h
  rcases hc with h1 | h1 | ⟨h1, h2⟩
  · have g1 : ¬ (0 ≤ z) := by omega
    have g2 : ¬ (57343 < z) := by omega
    clear h1
    go_enter Try.func11, Try.ntmps11
    go_wp2_with fail
    refine (palive_ok _).mono ?_
    rintro e w1 ⟨rfl, hb1⟩
    go_wp2_with fail
    refine (text_bad _ 1 1 [z] z _ (RZ.new w1 _ _ [z] rfl) (by simp) H.out rfl (by decide)).mono ?_
    rintro e w2 ⟨rfl, hb2⟩
    have hb := fresh hb1 (fresh (boxed w1 _) hb2)
    clear hb2
    go_wp2_with fail
    refine (check_no z w2 H.out).mono ?_
    rintro e w3 ⟨rfl, rfl⟩
    go_wp2_with fail
    all_goals
      go_ret
      exact ⟨rfl, hb⟩
  · have g1 : 0 ≤ z := by omega
    have g2 : ¬ (z < 55296) := by omega
    have g3 : 57343 < z := by omega
    have g4 : ¬ (z ≤ 1114111) := by omega
    clear h1
    go_enter Try.func11, Try.ntmps11
    go_wp2_with fail
    refine (palive_ok _).mono ?_
    rintro e w1 ⟨rfl, hb1⟩
    go_wp2_with fail
    refine (text_bad _ 1 1 [z] z _ (RZ.new w1 _ _ [z] rfl) (by simp) H.out rfl (by decide)).mono ?_
    rintro e w2 ⟨rfl, hb2⟩
    have hb := fresh hb1 (fresh (boxed w1 _) hb2)
    clear hb2
    go_wp2_with fail
    refine (check_no z w2 H.out).mono ?_
    rintro e w3 ⟨rfl, rfl⟩
    go_wp2_with fail
    all_goals
      go_ret
      exact ⟨rfl, hb⟩
  · have g1 : 0 ≤ z := by omega
    have g2 : ¬ (z < 55296) := by omega
    have g3 : ¬ (57343 < z) := by omega
    clear h1 h2
    go_enter Try.func11, Try.ntmps11
    go_wp2_with fail
    refine (palive_ok _).mono ?_
    rintro e w1 ⟨rfl, hb1⟩
    go_wp2_with fail
    refine (text_bad _ 1 1 [z] z _ (RZ.new w1 _ _ [z] rfl) (by simp) H.out rfl (by decide)).mono ?_
    rintro e w2 ⟨rfl, hb2⟩
    have hb := fresh hb1 (fresh (boxed w1 _) hb2)
    clear hb2
    go_wp2_with fail
    refine (check_no z w2 H.out).mono ?_
    rintro e w3 ⟨rfl, rfl⟩
    go_wp2_with fail
    all_goals
      go_ret
      exact ⟨rfl, hb⟩

theorem text_one (A : Option Addr) (c : Nat) (z : Int) (p : Nat) (w : World) (hr : RZ w w.heap.size A [z]) (hz : z = (p : Int)) (hp : isP p) :
    Calls Try.prog 23 #[.slice A 1 c] w fun e w' => e = .returned (.tuple #[.string ⟨(cat [p]).toArray⟩, .int .i64 0]) ∧ Below w.heap.size w w' :=
  text_ok A 1 c [p] w (by subst hz; exact hr) (allP_one hp) rfl (by decide)
theorem check_z (z : Int) (p : Nat) (w : World) (hz : z = (p : Int)) (h : isP p) :
    Calls Try.prog 26 #[.int .i64 z] w fun e w' => e = .returned (.int .i64 0) ∧ w = w' := by
  subst hz
  exact check_yes p w h

set_option maxHeartbeats 1600000 in
set_option maxRecDepth 100000 in
theorem pointOne_yes (z : Int) (p : Nat) (w : World) (hz : z = (p : Int)) (h : isP p) : Calls Try.prog 11 #[.int .i64 z] w fun e w' => e = .returned (.bool true) ∧ Below w.heap.size w w' := by
  have H := hide h
  have Hz := hide hz
  obtain ⟨h1, h2⟩ := h
  have hcases : p < 128 ∨ (128 ≤ p ∧ p < 2048) ∨ (2048 ≤ p ∧ p < 55296) ∨ (57343 < p ∧ p < 65536) ∨ 65536 ≤ p := by omega
  rcases hcases with hc | hc | hc | hc | hc
  · have hsz := hide (show (cat [p]).length = 1 by rw [cat_one, enc1 hc]; rfl)
    have g1 : 0 ≤ z := by omega
    have f0 : z < 55296 := by omega
    have f1 : z < 128 := by omega
    clear hc
    clear h1 h2 hz
    go_enter Try.func11, Try.ntmps11
    go_wp2_with fail
    refine (palive_ok _).mono ?_
    rintro e w1 ⟨rfl, hb1⟩
    go_wp2_with fail
    refine (text_one _ 1 z p _ (RZ.new w1 _ _ [z] rfl) Hz.out H.out).mono ?_
    rintro e w2 ⟨rfl, hb2⟩
    have hb := fresh hb1 (fresh (boxed w1 _) hb2)
    clear hb2
    go_wp2_with fail
    refine (check_z z p w2 Hz.out H.out).mono ?_
    rintro e w3 ⟨rfl, rfl⟩
    generalize cat [p] = t at hsz
    have hs := hide hsz.out
    clear hsz
    go_wp2_with fail
    all_goals
      go_ret
      exact ⟨ret_bool (by rw [hs.out]; rfl), hb⟩
  · have hsz := hide (show (cat [p]).length = 2 by rw [cat_one, enc2 hc.1 hc.2]; rfl)
    have g1 : 0 ≤ z := by omega
    have f0 : z < 55296 := by omega
    have f1 : ¬ z < 128 := by omega
    have f2 : z < 2048 := by omega
    clear hc
    clear h1 h2 hz
    go_enter Try.func11, Try.ntmps11
    go_wp2_with fail
    refine (palive_ok _).mono ?_
    rintro e w1 ⟨rfl, hb1⟩
    go_wp2_with fail
    refine (text_one _ 1 z p _ (RZ.new w1 _ _ [z] rfl) Hz.out H.out).mono ?_
    rintro e w2 ⟨rfl, hb2⟩
    have hb := fresh hb1 (fresh (boxed w1 _) hb2)
    clear hb2
    go_wp2_with fail
    refine (check_z z p w2 Hz.out H.out).mono ?_
    rintro e w3 ⟨rfl, rfl⟩
    generalize cat [p] = t at hsz
    have hs := hide hsz.out
    clear hsz
    go_wp2_with fail
    all_goals
      go_ret
      exact ⟨ret_bool (by rw [hs.out]; rfl), hb⟩
  · have hsz := hide (show (cat [p]).length = 3 by rw [cat_one, enc3 (by omega) (by omega)]; rfl)
    have g1 : 0 ≤ z := by omega
    have f0 : z < 55296 := by omega
    have f1 : ¬ z < 128 := by omega
    have f2 : ¬ z < 2048 := by omega
    have f3 : z < 65536 := by omega
    clear hc
    clear h1 h2 hz
    go_enter Try.func11, Try.ntmps11
    go_wp2_with fail
    refine (palive_ok _).mono ?_
    rintro e w1 ⟨rfl, hb1⟩
    go_wp2_with fail
    refine (text_one _ 1 z p _ (RZ.new w1 _ _ [z] rfl) Hz.out H.out).mono ?_
    rintro e w2 ⟨rfl, hb2⟩
    have hb := fresh hb1 (fresh (boxed w1 _) hb2)
    clear hb2
    go_wp2_with fail
    refine (check_z z p w2 Hz.out H.out).mono ?_
    rintro e w3 ⟨rfl, rfl⟩
    generalize cat [p] = t at hsz
    have hs := hide hsz.out
    clear hsz
    go_wp2_with fail
    all_goals
      go_ret
      exact ⟨ret_bool (by rw [hs.out]; rfl), hb⟩
  · have hsz := hide (show (cat [p]).length = 3 by rw [cat_one, enc3 (by omega) (by omega)]; rfl)
    have g1 : 0 ≤ z := by omega
    have f0 : ¬ z < 55296 := by omega
    have f1 : 57343 < z := by omega
    have f2 : z ≤ 1114111 := by omega
    have f3 : ¬ z < 128 := by omega
    have f4 : ¬ z < 2048 := by omega
    have f5 : z < 65536 := by omega
    clear hc
    clear h1 h2 hz
    go_enter Try.func11, Try.ntmps11
    go_wp2_with fail
    refine (palive_ok _).mono ?_
    rintro e w1 ⟨rfl, hb1⟩
    go_wp2_with fail
    refine (text_one _ 1 z p _ (RZ.new w1 _ _ [z] rfl) Hz.out H.out).mono ?_
    rintro e w2 ⟨rfl, hb2⟩
    have hb := fresh hb1 (fresh (boxed w1 _) hb2)
    clear hb2
    go_wp2_with fail
    refine (check_z z p w2 Hz.out H.out).mono ?_
    rintro e w3 ⟨rfl, rfl⟩
    generalize cat [p] = t at hsz
    have hs := hide hsz.out
    clear hsz
    go_wp2_with fail
    all_goals
      go_ret
      exact ⟨ret_bool (by rw [hs.out]; rfl), hb⟩
  · have hsz := hide (show (cat [p]).length = 4 by rw [cat_one, enc4 hc]; rfl)
    have g1 : 0 ≤ z := by omega
    have f0 : ¬ z < 55296 := by omega
    have f1 : 57343 < z := by omega
    have f2 : z ≤ 1114111 := by omega
    have f3 : ¬ z < 128 := by omega
    have f4 : ¬ z < 2048 := by omega
    have f5 : ¬ z < 65536 := by omega
    clear hc
    clear h1 h2 hz
    go_enter Try.func11, Try.ntmps11
    go_wp2_with fail
    refine (palive_ok _).mono ?_
    rintro e w1 ⟨rfl, hb1⟩
    go_wp2_with fail
    refine (text_one _ 1 z p _ (RZ.new w1 _ _ [z] rfl) Hz.out H.out).mono ?_
    rintro e w2 ⟨rfl, hb2⟩
    have hb := fresh hb1 (fresh (boxed w1 _) hb2)
    clear hb2
    go_wp2_with fail
    refine (check_z z p w2 Hz.out H.out).mono ?_
    rintro e w3 ⟨rfl, rfl⟩
    generalize cat [p] = t at hsz
    have hs := hide hsz.out
    clear hsz
    go_wp2_with fail
    all_goals
      go_ret
      exact ⟨ret_bool (by rw [hs.out]; rfl), hb⟩

theorem pointOne_walk (z : Int) (w : World) : Calls Try.prog 11 #[.int .i64 z] w fun e w' => e = .returned (.bool true) ∧ Below w.heap.size w w' := by
  by_cases h : isZ z
  · obtain ⟨p, rfl⟩ := Int.eq_ofNat_of_zero_le h.1
    exact pointOne_yes _ p w rfl (by simpa using h.2)
  · exact pointOne_no z w h
end Go.Proofs.Ytllmlnbgfikeaaa
