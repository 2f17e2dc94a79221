/-
  FrameEnds: true for every body, number and bytes behind. No condition.
-/
import Derived.Test.YtmekoenmaiekfaaFrameAlive
namespace Go.Proofs.Ytmekoenmaiekfaa
open Go.RowKit

/-- A frame's beginning is one just where it is all of it. -/
theorem opn_begin (l : List UInt8) (k : Nat) (hl : l.length ≤ 16384) (hk : k ≤ (frm l).length) : (opn ((frm l).take k) = none ∧ k < (frm l).length) ∨ (opn ((frm l).take k) = some l ∧ k = (frm l).length) := by
  rcases Nat.lt_or_ge k (frm l).length with h | h
  · refine .inl ⟨?_, h⟩
    cases ho : opn ((frm l).take k) with
    | none => rfl
    | some m =>
      obtain ⟨h1, h2⟩ := opn_inv ho
      have h3 := frm_prefix (l := l) (m := m) (r := []) (r' := (frm l).drop k) hl h2 (by rw [← h1, List.take_append_drop, List.append_nil])
      rw [← h1, List.length_take] at h3
      omega
  · have : k = (frm l).length := by omega
    refine .inr ⟨?_, this⟩
    rw [this, List.take_of_length_le (Nat.le_refl _), opn_frm l hl]
/-- With bytes behind it is none. -/
theorem opn_behind (l m : List UInt8) (hl : l.length ≤ 16384) : (opn (frm l ++ m) = none ∧ 0 < m.length) ∨ (opn (frm l ++ m) = some l ∧ m.length = 0) := by
  rcases Nat.eq_zero_or_pos m.length with h | h
  · refine .inr ⟨?_, h⟩
    rw [List.eq_nil_of_length_eq_zero h, List.append_nil, opn_frm l hl]
  · refine .inl ⟨?_, h⟩
    cases ho : opn (frm l ++ m) with
    | none => rfl
    | some x =>
      obtain ⟨h1, h2⟩ := opn_inv ho
      have h3 := frm_prefix (l := l) (m := x) (r := m) (r' := []) hl h2 (by rw [h1, List.append_nil])
      rw [← h1, List.length_append] at h3
      omega
/-- What Open answers, as its second result tells. -/
theorem opened_code {w w' : World} {e : Ending} {l m : List UInt8} {p q : Prop} (h : (opn l = none ∧ p) ∨ (opn l = some m ∧ q)) (ho : opened w w' e l) :
    ∃ v f, e = .returned (.tuple #[v, .int .i64 f]) ∧ ((f = 30 ∧ p) ∨ (f = 0 ∧ q)) := by
  rcases h with ⟨h, hp⟩ | ⟨h, hq⟩
  · exact ⟨_, 30, opened_none' h ho, .inl ⟨rfl, hp⟩⟩
  · obtain ⟨v, he, -⟩ := opened_some' h ho
    exact ⟨v, 0, he, .inr ⟨rfl, hq⟩⟩

set_option maxHeartbeats 400000 in
set_option maxRecDepth 100000 in
theorem frameEnds_walk (A : Option Addr) (c : Nat) (l : List UInt8) (many : Int) (M : Option Addr) (d : Nat) (m : List UInt8) (w : World) (hr : RB w w.heap.size A l) (hs : RB w w.heap.size M m) :
    Calls Try.prog 18 #[.slice A l.length c, .int .i64 many, .slice M m.length d] w fun e w' => e = .returned (.bool true) ∧ Below w.heap.size w w' := by
  by_cases h1 : (10000 : Int) < (l.length : Int)
  · skip
    go_enter Try.func18, Try.ntmps18
    go_wp2_with fail
    refine (framealive_ok _).mono ?_
    rintro e w1 ⟨rfl, hb1⟩
    go_wp2_with fail
    go_ret
    exact ⟨rfl, hb1⟩
  by_cases h2 : (1000 : Int) < (m.length : Int)
  · skip
    go_enter Try.func18, Try.ntmps18
    go_wp2_with fail
    refine (framealive_ok _).mono ?_
    rintro e w1 ⟨rfl, hb1⟩
    go_wp2_with fail
    go_ret
    exact ⟨rfl, hb1⟩
  have hfl := frm_len l
  have hsix := nb_six (n := l.length) (by omega)
  have hfl5 : (frm l).length ≤ 10011 := by omega
  clear hfl hsix
  by_cases h3 : many < 0
  · skip
    go_enter Try.func18, Try.ntmps18
    go_wp2_with fail
    refine (framealive_ok _).mono ?_
    rintro e w1 ⟨rfl, hb1⟩
    have hr1 : RB w1 w1.heap.size A l := (RD.below hr hb1).more hb1.size
    go_wp2_with fail
    refine (wrap_ok A c l w1 hr1 (by omega)).mono ?_
    rintro e w2 ⟨v2, rfl, hown2, hb2⟩
    obtain ⟨A2, c2, rfl, hc2, hm2, -⟩ := own_slice hown2
    have hbw := fresh hb1 hb2
    clear hown2
    go_wp2_with fail
    go_ret
    exact ⟨rfl, hbw⟩
  obtain ⟨n, rfl⟩ := Int.eq_ofNat_of_zero_le (show 0 ≤ many by omega)
  obtain ⟨i0, hi0, hz0, hz1, hz2⟩ := info_parts u8info
  by_cases h4 : ((frm l).length : Int) < (n : Int)
  · skip
    go_enter Try.func18, Try.ntmps18
    go_wp2_with fail
    refine (framealive_ok _).mono ?_
    rintro e w1 ⟨rfl, hb1⟩
    have hr1 : RB w1 w1.heap.size A l := (RD.below hr hb1).more hb1.size
    go_wp2_with fail
    refine (wrap_ok A c l w1 hr1 (by omega)).mono ?_
    rintro e w2 ⟨v2, rfl, hown2, hb2⟩
    obtain ⟨A2, c2, rfl, hc2, hm2, -⟩ := own_slice hown2
    have hbw := fresh hb1 hb2
    have hr2 : RB w2 w2.heap.size A2 (frm l) := RD.of_own hown2
    have hs2 : RB w2 w2.heap.size M m := (RD.below hs hbw).more hbw.size
    have hcc : ((frm l).length : Int) ≤ (c2 : Int) := by omega
    clear hown2 hb2 hb1 hr1
    go_wp2_with fail
    refine (open_any A2 c2 (frm l) w2 hr2 hc2 (by omega)).mono ?_
    rintro e w3 ⟨ho, hb3⟩
    obtain ⟨v3, rfl, -⟩ := opened_some' (opn_frm l (by omega)) ho
    clear ho
    have hr3 : RB w3 w3.heap.size A2 (frm l) := (RD.below hr2 hb3).more hb3.size
    have hs3 : RB w3 w3.heap.size M m := (RD.below hs2 hb3).more hb3.size
    have hbw3 := fresh hbw hb3
    have hlm : (frm l).length + m.length ≤ 11011 := by omega
    clear hr2 hs2 hb3
    all_goals
      go_wp2_with (first
        | (at_builtin; refine wpList_append_src _ rfl (.tmp 52) (.tmp 53) 23 rfl w3.heap.size 5 i0 (.int .u8 0) 1 1 Try.underlying23 hi0 hz0 hz1 hz2 rfl (by decide) _ 0 [] rfl (own_empty w3 _ _ _ (Nat.le_refl _)) w3.heap.size A2 (frm l).length c2 (u8s (frm l)) rfl (RD.alloc hr3 (Nat.le_refl _) _) (u8s_one _) (by omega) (by decide) (by simp) ?_; intro v4 w4 hown4 hb4; simp only [Nat.zero_add, List.nil_append] at hown4; replace hb4 : Below w3.heap.size w3 w4 := ((Below.refl w3.heap.size w3).alloc (Nat.le_refl _) _).trans hb4)
        | (at_builtin; refine wpList_append_src _ rfl (.tmp 54) (.tmp 55) 23 rfl w3.heap.size 5 i0 (.int .u8 0) 1 1 Try.underlying23 hi0 hz0 hz1 hz2 rfl (by decide) _ _ _ rfl hown4 w4.heap.size M m.length d (u8s m) rfl ((RD.below hs3 hb4).more hb4.size) (u8s_one _) (by omega) (by decide) hb4.size ?_; intro v5 w5 hown5 hb5))
      rw [← u8s_append, ← List.length_append] at hown5
      obtain ⟨A5, c5, rfl, hc5, -, -⟩ := own_slice hown5
      have hr5 : RB w5 w5.heap.size A5 (frm l ++ m) := RD.of_own hown5
      have hb35 := hb4.trans hb5
      clear hown5 hown4 hb4 hb5
      refine (open_any A5 c5 (frm l ++ m) w5 hr5 hc5 (by rw [List.length_append]; omega)).mono ?_
      rintro e w6 ⟨ho, hb6⟩
      obtain ⟨v6, g, rfl, hg⟩ := opened_code (opn_behind l m (by omega)) ho
      have hbw6 := fresh (hbw3.trans (hb35.mono hbw3.size)) hb6
      clear ho hr5 hc5 hb6 hb35
      rcases hg with ⟨rfl, hg⟩ | ⟨rfl, hg⟩
      all_goals
        go_wp2_with fail
        go_ret
        refine ⟨ret_bool ?_, hbw6⟩
        generalize m.length = mm at hg ⊢
        generalize (frm l).length = ll at h4 ⊢
        first | (simp; done) | (simp; omega)
  · have hkn : n ≤ (frm l).length := by omega
    go_enter Try.func18, Try.ntmps18
    go_wp2_with fail
    refine (framealive_ok _).mono ?_
    rintro e w1 ⟨rfl, hb1⟩
    have hr1 : RB w1 w1.heap.size A l := (RD.below hr hb1).more hb1.size
    go_wp2_with fail
    refine (wrap_ok A c l w1 hr1 (by omega)).mono ?_
    rintro e w2 ⟨v2, rfl, hown2, hb2⟩
    obtain ⟨A2, c2, rfl, hc2, hm2, -⟩ := own_slice hown2
    have hbw := fresh hb1 hb2
    have hr2 : RB w2 w2.heap.size A2 (frm l) := RD.of_own hown2
    have hs2 : RB w2 w2.heap.size M m := (RD.below hs hbw).more hbw.size
    have hkc : n ≤ c2 := by omega
    have hkc' : (n : Int) ≤ (c2 : Int) := by omega
    have hrk : RB w2 w2.heap.size A2 ((frm l).take n) := RB.opening hr2 n hkn
    clear hown2 hb2 hb1 hr1
    go_wp2_with fail
    refine (open_len A2 n c2 ((frm l).take n) w2 hrk (by rw [List.length_take, Nat.min_eq_left hkn]) hkc (by omega)).mono ?_
    rintro e w3 ⟨ho, hb3⟩
    obtain ⟨v3, f, rfl, hf⟩ := opened_code (opn_begin l n (by omega) hkn) ho
    clear ho hrk hkn
    have hr3 : RB w3 w3.heap.size A2 (frm l) := (RD.below hr2 hb3).more hb3.size
    have hs3 : RB w3 w3.heap.size M m := (RD.below hs2 hb3).more hb3.size
    have hbw3 := fresh hbw hb3
    have hlm : (frm l).length + m.length ≤ 11011 := by omega
    clear hr2 hs2 hb3
    rcases hf with ⟨rfl, hf⟩ | ⟨rfl, hf⟩
    all_goals
      go_wp2_with (first
        | (at_builtin; refine wpList_append_src _ rfl (.tmp 52) (.tmp 53) 23 rfl w3.heap.size 5 i0 (.int .u8 0) 1 1 Try.underlying23 hi0 hz0 hz1 hz2 rfl (by decide) _ 0 [] rfl (own_empty w3 _ _ _ (Nat.le_refl _)) w3.heap.size A2 (frm l).length c2 (u8s (frm l)) rfl (RD.alloc hr3 (Nat.le_refl _) _) (u8s_one _) (by omega) (by decide) (by simp) ?_; intro v4 w4 hown4 hb4; simp only [Nat.zero_add, List.nil_append] at hown4; replace hb4 : Below w3.heap.size w3 w4 := ((Below.refl w3.heap.size w3).alloc (Nat.le_refl _) _).trans hb4)
        | (at_builtin; refine wpList_append_src _ rfl (.tmp 54) (.tmp 55) 23 rfl w3.heap.size 5 i0 (.int .u8 0) 1 1 Try.underlying23 hi0 hz0 hz1 hz2 rfl (by decide) _ _ _ rfl hown4 w4.heap.size M m.length d (u8s m) rfl ((RD.below hs3 hb4).more hb4.size) (u8s_one _) (by omega) (by decide) hb4.size ?_; intro v5 w5 hown5 hb5))
      rw [← u8s_append, ← List.length_append] at hown5
      obtain ⟨A5, c5, rfl, hc5, -, -⟩ := own_slice hown5
      have hr5 : RB w5 w5.heap.size A5 (frm l ++ m) := RD.of_own hown5
      have hb35 := hb4.trans hb5
      clear hown5 hown4 hb4 hb5
      refine (open_any A5 c5 (frm l ++ m) w5 hr5 hc5 (by rw [List.length_append]; omega)).mono ?_
      rintro e w6 ⟨ho, hb6⟩
      obtain ⟨v6, g, rfl, hg⟩ := opened_code (opn_behind l m (by omega)) ho
      have hbw6 := fresh (hbw3.trans (hb35.mono hbw3.size)) hb6
      clear ho hr5 hc5 hb6 hb35
      rcases hg with ⟨rfl, hg⟩ | ⟨rfl, hg⟩
      all_goals
        go_wp2_with fail
        go_ret
        refine ⟨ret_bool ?_, hbw6⟩
        generalize m.length = mm at hg ⊢
        generalize (frm l).length = ll at h4 hf ⊢
        first | (simp; done) | (simp; omega)
end Go.Proofs.Ytmekoenmaiekfaa
