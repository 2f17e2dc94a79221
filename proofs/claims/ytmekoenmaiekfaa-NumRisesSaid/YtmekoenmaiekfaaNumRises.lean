/-
  NumRises: true for every two numbers. No condition.
-/
import Derived.Test.YtmekoenmaiekfaaNumAlive
namespace Go.Proofs.Ytmekoenmaiekfaa
open Go.RowKit

set_option maxHeartbeats 1600000 in
set_option maxRecDepth 100000 in
theorem numRises_walk (n m : Int) (w : World) :
    Calls Try.prog 3 #[.int .i64 n, .int .i64 m] w fun e w' => e = .returned (.bool true) ∧ Below w.heap.size w w' := by
  rcases (show (0 ≤ n ∧ n ≤ 1099511627776) ∨ (n < 0 ∨ 1099511627776 < n) from by omega) with ⟨hn0, hn1⟩ | hn
  · rcases (show (0 ≤ m ∧ m ≤ 1099511627776) ∨ (m < 0 ∨ 1099511627776 < m) from by omega) with ⟨hm0, hm1⟩ | hm
    · by_cases hnm : n ≤ m
      all_goals
        go_enter Try.func3, Try.ntmps3
        go_wp2_with fail
        refine (alive_ok _).mono ?_
        rintro e w1 ⟨rfl, hb1⟩
        go_wp2_with fail
        refine (put_int n w1 hn0 hn1).mono ?_
        rintro e w2 ⟨v2, rfl, hown2, hb2⟩
        obtain ⟨A2, c2, rfl, -, -, -⟩ := own_slice hown2
        clear hown2
        go_wp2_with fail
        refine (put_int m w2 hm0 hm1).mono ?_
        rintro e w3 ⟨v3, rfl, hown3, hb3⟩
        obtain ⟨A3, c3, rfl, -, -, -⟩ := own_slice hown3
        clear hown3
        go_wp2_with fail
        go_ret
        refine ⟨ret_bool ?_, fresh (fresh hb1 hb2) hb3⟩
        first
          | rfl
          | (have := nb_mono n.toNat m.toNat (by omega); simp [this])
    · have H := hide hm
      rcases hm with hm | hm
      all_goals
        go_enter Try.func3, Try.ntmps3
        go_wp2_with fail
        refine (alive_ok _).mono ?_
        rintro e w1 ⟨rfl, hb1⟩
        go_wp2_with fail
        refine (put_int n w1 hn0 hn1).mono ?_
        rintro e w2 ⟨v2, rfl, hown2, hb2⟩
        obtain ⟨A2, c2, rfl, -, -, -⟩ := own_slice hown2
        clear hown2
        go_wp2_with fail
        refine (put_arg m w2 (unhide H)).mono ?_
        rintro e w3 ⟨rfl, rfl⟩
        go_wp2_with fail
        go_ret
        exact ⟨rfl, fresh hb1 hb2⟩
  · have H := hide hn
    rcases (show (0 ≤ m ∧ m ≤ 1099511627776) ∨ (m < 0 ∨ 1099511627776 < m) from by omega) with ⟨hm0, hm1⟩ | hm
    · rcases hn with hn | hn
      all_goals
        go_enter Try.func3, Try.ntmps3
        go_wp2_with fail
        refine (alive_ok _).mono ?_
        rintro e w1 ⟨rfl, hb1⟩
        go_wp2_with fail
        refine (put_arg n w1 (unhide H)).mono ?_
        rintro e w3 ⟨rfl, rfl⟩
        go_wp2_with fail
        refine (put_int m w1 hm0 hm1).mono ?_
        rintro e w2 ⟨v2, rfl, hown2, hb2⟩
        obtain ⟨A2, c2, rfl, -, -, -⟩ := own_slice hown2
        clear hown2
        go_wp2_with fail
        go_ret
        exact ⟨rfl, fresh hb1 hb2⟩
    · have H2 := hide hm
      rcases hn with hn | hn <;> rcases hm with hm | hm
      all_goals
        go_enter Try.func3, Try.ntmps3
        go_wp2_with fail
        refine (alive_ok _).mono ?_
        rintro e w1 ⟨rfl, hb1⟩
        go_wp2_with fail
        refine (put_arg n w1 (unhide H)).mono ?_
        rintro e w3 ⟨rfl, rfl⟩
        go_wp2_with fail
        refine (put_arg m w1 (unhide H2)).mono ?_
        rintro e w3 ⟨rfl, rfl⟩
        go_wp2_with fail
        go_ret
        exact ⟨rfl, hb1⟩
end Go.Proofs.Ytmekoenmaiekfaa
