/-
  NumNames, NumTells, NumShort, NumBack: true for every input. No condition.
-/
import Derived.Test.YtmekoenmaiekfaaNumAlive
import Derived.Test.YtmekoenmaiekfaaNumRef
import Derived.Test.YtmekoenmaiekfaaNumBackMath
import Derived.Test.YtmekoenmaiekfaaAppend
namespace Go.Proofs.Ytmekoenmaiekfaa
open Go.RowKit

theorem get_len (A : Option Addr) (n c : Nat) (l : List UInt8) (w : World) (hr : RB w w.heap.size A l) (hn : l.length = n) (hl : n < 1073741824) :
    Calls Try.prog 28 #[.slice A n c] w fun e w' => e = .returned (gval (gget l)) ∧ w = w' := by
  subst hn
  exact get_any A c l w hr hl

set_option maxHeartbeats 800000 in
set_option maxRecDepth 100000 in
theorem numShort_walk (n : Int) (many : UInt8) (w : World) :
    Calls Try.prog 13 #[.int .i64 n, .int .u8 (many.toNat : Int)] w fun e w' => e = .returned (.bool true) ∧ Below w.heap.size w w' := by
  rcases (show (0 ≤ n ∧ n ≤ 1099511627776) ∨ (n < 0 ∨ 1099511627776 < n) from by omega) with ⟨hn0, hn1⟩ | hn
  · have C := hide (fun w => put_int n w hn0 hn1)
    have hsix := nb_six (n := n.toNat) (by omega)
    obtain ⟨k, hk, hk2, hmin⟩ : ∃ k : Nat, k ≤ (nb n.toNat).length ∧ (k < (nb n.toNat).length ∨ k = (nb n.toNat).length) ∧ (if (nb n.toNat).length < many.toNat then ((nb n.toNat).length : Int) else (many.toNat : Int)) = (k : Int) := by
      refine ⟨min many.toNat (nb n.toNat).length, by omega, by omega, ?_⟩
      split <;> omega
    have hshort := hide (fun h => gget_short n.toNat k (by omega) h)
    have hwhole := hide (gget_nb n.toNat [] (by omega))
    have hmany := many.toNat_lt
    have hmany2 : (many.toNat : Int) ≤ 255 := by omega
    clear hn0 hn1
    go_enter Try.func13, Try.ntmps13
    go_wp2_with fail
    refine (alive_ok _).mono ?_
    rintro e w1 ⟨rfl, hb1⟩
    go_wp2_with fail
    refine (unhide C w1).mono ?_
    rintro e w2 ⟨v2, rfl, hown2, hb2⟩
    obtain ⟨A2, c2, rfl, hc2, hm2, -⟩ := own_slice hown2
    have hr2 : RB w2 w2.heap.size A2 (nb n.toNat) := RD.of_own hown2
    have hk3 : (k : Int) ≤ (c2 : Int) := by omega
    have hk4 : k ≤ c2 := by omega
    clear hown2 C
    go_wp2_with fail
    have hrk : RB w2 w2.heap.size A2 ((nb n.toNat).take k) := by
      have := hr2.take hk
      rw [Nat.mul_one, u8s_take] at this
      unfold RB
      rw [List.length_take, Nat.min_eq_left hk]; exact this
    have hlk : ((nb n.toNat).take k).length = k := by rw [List.length_take, Nat.min_eq_left hk]
    refine (get_len A2 k c2 ((nb n.toNat).take k) w2 hrk hlk (by omega)).mono ?_
    rintro e w3 ⟨rfl, rfl⟩
    rcases hk2 with hk2 | hk2
    · rw [hshort.out hk2]
      have z : ((k : Int) == ((nb n.toNat).length : Int)) = false := by simp; omega
      unfold gval
      go_wp2_with fail
      go_ret
      exact ⟨rfl, fresh hb1 hb2⟩
    · have e1 : gget ((nb n.toNat).take k) = some (n.toNat, k) := by
        rw [hk2, List.take_of_length_le (Nat.le_refl _)]
        have := hwhole.out
        rw [List.append_nil] at this
        exact this
      rw [e1]
      have z : ((k : Int) == ((nb n.toNat).length : Int)) = true := by simp; omega
      clear e1 hk2
      unfold gval
      go_wp2_with fail
      go_ret
      exact ⟨rfl, fresh hb1 hb2⟩
  · have H := hide hn
    rcases hn with hn | hn
    all_goals
      go_enter Try.func13, Try.ntmps13
      go_wp2_with fail
      refine (alive_ok _).mono ?_
      rintro e w1 ⟨rfl, hb1⟩
      go_wp2_with fail
      refine (put_arg n w1 (unhide H)).mono ?_
      rintro e w2 ⟨rfl, rfl⟩
      go_wp2_with fail
      go_ret
      exact ⟨rfl, hb1⟩

set_option maxHeartbeats 1600000 in
set_option maxRecDepth 100000 in
theorem numTells_walk (n : Int) (A : Option Addr) (c : Nat) (l : List UInt8) (w : World) (hr : RB w w.heap.size A l) :
    Calls Try.prog 11 #[.int .i64 n, .slice A l.length c] w fun e w' => e = .returned (.bool true) ∧ Below w.heap.size w w' := by
  by_cases hl : (10000 : Int) < (l.length : Int)
  · go_enter Try.func11, Try.ntmps11
    go_wp2_with fail
    go_ret
    exact ⟨rfl, Below.refl _ _⟩
  have hll : l.length < 1073741824 := by omega
  have hc0 := conv_bytes (P := Try.prog) hr Try.underlying23 Try.underlying5 Try.underlying9 c
  obtain ⟨gn, gs, ge, hgv⟩ : ∃ gn gs ge : Int, gval (gget l) = .tuple #[.int .i64 gn, .int .i64 gs, .int .i64 ge] := by
    cases gget l with
    | none => exact ⟨_, _, _, rfl⟩
    | some p => exact ⟨_, _, _, rfl⟩
  have hgv' := hide hgv
  clear hgv
  rcases (show (0 ≤ n ∧ n ≤ 1099511627776) ∨ (n < 0 ∨ 1099511627776 < n) from by omega) with ⟨hn0, hn1⟩ | hn
  · have C := hide (fun w => put_int n w hn0 hn1)
    have D := hide (fun w => refput_int n w hn0 hn1)
    clear hn0 hn1
    go_enter Try.func11, Try.ntmps11
    go_wp2_with fail
    clear hc0
    refine (unhide C w).mono ?_
    rintro e w1 ⟨v1, rfl, hown1, hb1⟩
    obtain ⟨A1, c1, rfl, -, -, -⟩ := own_slice hown1
    have hr1 : RB w1 w1.heap.size A1 (nb n.toNat) := RD.of_own hown1
    have hrl1 : RB w1 w1.heap.size A l := (RD.below hr hb1).more hb1.size
    clear hown1
    go_wp2_with fail
    refine (unhide D w1).mono ?_
    rintro e w2 ⟨v2, rfl, hown2, hb2⟩
    obtain ⟨A2, c2, rfl, -, -, -⟩ := own_slice hown2
    have hr2 : RB w2 w2.heap.size A2 (nb n.toNat) := RD.of_own hown2
    have hr12 : RB w2 w2.heap.size A1 (nb n.toNat) := (RD.below hr1 hb2).more hb2.size
    have hrl2 : RB w2 w2.heap.size A l := (RD.below hrl1 hb2).more hb2.size
    clear hown2
    go_wp2_with fail
    refine (get_any A c l w2 hrl2 hll).mono ?_
    rintro e w3 ⟨rfl, rfl⟩
    rw [hgv'.out]
    go_wp2_with fail
    refine (refget_any A c l w2 hrl2 hll).mono ?_
    rintro e w3 ⟨rfl, rfl⟩
    rw [hgv'.out]
    have k1 := conv_bytes (P := Try.prog) hr12 Try.underlying23 Try.underlying5 Try.underlying9 c1
    have k2 := conv_bytes (P := Try.prog) hr2 Try.underlying23 Try.underlying5 Try.underlying9 c2
    have k3 := conv_bytes (P := Try.prog) hrl2 Try.underlying23 Try.underlying5 Try.underlying9 c
    go_wp2_with fail
    go_ret
    exact ⟨rfl, fresh hb1 hb2⟩
  · have C := hide (fun w => put_arg n w hn)
    have D := hide (fun w => refput_arg n w hn)
    clear hn
    have k0 : ∀ w, (convert 23 9 (.slice none 0 0)).run Try.prog w = .ok (.string ByteArray.empty) w := fun w => run_convert_bytes_nil w 23 5 Try.underlying23 Try.underlying5 0 0 9 Try.underlying9
    go_enter Try.func11, Try.ntmps11
    go_wp2_with fail
    refine (unhide C w).mono ?_
    rintro e w1 ⟨rfl, rfl⟩
    go_wp2_with fail
    refine (unhide D w).mono ?_
    rintro e w2 ⟨rfl, rfl⟩
    go_wp2_with fail
    refine (get_any A c l w hr hll).mono ?_
    rintro e w3 ⟨rfl, rfl⟩
    rw [hgv'.out]
    go_wp2_with fail
    refine (refget_any A c l w hr hll).mono ?_
    rintro e w3 ⟨rfl, rfl⟩
    rw [hgv'.out]
    go_wp2_with fail
    go_ret
    exact ⟨rfl, Below.refl _ _⟩

set_option maxHeartbeats 1600000 in
set_option maxRecDepth 100000 in
theorem numBack_walk (n : Int) (A : Option Addr) (c : Nat) (l : List UInt8) (w : World) (hr : RB w w.heap.size A l) (hcap : l.length ≤ c) :
    Calls Try.prog 12 #[.int .i64 n, .slice A l.length c] w fun e w' => e = .returned (.bool true) ∧ Below w.heap.size w w' := by
  by_cases hl : (10000 : Int) < (l.length : Int)
  · go_enter Try.func12, Try.ntmps12
    go_wp2_with fail
    refine (alive_ok _).mono ?_
    rintro e w1 ⟨rfl, hb1⟩
    go_wp2_with fail
    go_ret
    exact ⟨rfl, hb1⟩
  have hll : l.length < 1073741824 := by omega
  have hg : gget l = none ∨ ∃ m s, gget l = some (m, s) ∧ m ≤ 1099511627776 ∧ s ≤ l.length ∧ nb m = l.take s ∧ (nb m).length = s := by
    cases hg : gget l with
    | none => exact .inl rfl
    | some p => exact .inr ⟨p.1, p.2, rfl, gget_inv hg⟩
  obtain ⟨i0, hi0, hz0, hz1, hz2⟩ := info_parts u8info
  rcases (show (0 ≤ n ∧ n ≤ 1099511627776) ∨ (n < 0 ∨ 1099511627776 < n) from by omega) with ⟨hn0, hn1⟩ | hn
  · have C := hide (fun w => put_int n w hn0 hn1)
    have hsix := nb_six (n := n.toNat) (by omega)
    have hwhole := hide (gget_nb n.toNat l (by omega))
    have hnn : ((n.toNat : Nat) : Int) = n := by omega
    clear hn1
    go_enter Try.func12, Try.ntmps12
    go_wp2_with fail
    refine (alive_ok _).mono ?_
    rintro e w1 ⟨rfl, hb1⟩
    have hrl1 : RB w1 w1.heap.size A l := (RD.below hr hb1).more hb1.size
    go_wp2_with fail
    refine (unhide C w1).mono ?_
    rintro e w2 ⟨v2, rfl, hown2, hb2⟩
    obtain ⟨A2, c2, rfl, -, -, -⟩ := own_slice hown2
    have hr2 : RB w2 w2.heap.size A2 (nb n.toNat) := RD.of_own hown2
    have hrl2 : RB w2 w2.heap.size A l := (RD.below hrl1 hb2).more hb2.size
    clear hown2 C
    go_wp2_with (first
      | (at_builtin; refine wpList_append_src _ rfl (.tmp 33) (.tmp 34) 23 rfl w2.heap.size 5 i0 (.int .u8 0) 1 1 Try.underlying23 hi0 hz0 hz1 hz2 rfl (by decide) _ 0 [] rfl (own_empty w2 _ _ _ (Nat.le_refl _)) w2.heap.size A2 (nb n.toNat).length c2 (u8s (nb n.toNat)) rfl (RD.alloc hr2 (Nat.le_refl _) _) (u8s_one _) (by omega) (by decide) (by simp) ?_; intro v3 w3 hown3 hb3; simp only [Nat.zero_add, List.nil_append] at hown3; have hb23 := ((Below.refl w2.heap.size w2).alloc (Nat.le_refl _) (.cells #[] 5)).trans hb3)
      | (at_builtin; refine wpList_append_src _ rfl (.tmp 35) (.tmp 36) 23 rfl w2.heap.size 5 i0 (.int .u8 0) 1 1 Try.underlying23 hi0 hz0 hz1 hz2 rfl (by decide) _ _ _ rfl hown3 w2.heap.size A l.length c (u8s l) rfl (RD.below hrl2 hb23) (u8s_one _) (by omega) (by decide) hb23.size ?_; intro v4 w4 hown4 hb4))
    have hb24 := hb23.trans hb4
    rw [← u8s_append, ← List.length_append] at hown4
    obtain ⟨A4, c4, rfl, -, -, -⟩ := own_slice hown4
    have hr4 : RB w4 w4.heap.size A4 (nb n.toNat ++ l) := RD.of_own hown4
    have hrl4 : RB w4 w4.heap.size A l := (RD.below hrl2 hb24).more hb24.size
    clear hown4 hown3
    refine (get_any A4 c4 (nb n.toNat ++ l) w4 hr4 (by rw [List.length_append]; omega)).mono ?_
    rintro e w5 ⟨rfl, rfl⟩
    rw [hwhole.out]
    unfold gval
    go_wp2_with fail
    refine (get_any A c l w4 hrl4 hll).mono ?_
    rintro e w5 ⟨rfl, rfl⟩
    have hbw := fresh (fresh hb1 hb2) hb24
    rcases hg with hg | ⟨m, s, hg, hm1, hs1, hbb, hsl⟩
    · rw [hg]
      unfold gval
      clear hg
      go_wp2_with fail
      go_ret
      exact ⟨rfl, hbw⟩
    · rw [hg]
      unfold gval
      clear hg
      have P := hide (put_ok m w4 hm1)
      have hbb' := hide hbb
      have hsl' := hide hsl
      clear hbb hsl hm1
      have hs2 : (s : Int) ≤ (l.length : Int) := by omega
      have hs3 : (s : Int) ≤ (c : Int) := by omega
      have hs4 : s ≤ c := by omega
      go_wp2_with fail
      refine (unhide P).mono ?_
      rintro e w6 ⟨v6, rfl, hown6, hb6⟩
      obtain ⟨A6, c6, rfl, -, -, -⟩ := own_slice hown6
      have hr6 : RB w6 w6.heap.size A6 (nb m) := RD.of_own hown6
      have hrl6 : RB w6 w6.heap.size A l := (RD.below hrl4 hb6).more hb6.size
      clear hown6 P
      have hts : (l.take s).length = s := by rw [List.length_take]; omega
      have hrs : RB w6 w6.heap.size A (l.take s) := by
        have := hrl6.take hs1
        rw [Nat.mul_one, u8s_take] at this
        unfold RB
        rw [hts]; exact this
      have kk1 : ∀ nq, (convert 23 9 (.slice A6 (nb m).length c6)).run Try.prog (w6.drewN nq) = .ok (.string ⟨(nb m).toArray⟩) (w6.drewN nq) := fun nq =>
        conv_bytes (P := Try.prog) (RD.drewN hr6 nq) Try.underlying23 Try.underlying5 Try.underlying9 c6
      have kk2 : ∀ nq, (convert 23 9 (.slice A s c)).run Try.prog (w6.drewN nq) = .ok (.string ⟨(nb m).toArray⟩) (w6.drewN nq) := fun nq => by
        have := conv_bytes (P := Try.prog) (RD.drewN hrs nq) Try.underlying23 Try.underlying5 Try.underlying9 c
        rw [hts, ← hbb'.out] at this
        exact this
      clear hrs hr6 hrl6 hts
      go_wp2_with fail
      go_quiet (fail)
      go_wp2_with fail
      go_ret
      exact ⟨rfl, below_drewN (fresh hbw hb6) _⟩
  · have C := hide (fun w => put_arg n w hn)
    clear hn
    go_enter Try.func12, Try.ntmps12
    go_wp2_with fail
    refine (alive_ok _).mono ?_
    rintro e w4 ⟨rfl, hbw⟩
    have hrl4 : RB w4 w4.heap.size A l := (RD.below hr hbw).more hbw.size
    go_wp2_with fail
    refine (unhide C w4).mono ?_
    rintro e w2 ⟨rfl, rfl⟩
    go_wp2_with fail
    refine (get_any A c l w4 hrl4 hll).mono ?_
    rintro e w5 ⟨rfl, rfl⟩
    rcases hg with hg | ⟨m, s, hg, hm1, hs1, hbb, hsl⟩
    · rw [hg]
      unfold gval
      clear hg
      go_wp2_with fail
      go_ret
      exact ⟨rfl, hbw⟩
    · rw [hg]
      unfold gval
      clear hg
      have P := hide (put_ok m w4 hm1)
      have hbb' := hide hbb
      have hsl' := hide hsl
      clear hbb hsl hm1
      have hs2 : (s : Int) ≤ (l.length : Int) := by omega
      have hs3 : (s : Int) ≤ (c : Int) := by omega
      have hs4 : s ≤ c := by omega
      go_wp2_with fail
      refine (unhide P).mono ?_
      rintro e w6 ⟨v6, rfl, hown6, hb6⟩
      obtain ⟨A6, c6, rfl, -, -, -⟩ := own_slice hown6
      have hr6 : RB w6 w6.heap.size A6 (nb m) := RD.of_own hown6
      have hrl6 : RB w6 w6.heap.size A l := (RD.below hrl4 hb6).more hb6.size
      clear hown6 P
      have hts : (l.take s).length = s := by rw [List.length_take]; omega
      have hrs : RB w6 w6.heap.size A (l.take s) := by
        have := hrl6.take hs1
        rw [Nat.mul_one, u8s_take] at this
        unfold RB
        rw [hts]; exact this
      have kk1 : ∀ nq, (convert 23 9 (.slice A6 (nb m).length c6)).run Try.prog (w6.drewN nq) = .ok (.string ⟨(nb m).toArray⟩) (w6.drewN nq) := fun nq =>
        conv_bytes (P := Try.prog) (RD.drewN hr6 nq) Try.underlying23 Try.underlying5 Try.underlying9 c6
      have kk2 : ∀ nq, (convert 23 9 (.slice A s c)).run Try.prog (w6.drewN nq) = .ok (.string ⟨(nb m).toArray⟩) (w6.drewN nq) := fun nq => by
        have := conv_bytes (P := Try.prog) (RD.drewN hrs nq) Try.underlying23 Try.underlying5 Try.underlying9 c
        rw [hts, ← hbb'.out] at this
        exact this
      clear hrs hr6 hrl6 hts
      go_wp2_with fail
      go_quiet (fail)
      go_wp2_with fail
      go_ret
      exact ⟨rfl, below_drewN (fresh hbw hb6) _⟩

set_option maxHeartbeats 400000 in
set_option maxRecDepth 100000 in
theorem bad_ok (A : Option Addr) (n c : Nat) (l : List UInt8) (w : World) (hr : RB w w.heap.size A l) (hn : l.length = n) (hl : n < 1073741824) (hg : gget l = none) :
    Calls Try.prog 29 #[.slice A n c] w fun e w' => e = .returned (.bool true) ∧ w = w' := by
  have C := hide (get_len A n c l w hr hn hl)
  have hg' := hide hg
  clear hg hn
  go_enter Try.func29, Try.ntmps29
  go_wp2_with fail
  refine (unhide C).mono ?_
  rintro e w1 ⟨rfl, rfl⟩
  rw [hg'.out]
  unfold gval
  go_wp2_with fail
  go_ret
  exact ⟨rfl, rfl⟩

/-- A contract that says the world is as it was, said by 'Below'. -/
theorem weak {P : Program} {f : FuncId} {args : Array Value} {w : World} {v : Value} (h : Calls P f args w fun e w' => e = .returned v ∧ w = w') : Calls P f args w fun e w' => e = .returned v ∧ Below w.heap.size w w' :=
  h.mono fun _ _ ⟨he, hw⟩ => ⟨he, hw ▸ Below.refl _ _⟩

theorem gget_a : gget [172, 2, 9] = some (300, 2) := by decide +kernel
theorem gget_b : gget [128] = none := by decide +kernel
theorem gget_c : gget [128, 0] = none := by decide +kernel
theorem nb_most : (nb 1099511627776).length = 6 := by
  rw [nb_big (by omega), nb_big (by omega), nb_big (by omega), nb_big (by omega), nb_big (by omega), nb_small (by omega)]; rfl

set_option maxHeartbeats 800000 in
set_option maxRecDepth 100000 in
theorem numNames_walk (w : World) :
    Calls Try.prog 10 #[] w fun e w' => e = .returned (.bool true) ∧ Below w.heap.size w w' := by
  go_enter Try.func10, Try.ntmps10
  go_wp2_with fail
  have hb0 := (Below.refl w.heap.size w).alloc (Nat.le_refl _) (.cells #[.int .u8 172, .int .u8 2, .int .u8 9] 5)
  refine (weak (get_len _ 3 3 [172, 2, 9] _ (RB.row (heap_alloc_new w _) rfl) rfl (by omega))).mono ?_
  rintro e w1 ⟨rfl, hb1⟩
  rw [gget_a]
  unfold gval
  go_wp2_with fail
  refine (put_arg (-1) w1 (.inl (by omega))).mono ?_
  rintro e w2 ⟨rfl, rfl⟩
  go_wp2_with fail
  refine (put_arg 1099511627777 w1 (.inr (by omega))).mono ?_
  rintro e w2 ⟨rfl, rfl⟩
  go_wp2_with fail
  refine (put_int 1099511627776 w1 (by omega) (by omega)).mono ?_
  rintro e w2 ⟨v2, rfl, hown2, hb2⟩
  rw [show (1099511627776 : Int).toNat = 1099511627776 from rfl, nb_most] at hown2
  obtain ⟨A2, c2, rfl, -, -, -⟩ := own_slice hown2
  clear hown2
  go_wp2_with fail
  refine (alive_ok w2).mono ?_
  rintro e w3 ⟨rfl, hb3⟩
  go_wp2_with fail
  refine (bad_ok none 0 0 [] w3 RD.nil_ rfl (by omega) rfl).mono ?_
  rintro e w4 ⟨rfl, rfl⟩
  go_wp2_with fail
  have hb4 := (Below.refl w3.heap.size w3).alloc (Nat.le_refl _) (.cells #[.int .u8 128] 5)
  refine (weak (bad_ok _ 1 1 [128] _ (RB.row (heap_alloc_new w3 _) rfl) rfl (by omega) gget_b)).mono ?_
  rintro e w4 ⟨rfl, hb41⟩
  go_wp2_with fail
  have hb5 := (Below.refl w4.heap.size w4).alloc (Nat.le_refl _) (.cells #[.int .u8 128, .int .u8 0] 5)
  refine (weak (bad_ok _ 2 2 [128, 0] _ (RB.row (heap_alloc_new w4 _) rfl) rfl (by omega) gget_c)).mono ?_
  rintro e w5 ⟨rfl, hb51⟩
  go_wp2_with fail
  go_ret
  exact ⟨rfl, fresh (fresh (fresh (fresh (fresh hb0 hb1) hb2) hb3) (fresh hb4 hb41)) (fresh hb5 hb51)⟩
end Go.Proofs.Ytmekoenmaiekfaa
