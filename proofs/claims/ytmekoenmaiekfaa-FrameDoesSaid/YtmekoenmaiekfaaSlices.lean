/-
  What slices.Equal, Clone, Grow (of nil), Concat do to bytes. Condition: fewer than 2^30 bytes.
-/
import Derived.Test.YtmekoenmaiekfaaNumPut
import Derived.Test.YtmekoenmaiekfaaAppend
import Derived.Lib.AppendZeros
import Derived.BigQuiet
namespace Go.Proofs.Ytmekoenmaiekfaa
open Go.RowKit

set_option maxHeartbeats 800000 in
set_option maxRecDepth 100000 in
/-- slices.Equal: the same bytes. -/
theorem equal_any (A B : Option Addr) (c d : Nat) (l m : List UInt8) (w : World) (hr : RB w w.heap.size A l) (hs : RB w w.heap.size B m) (hl : l.length < 1073741824) (hm : m.length < 1073741824) :
    Calls Try.prog 42 #[.slice A l.length c, .slice B m.length d] w fun e w' => e = .returned (.bool (l == m)) ∧ Below w.heap.size w w' := by
  by_cases hne : (l.length : Int) = (m.length : Int)
  · have hll : l.length = m.length := by omega
    have E := hide hll
    have hbe : ((l.length : Int) == (m.length : Int)) = true := by simpa using hne
    have hbn : ((l.length : Int) != (m.length : Int)) = false := by simpa using hne
    clear hne
    go_enter Try.func42, Try.ntmps42
    clear hll
    go_wp2_with fail
    go_loopw [13] (fun i wr => ∃ k : Nat, k ≤ l.length ∧ i = .int .i64 (k : Int) ∧ Hid (l.take k = m.take k) ∧ Below w.heap.size w wr) (fun i _ => l.length - (intOf i).toNat)
    case atStart => exact ⟨0, by omega, rfl, hide rfl, Below.refl _ _⟩
    case round =>
      obtain ⟨k, hk, rfl, hT, hb⟩ := hrel
      by_cases hlt : k < l.length
      · have hltm : k < m.length := by have := E.out; omega
        obtain ⟨b0, o0, rfl, hB0, hC0⟩ := RB.cell (RD.below hr hb) (by omega)
        obtain ⟨b1, o1, rfl, hB1, hC1⟩ := RB.cell (RD.below hs hb) (by omega)
        have d0 := hC0 k hlt
        have d1 := hC1 k hltm
        clear hC0 hC1
        have z0 : (k : Int) < l.length := by omega
        have z1 : (k : Int) < m.length := by omega
        have z4 : (0 : Int) ≤ k := by omega
        obtain ⟨x, hx⟩ : ∃ x, x = l[k] := ⟨_, rfl⟩
        obtain ⟨y, hy⟩ : ∃ y, y = m[k] := ⟨_, rfl⟩
        rw [← hx] at d0
        rw [← hy] at d1
        have hx' := hide hx
        have hy' := hide hy
        clear hx hy
        by_cases hxy : x = y
        · have hn : ((x.toNat : Int) != (y.toNat : Int)) = false := by simp [hxy]
          have hxy' := hide hxy
          clear hxy
          go_wp2_with fail
          go_quiet (fail)
          go_wp2_with fail
          go_roundw
          case rel =>
            refine ⟨k + 1, by omega, by go_num, hide ?_, below_drewN hb _⟩
            rw [List.take_succ_eq_append_getElem hlt, List.take_succ_eq_append_getElem hltm, hT.out, ← hx'.out, ← hy'.out, hxy'.out]
          case measure => simp [intOf]; omega
        · have hn : ((x.toNat : Int) != (y.toNat : Int)) = true := by
            simp only [bne_iff_ne, ne_eq, Int.natCast_inj]
            exact fun e => hxy (UInt8.toNat_inj.1 e)
          have hxy' := hide hxy
          clear hxy
          go_wp2_with fail
          go_quiet (fail)
          go_wp2_with fail
          go_ret
          refine ⟨ret_bool ?_, below_drewN hb _⟩
          symm
          rw [beq_eq_false_iff_ne]
          intro e
          subst e
          exact hxy'.out (hx'.out.trans hy'.out.symm)
      · have hkl : ¬ (k : Int) < l.length := by omega
        have fin := hide (show (l == m) = true by
          have h1 := hT.out
          rw [List.take_of_length_le (by omega), List.take_of_length_le (by have := E.out; omega)] at h1
          simpa using h1)
        go_wp2_with fail
        go_ret
        exact ⟨ret_bool fin.out.symm, hb⟩
  · have hbe : ((l.length : Int) == (m.length : Int)) = false := by simpa using hne
    have hbn : ((l.length : Int) != (m.length : Int)) = true := by simpa using hne
    have fin := hide (show (l == m) = false by
      rw [beq_eq_false_iff_ne]
      intro e
      exact hne (by rw [e]))
    clear hne
    go_enter Try.func42, Try.ntmps42
    go_wp2_with fail
    go_ret
    exact ⟨ret_bool fin.out.symm, Below.refl _ _⟩

theorem eql_nil (w : World) (a : Option Addr) (n c : Nat) : (binOp .eql 23 (.slice a n c) (.slice none 0 0)).run Try.prog w = .ok (.bool a.isNone) w := by
  simp only [binOp]
  simp [run_equal_slice_nil w 23 5 a n c Try.underlying23]

set_option maxHeartbeats 400000 in
set_option maxRecDepth 100000 in
/-- slices.Clone: the same bytes in new memory. -/
theorem clone_any (A : Option Addr) (n c : Nat) (l : List UInt8) (w : World) (hr : RB w w.heap.size A l) (hn : l.length = n) (hl : n < 1073741824) (hnil : A = none → c = 0) :
    Calls Try.prog 43 #[.slice A n c] w fun e w' => ∃ v, e = .returned v ∧ w'.ownsRow w.heap.size 5 1 v l.length (u8s l) ∧ Below w.heap.size w w' := by
  subst hn
  obtain ⟨i0, hi0, hz0, hz1, hz2⟩ := info_parts u8info
  rcases A with _ | a
  · have hl0 : l.length = 0 := by
      rcases Nat.eq_zero_or_pos l.length with h | h
      · exact h
      · obtain ⟨b, off, h, _⟩ := hr.2 h
        cases h
    obtain rfl := List.eq_nil_of_length_eq_zero hl0
    obtain rfl := hnil rfl
    clear hnil hl0
    have heq := fun w : World => eql_nil w none 0 0
    go_enter Try.func43, Try.ntmps43
    go_wp2_with fail
    go_ret
    exact ⟨_, rfl, World.ownsRow_nil _ _ _ _, Below.refl _ _⟩
  · clear hnil
    have heq := fun w : World => eql_nil w (some a) l.length c
    go_enter Try.func43, Try.ntmps43
    go_wp2_with (at_builtin; refine wpList_append_src _ rfl (.tmp 5) (.tmp 6) 23 rfl w.heap.size 5 i0 (.int .u8 0) 1 1 Try.underlying23 hi0 hz0 hz1 hz2 rfl (by decide) _ 0 [] rfl (own_empty w _ _ _ (Nat.le_refl _)) w.heap.size (some a) l.length c (u8s l) rfl (RD.alloc hr (Nat.le_refl _) _) (u8s_one _) (by omega) (by decide) (by simp) ?_; intro v1 w1 hown1 hb1; simp only [Nat.zero_add, List.nil_append] at hown1)
    go_ret
    exact ⟨_, rfl, hown1, ((Below.refl w.heap.size w).alloc (Nat.le_refl _) _).trans hb1⟩

set_option maxHeartbeats 400000 in
set_option maxRecDepth 100000 in
/-- slices.Grow of nil: nothing is owned yet. -/
theorem grow_any (n : Nat) (w : World) (hn : n < 1073741824) :
    Calls Try.prog 45 #[.slice none 0 0, .int .i64 (n : Int)] w fun e w' => ∃ v, e = .returned v ∧ w'.ownsRow w.heap.size 5 1 v 0 [] ∧ Below w.heap.size w w' := by
  obtain ⟨i0, hi0, hz0, hz1, hz2⟩ := info_parts u8info
  by_cases h0 : 0 < n
  · have h0' : (0 : Int) < n := by omega
    go_enter Try.func45, Try.ntmps45
    go_wp2_with (at_builtin; refine Lib.wpList_append_run _ rfl (.tmp 20) (.tmp 21) 23 3 rfl _ _ rfl rfl _ _ (Lib.run_append_nil_zeros w 23 3 _ 5 i0 (.int .u8 0) .i64 .i64 Try.underlying23 Try.underlying3 hi0 hz0 n h0 (by omega) (by omega) (by rw [hz2]; omega)) ?_)
    go_ret
    refine ⟨_, rfl, ?_, ((Below.refl w.heap.size w).alloc (Nat.le_refl _) _).drew⟩
    have hge := grownCap_ge w n 0 5
    exact (World.ownsRow_made w _ (grownCap w n 0 5) (Nat.le_refl _) (grownCap_le_maxLen w n 0 _ (by unfold maxLen; omega)) (by simp [size_zeroCells]; omega)).drew
  · have h0' : ¬ (0 : Int) < n := by omega
    have hn0 : n = 0 := by omega
    subst hn0
    go_enter Try.func45, Try.ntmps45
    go_wp2_with fail
    go_ret
    exact ⟨_, rfl, World.ownsRow_nil _ _ _ _, Below.refl _ _⟩

/-- The bytes of the first k of some slices. -/
def flat (xs : List (Option Addr × List UInt8 × Nat)) (k : Nat) : List UInt8 := (xs.take k).flatMap fun x => x.2.1
theorem flat_succ (xs : List (Option Addr × List UInt8 × Nat)) (k : Nat) (h : k < xs.length) : flat xs (k + 1) = flat xs k ++ xs[k].2.1 := by
  unfold flat
  rw [List.take_succ_eq_append_getElem h, List.flatMap_append]
  simp
theorem flat_le (xs : List (Option Addr × List UInt8 × Nat)) (k : Nat) : (flat xs k).length ≤ (flat xs xs.length).length := by
  have : flat xs xs.length = flat xs k ++ (xs.drop k).flatMap fun x => x.2.1 := by
    unfold flat
    rw [List.take_length, ← List.flatMap_append, List.take_append_drop]
  rw [this, List.length_append]
  omega

set_option maxHeartbeats 800000 in
set_option maxRecDepth 100000 in
/-- slices.Concat: all bytes in new memory. -/
theorem concat_any (b c : Nat) (xs : List (Option Addr × List UInt8 × Nat)) (w : World) (hb : b < w.heap.size) (hc : ∀ j (h : j < xs.length), w.cell? ⟨b, j, none⟩ = some (.slice xs[j].1 xs[j].2.1.length xs[j].2.2))
    (hr : ∀ j (h : j < xs.length), RB w w.heap.size xs[j].1 xs[j].2.1) (hl : (flat xs xs.length).length < 1073741824) (hm : xs.length < 1000) :
    Calls Try.prog 41 #[.slice (some ⟨b, 0, none⟩) xs.length c] w fun e w' => ∃ v, e = .returned v ∧ w'.ownsRow w.heap.size 5 1 v (flat xs xs.length).length (u8s (flat xs xs.length)) ∧ Below w.heap.size w w' := by
  obtain ⟨i0, hi0, hz0, hz1, hz2⟩ := info_parts u8info
  have HC := hide hc
  have HR := hide hr
  have hml : (xs.length : Int) < 1000 := by omega
  clear hc hr
  go_enter Try.func41, Try.ntmps41
  go_wp2_with fail
  go_loop [3, 11] (fun n i => ∃ k : Nat, k ≤ xs.length ∧ i = .int .i64 (k : Int) ∧ n = .int .i64 ((flat xs k).length : Int)) (fun _ i => xs.length - (intOf i).toNat)
  case atStart => exact ⟨0, by omega, rfl, rfl⟩
  case round =>
    obtain ⟨k, hk, rfl, rfl⟩ := hrel
    have hle := flat_le xs k
    by_cases hlt : k < xs.length
    · have hck := HC.out k hlt
      have hle2 := flat_le xs (k + 1)
      have hs := congrArg List.length (flat_succ xs k hlt)
      rw [List.length_append] at hs
      have hsum : ((flat xs k).length : Int) + (xs[k].2.1.length : Int) ≤ 1073741824 := by omega
      have hs' := hide hs
      clear hs
      generalize xs[k].1 = A1 at hck
      generalize xs[k].2.1.length = n1 at hck hsum hs'
      generalize xs[k].2.2 = c1 at hck
      go_wp2_with fail
      go_round
      case rel => exact ⟨k + 1, by omega, by go_num, ret_val (by have := hs'.out; omega)⟩
      case measure => simp [intOf]; omega
    · have hkl : k = xs.length := by omega
      subst hkl
      go_wp2_with fail
      refine (grow_any _ w hl).mono ?_
      rintro e w1 ⟨v1, rfl, hown1, hb1⟩
      clear hle hlt hk
      go_wp2_with fail
      go_loopw [6, 27] (fun v i wr => ∃ k : Nat, k ≤ xs.length ∧ i = .int .i64 (k : Int) ∧ wr.ownsRow w.heap.size 5 1 v (flat xs k).length (u8s (flat xs k)) ∧ Below w.heap.size w wr) (fun _ i _ => xs.length - (intOf i).toNat)
      case atStart => exact ⟨0, by omega, rfl, hown1, hb1⟩
      case round =>
        obtain ⟨k, hk, rfl, hown, hbr⟩ := hrel
        by_cases hlt : k < xs.length
        · have hck := (hbr.cell (p := ⟨b, k, none⟩) hb).trans (HC.out k hlt)
          have hle2 := flat_le xs (k + 1)
          have hs := flat_succ xs k hlt
          have hrk := RD.below (HR.out k hlt) hbr
          have hs' := hide hs
          have hll := congrArg List.length hs
          rw [List.length_append] at hll
          have hll' : (flat xs k).length + xs[k].2.1.length ≤ 1073741824 := by omega
          clear hs hll
          generalize xs[k].1 = A1 at hck hrk
          generalize xs[k].2.2 = c1 at hck
          generalize xs[k].2.1 = l1 at hck hrk hs' hll'
          go_wp2_with (at_builtin; refine wpList_append_src _ rfl (.tmp 31) (.tmp 32) 23 rfl w.heap.size 5 i0 (.int .u8 0) 1 1 Try.underlying23 hi0 hz0 hz1 hz2 rfl (by decide) _ _ _ rfl hown w.heap.size A1 l1.length c1 (u8s l1) rfl hrk (u8s_one _) hll' (by decide) hbr.size ?_; intro v2 w2 hown2 hb2)
          go_roundw
          case rel => exact ⟨k + 1, by omega, by go_num, by rw [hs'.out, u8s_append, List.length_append]; exact hown2, hbr.trans hb2⟩
          case measure => simp [intOf]; omega
        · have hkl : k = xs.length := by omega
          subst hkl
          go_wp2_with fail
          go_ret
          exact ⟨_, rfl, hown, hbr⟩
end Go.Proofs.Ytmekoenmaiekfaa
