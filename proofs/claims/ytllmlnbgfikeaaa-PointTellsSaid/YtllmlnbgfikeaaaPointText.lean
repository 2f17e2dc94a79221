/-
  What point.Text and octavoref04.Same do: the text of code points, or the errors; whether two lists of numbers are the same. Condition: fewer than 2^28 numbers.
-/
import Derived.Test.YtllmlnbgfikeaaaPointPoints
namespace Go.Proofs.Ytllmlnbgfikeaaa
open Go.RowKit

/-- Whole numbers as cells. -/
def zints (l : List Int) : List Value := l.map fun z => .int .i64 z
theorem zints_len (l : List Int) : (zints l).length = l.length := by simp [zints]
theorem zints_get (l : List Int) (i : Nat) (h : i < l.length) : (zints l)[i]? = some (.int .i64 l[i]) := by simp [zints, h]
def casts (ps : List Nat) : List Int := ps.map fun (p : Nat) => (p : Int)
theorem casts_len (ps : List Nat) : (casts ps).length = ps.length := by simp [casts]
theorem casts_append (ps qs : List Nat) : casts (ps ++ qs) = casts ps ++ casts qs := by simp [casts]
theorem casts_inj {ps qs : List Nat} (h : casts ps = casts qs) : ps = qs := List.map_inj_right (fun _ _ h => Int.ofNat.inj h) |>.1 h
theorem ints_z (ps : List Nat) : ints ps = zints (casts ps) := by simp [ints, zints, casts]
/-- A slice of numbers that reads as l. -/
def RZ (w : World) (B : Nat) (A : Option Addr) (l : List Int) : Prop := RD w B 1 A l.length (zints l)
theorem RZ.cell {w : World} {B : Nat} {A : Option Addr} {l : List Int} (h : RZ w B A l) (hl : 0 < l.length) :
    ∃ b off, A = some ⟨b, off, none⟩ ∧ b < B ∧ ∀ j (hj : j < l.length), w.cell? ⟨b, off + j, none⟩ = some (.int .i64 l[j]) := by
  obtain ⟨b, off, e, hb, hc⟩ := h.2 hl
  exact ⟨b, off, e, hb, fun j hj => hc j _ (zints_get l j hj)⟩
theorem RZ.of_own {w : World} {base : Nat} {e : TypeId} {c : Nat} {A : Option Addr} {ps : List Nat} (h : w.ownsRow base e 1 (.slice A ps.length c) ps.length (ints ps)) : RZ w w.heap.size A (casts ps) := by
  unfold RZ
  rw [← ints_z, casts_len]
  exact RD.of_own h

set_option maxHeartbeats 800000 in
set_option maxRecDepth 100000 in
/-- octavoref04.Same: the same numbers. -/
theorem isame_any (A B : Option Addr) (c d n k : Nat) (l m : List Int) (w : World) (hr : RZ w w.heap.size A l) (hs : RZ w w.heap.size B m) (hn : l.length = n) (hk : m.length = k) (hl : n < 1073741824) (hm : k < 1073741824) :
    Calls Try.prog 14 #[.slice A n c, .slice B k d] w fun e w' => e = .returned (.bool (l == m)) ∧ Below w.heap.size w w' := by
  subst hn hk
  by_cases hne : (l.length : Int) = (m.length : Int)
  · have hll : l.length = m.length := by omega
    have E := hide hll
    have hbe : ((l.length : Int) == (m.length : Int)) = true := by simpa using hne
    have hbn : ((l.length : Int) != (m.length : Int)) = false := by simpa using hne
    clear hne
    go_enter Try.func14, Try.ntmps14
    clear hll
    go_wp2_with fail
    go_loopw [5] (fun i wr => ∃ k : Nat, k ≤ l.length ∧ i = .int .i64 (k : Int) ∧ Hid (l.take k = m.take k) ∧ Below w.heap.size w wr) (fun i _ => l.length - (intOf i).toNat)
    case atStart => exact ⟨0, by omega, rfl, hide rfl, Below.refl _ _⟩
    case round =>
      obtain ⟨k, hk, rfl, hT, hb⟩ := hrel
      by_cases hlt : k < l.length
      · have hltm : k < m.length := by have := E.out; omega
        obtain ⟨b0, o0, rfl, hB0, hC0⟩ := RZ.cell (RD.below hr hb) (by omega)
        obtain ⟨b1, o1, rfl, hB1, hC1⟩ := RZ.cell (RD.below hs hb) (by omega)
        have d0 := hC0 k hlt
        have d1 := hC1 k hltm
        clear hC0 hC1
        have z0 : (k : Int) < l.length := by omega
        have z1 : (k : Int) < m.length := by omega
        have z4 : (0 : Int) ≤ k := by omega
        obtain ⟨x, hx⟩ : ∃ x, x = l[k] := ⟨_, rfl⟩
        obtain ⟨y, hy⟩ : ∃ y, y = m[k] := ⟨_, rfl⟩
        rw [← hx] at d0
        rw [← hy] at d1
        have hx' := hide hx
        have hy' := hide hy
        clear hx hy
        by_cases hxy : x = y
        · have hn : (x != y) = false := by simp [hxy]
          have hxy' := hide hxy
          clear hxy
          go_wp2_with fail
          go_quiet (fail)
          go_wp2_with fail
          go_roundw
          case rel =>
            refine ⟨k + 1, by omega, by go_num, hide ?_, below_drewN hb _⟩
            rw [List.take_succ_eq_append_getElem hlt, List.take_succ_eq_append_getElem hltm, hT.out, ← hx'.out, ← hy'.out, hxy'.out]
          case measure => simp [intOf]; omega
        · have hn : (x != y) = true := by simpa using hxy
          have hxy' := hide hxy
          clear hxy
          go_wp2_with fail
          go_quiet (fail)
          go_wp2_with fail
          go_ret
          refine ⟨ret_bool ?_, below_drewN hb _⟩
          symm
          rw [beq_eq_false_iff_ne]
          intro e
          subst e
          exact hxy'.out (hx'.out.trans hy'.out.symm)
      · have hkl : ¬ (k : Int) < l.length := by omega
        have fin := hide (show (l == m) = true by
          have h1 := hT.out
          rw [List.take_of_length_le (by omega), List.take_of_length_le (by have := E.out; omega)] at h1
          simpa using h1)
        go_wp2_with fail
        go_ret
        exact ⟨ret_bool fin.out.symm, hb⟩
  · have hbe : ((l.length : Int) == (m.length : Int)) = false := by simpa using hne
    have hbn : ((l.length : Int) != (m.length : Int)) = true := by simpa using hne
    have fin := hide (show (l == m) = false by
      rw [beq_eq_false_iff_ne]
      intro e
      exact hne (by rw [e]))
    clear hne
    go_enter Try.func14, Try.ntmps14
    go_wp2_with fail
    go_ret
    exact ⟨ret_bool fin.out.symm, Below.refl _ _⟩

/-- What Text answers. -/
def texted (zs : List Int) (e : Ending) : Prop :=
  (1024 < zs.length ∧ e = .returned (.tuple #[.string ⟨#[]⟩, .int .i64 4])) ∨
  (zs.length ≤ 1024 ∧ ∃ ps : List Nat, allP ps ∧ zs = casts ps ∧ e = .returned (.tuple #[.string ⟨(cat ps).toArray⟩, .int .i64 0])) ∨
  (zs.length ≤ 1024 ∧ (∃ z ∈ zs, ¬ isZ z) ∧ e = .returned (.tuple #[.string ⟨#[]⟩, .int .i64 40]))

set_option maxHeartbeats 1000000 in
set_option maxRecDepth 100000 in
theorem text_any (A : Option Addr) (n c : Nat) (zs : List Int) (w : World) (hr : RZ w w.heap.size A zs) (hn : zs.length = n) (hl : n < 1073741824) :
    Calls Try.prog 23 #[.slice A n c] w fun e w' => texted zs e ∧ Below w.heap.size w w' := by
  subst hn
  by_cases h1 : (1024 : Int) < (zs.length : Int)
  · go_enter Try.func23, Try.ntmps23
    go_wp2_with fail
    go_ret2
    exact ⟨.inl ⟨by omega, rfl⟩, Below.refl _ _⟩
  have h2 : zs.length ≤ 1024 := by omega
  obtain ⟨i0, hi, hz0, hz1, hz2⟩ := info_parts u8info
  go_enter Try.func23, Try.ntmps23
  go_wp2_with fail
  go_loopw [4, 13] (fun v i wr => ∃ (k : Nat) (qs : List Nat), k ≤ zs.length ∧ i = .int .i64 (k : Int) ∧ allP qs ∧ Hid (zs.take k = casts qs) ∧ wr.ownsRow w.heap.size 5 1 v (cat qs).length (u8s (cat qs)) ∧ Below w.heap.size w wr) (fun _ i _ => zs.length - (intOf i).toNat)
  case atStart => exact ⟨0, [], by omega, rfl, allP_nil, hide rfl, World.ownsRow_nil _ _ _ _, Below.refl _ _⟩
  case round =>
    obtain ⟨k, qs, hk, rfl, hq, hT, hown, hb⟩ := hrel
    by_cases hlt : k < zs.length
    · obtain ⟨b0, o0, rfl, hB0, hC0⟩ := RZ.cell (RD.below hr hb) (by omega)
      have d0 := hC0 k hlt
      clear hC0
      have z0 : (k : Int) < zs.length := by omega
      obtain ⟨x, hx⟩ : ∃ x, x = zs[k] := ⟨_, rfl⟩
      rw [← hx] at d0
      have hx' := hide hx
      clear hx
      by_cases hz : isZ x
      · obtain ⟨p, rfl⟩ := Int.eq_ofNat_of_zero_le hz.1
        have hp : isP p := by have := hz.2; simpa using this
        clear hz
        have hp1 : (p : Int) ≤ 1114111 := by have := hp.1; omega
        go_wp2_with fail
        refine (check_yes p wr hp).mono ?_
        rintro e w' ⟨rfl, rfl⟩
        go_wp2_with fail
        have hqk := congrArg List.length hT.out
        rw [List.length_take, casts_len] at hqk
        have hcq := (cat_len qs).2
        refine (rune_add w.heap.size _ (cat qs) p hp wr hown (by omega) hb.size).mono ?_
        rintro e w1 ⟨v1, rfl, hown1, hb1⟩
        clear hqk hcq hown
        go_wp2_with fail
        go_roundw
        case rel =>
          refine ⟨k + 1, qs ++ [p], by omega, by go_num, allP_append.2 ⟨hq, allP_one hp⟩, hide ?_, ?_, hb.trans hb1⟩
          · rw [List.take_succ_eq_append_getElem hlt, hT.out, ← hx'.out, casts_append]
            rfl
          · rw [cat_append, cat_one]
            exact hown1
        case measure => simp [intOf]; omega
      · have hz' := hide hz
        clear hz
        go_wp2_with fail
        refine (check_no x wr hz'.out).mono ?_
        rintro e w' ⟨rfl, rfl⟩
        go_wp2_with fail
        go_ret2
        exact ⟨.inr (.inr ⟨h2, ⟨x, by rw [hx'.out]; exact List.getElem_mem _, hz'.out⟩, rfl⟩), hb⟩
    · have hkl : ¬ (k : Int) < zs.length := by omega
      have hfin := hide (show zs = casts qs by have := hT.out; rwa [List.take_of_length_le (by omega)] at this)
      obtain ⟨A1, c1, rfl, -, -, -⟩ := own_slice hown
      have hcv := conv_bytes (P := Try.prog) (RD.of_own hown : RB wr wr.heap.size A1 (cat qs)) Try.underlying46 Try.underlying5 Try.underlying9 c1
      clear hown
      go_wp2_with fail
      go_ret2
      exact ⟨.inr (.inl ⟨h2, qs, hq, hfin.out, rfl⟩), hb⟩
end Go.Proofs.Ytllmlnbgfikeaaa
