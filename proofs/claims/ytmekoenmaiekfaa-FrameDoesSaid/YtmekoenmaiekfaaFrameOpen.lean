/-
  What frame.Open does: the plain law's opn. Condition: fewer than 100,000 bytes.
-/
import Derived.Test.YtmekoenmaiekfaaFrame
import Derived.Test.YtmekoenmaiekfaaNumLaws
namespace Go.Proofs.Ytmekoenmaiekfaa
open Go.RowKit

/-- A part of a slice. -/
theorem RB.sub {w : World} {B b o : Nat} {l : List UInt8} (h : RB w B (some ⟨b, o, none⟩) l) (i j : Nat) (hj : j ≤ l.length) : RB w B (some ⟨b, o + i, none⟩) ((l.take j).drop i) := by
  refine ⟨by rw [u8s_len, Nat.mul_one], fun hn => ?_⟩
  have hl : 0 < l.length := by rw [List.length_drop, List.length_take] at hn; omega
  obtain ⟨b', o', e, hb, hc⟩ := h.2 hl
  cases e
  refine ⟨b, o + i, rfl, hb, fun k u hu => ?_⟩
  rw [← u8s_drop, ← u8s_take, List.getElem?_drop, List.getElem?_take] at hu
  split at hu
  · rw [Nat.add_assoc]; exact hc _ _ hu
  · cases hu
theorem RB.opening {w : World} {B : Nat} {A : Option Addr} {l : List UInt8} (h : RB w B A l) (j : Nat) (hj : j ≤ l.length) : RB w B A (l.take j) := by
  have := h.take hj
  rw [Nat.mul_one, u8s_take] at this
  unfold RB
  rw [List.length_take, Nat.min_eq_left hj]; exact this
theorem sealed_len (B n : Nat) (v : Value) (t : List UInt8) (w : World) (hown : w.ownsRow B 5 1 v n (u8s t)) (hn : t.length = n) (hB : B ≤ w.heap.size) (ht : n < 100000) :
    Calls Try.prog 40 #[v] w fun e w' => ∃ v', e = .returned v' ∧ w'.ownsRow B 5 1 v' (shut4 t).length (u8s (shut4 t)) ∧ Below B w w' := by
  subst hn
  exact sealed_ok B v t w hown hB ht

theorem gval_some (n s : Nat) : gval (some (n, s)) = .tuple #[.int .i64 (n : Int), .int .i64 (s : Int), .int .i64 0] := rfl

/-- What Open answers. -/
def opened (w w' : World) (e : Ending) (l : List UInt8) : Prop :=
  match opn l with
  | none => e = .returned (.tuple #[.slice none 0 0, .int .i64 30])
  | some m => ∃ v, e = .returned (.tuple #[v, .int .i64 0]) ∧ w'.ownsRow w.heap.size 5 1 v m.length (u8s m)

theorem opened_none {w w' : World} {l : List UInt8} (h : opn l = none) : opened w w' (.returned (.tuple #[.slice none 0 0, .int .i64 30])) l := by rw [opened, h]
theorem opened_some {w w' : World} {v : Value} {l m : List UInt8} (h : opn l = some m) (ho : w'.ownsRow w.heap.size 5 1 v m.length (u8s m)) : opened w w' (.returned (.tuple #[v, .int .i64 0])) l := by
  rw [opened, h]
  exact ⟨v, rfl, ho⟩

set_option maxHeartbeats 800000 in
set_option maxRecDepth 100000 in
theorem open_any (A : Option Addr) (c : Nat) (l : List UInt8) (w : World) (hr : RB w w.heap.size A l) (hc : l.length ≤ c) (hl : l.length < 100000) :
    Calls Try.prog 34 #[.slice A l.length c] w fun e w' => opened w w' e l ∧ Below w.heap.size w w' := by
  by_cases h6 : (l.length : Int) < 6
  · have fin : opn l = none := by unfold opn; rw [if_pos (by omega)]
    go_enter Try.func34, Try.ntmps34
    go_wp2_with fail
    go_ret2
    exact ⟨opened_none fin, Below.refl _ _⟩
  obtain ⟨b0, o0, rfl, hB0, hC0⟩ := RB.cell hr (by omega)
  have d0 := hC0 0 (by omega)
  obtain ⟨x, hx⟩ : ∃ x, x = l[0]'(by omega) := ⟨_, rfl⟩
  rw [← hx] at d0
  have hhd : l.head? = some x := by rw [hx]; cases l with | nil => simp at h6 | cons a t => rfl
  by_cases h70 : x.toNat = 70
  · have H70 : (x.toNat : Int) = 70 := by omega
    rw [H70, Nat.add_zero] at d0
    have hz : (70 : Int) ≠ 0 := by decide
    have hend : (1 : Int) ≤ (l.length : Int) - 4 := by omega
    have hendc : (l.length : Int) - 4 ≤ (c : Int) := by omega
    go_enter Try.func34, Try.ntmps34
    go_wp2_with fail
    obtain ⟨t, htt⟩ : ∃ t, t = l.take (l.length - 4) := ⟨_, rfl⟩
    have htl : t.length = l.length - 4 := by rw [htt, List.length_take]; omega
    have hrt : RB w w.heap.size (some ⟨b0, o0, none⟩) t := htt ▸ hr.opening (l.length - 4) (by omega)
    have hrs : RB w w.heap.size (some ⟨b0, o0 + 1, none⟩) (t.drop 1) := htt ▸ hr.sub 1 (l.length - 4) (by omega)
    refine (get_len (some ⟨b0, o0 + 1, none⟩) (l.length - 4 - 1) (c - 1) (t.drop 1) w hrs (by rw [List.length_drop]; omega) (by omega)).mono ?_
    rintro e w1 ⟨rfl, rfl⟩
    have hopn : opn l = match gget (t.drop 1) with
        | none => none
        | some (n, s) => if n > 16384 ∨ 1 + s + n ≠ l.length - 4 ∨ shut4 t ≠ l then none else some (t.drop (1 + s)) := by
      unfold opn
      rw [if_neg (by rw [hhd, not_or]; refine ⟨by omega, fun h => h ?_⟩; rw [show x = 70 from UInt8.toNat_inj.1 h70]), htt]
      rfl
    clear hC0 hx d0 hrs hhd
    cases hg : gget (t.drop 1) with
    | none =>
      rw [hg] at hopn
      clear hg
      unfold gval
      go_wp2_with fail
      go_ret2
      exact ⟨opened_none hopn, Below.refl _ _⟩
    | some p =>
      obtain ⟨n, s⟩ := p
      have hinv := gget_inv hg
      obtain ⟨hn1, hs1, -, -⟩ := hinv
      rw [List.length_drop] at hs1
      rw [hg] at hopn
      clear hg
      by_cases hbig : (16384 : Int) < (n : Int)
      · have hfin : opn l = none := by rw [hopn]; exact if_pos (.inl (by omega))
        clear hopn
        unfold gval
        go_wp2_with fail
        go_ret2
        exact ⟨opened_none hfin, Below.refl _ _⟩
      by_cases hlen : ¬ (1 + s + n = l.length - 4)
      · have hfin : opn l = none := by rw [hopn]; exact if_pos (.inr (.inl hlen))
        have z : ((1 : Int) + (s : Int) + (n : Int) != (l.length : Int) - 4) = true := by simp; omega
        have hsm : (s : Int) < 1000000 := by omega
        clear hopn hlen
        unfold gval
        go_wp2_with fail
        go_ret2
        exact ⟨opened_none hfin, Below.refl _ _⟩
      replace hlen := Classical.not_not.1 hlen
      have z : ((1 : Int) + (s : Int) + (n : Int) != (l.length : Int) - 4) = false := by simp; omega
      have hsm : (s : Int) < 1000000 := by omega
      have hopn' : opn l = if shut4 t = l then some (t.drop (1 + s)) else none := by
        rw [hopn]
        show (if n > 16384 ∨ 1 + s + n ≠ l.length - 4 ∨ shut4 t ≠ l then none else some (t.drop (1 + s))) = _
        by_cases hsl : shut4 t = l
        · rw [if_pos hsl, if_neg]; intro h; rcases h with h | h | h; omega; exact h hlen; exact h hsl
        · rw [if_neg hsl, if_pos (.inr (.inr hsl))]
      have Hlen := hide hlen
      have Hopn := hide hopn'
      have Htl := hide htl
      have zz : (1 : Int) + (s : Int) + (n : Int) = (l.length : Int) - 4 := by omega
      have Hr := hide hr
      have Htt := hide htt
      clear hopn hlen hn1 hopn' htl hs1 htt hr z
      rw [gval_some]
      ((try dsimp only); repeat (first | go_values | go_skip | go_guarded | go_step | go_back))
      have htl := Htl.out
      refine (clone_any (some ⟨b0, o0, none⟩) (l.length - 4) c t w hrt htl (by omega) (by intro h; cases h)).mono ?_
      rintro e w1 ⟨v1, rfl, hown1, hb1⟩
      clear htl
      ((try dsimp only); repeat (first | go_values | go_skip | go_guarded | go_step | go_back))
      refine (sealed_len w.heap.size t.length v1 t w1 hown1 rfl hb1.size (by have := Htl.out; omega)).mono ?_
      rintro e w2 ⟨v2, rfl, hown2, hb2⟩
      have hb12 := hb1.trans hb2
      obtain ⟨A2, c2, rfl, -, -, -⟩ := own_slice hown2
      have hr2 : RB w2 w2.heap.size A2 (shut4 t) := RD.of_own hown2
      have hrl2 : RB w2 w2.heap.size (some ⟨b0, o0, none⟩) l := (RD.below (unhide Hr) hb12).more hb12.size
      clear hown2 hb2 hown1 hb1 hrt
      ((try dsimp only); repeat (first | go_values | go_skip | go_guarded | go_step | go_back))
      refine (equal_any A2 (some ⟨b0, o0, none⟩) c2 c (shut4 t) l w2 hr2 hrl2 (by rw [shut4_len]; have := Htl.out; omega) (by omega)).mono ?_
      rintro e w3 ⟨rfl, hb3⟩
      have hb13 := hb12.trans (hb3.mono hb12.size)
      by_cases hsl : shut4 t = l
      · have hfin := Hopn.out.trans (if_pos hsl)
        have hbe : (shut4 t == l) = true := by simpa using hsl
        rw [hbe]
        clear hsl
        ((try dsimp only); repeat (first | go_values | go_skip | go_guarded | go_step | go_back))
        have hr3 : RB w3 w3.heap.size (some ⟨b0, o0 + (1 + s), none⟩) (t.drop (1 + s)) := by
          rw [Htt.out]
          exact (RD.below ((unhide Hr).sub (1 + s) (l.length - 4) (by omega)) hb13).more hb13.size
        have hl3 : (t.drop (1 + s)).length = l.length - 4 - (1 + s) := by rw [List.length_drop, Htl.out]
        refine (clone_any (some ⟨b0, o0 + (1 + s), none⟩) (l.length - 4 - (1 + s)) (c - (1 + s)) (t.drop (1 + s)) w3 hr3 hl3 (by omega) (by intro h; cases h)).mono ?_
        rintro e w4 ⟨v4, rfl, hown4, hb4⟩
        clear hl3 hr3
        ((try dsimp only); repeat (first | go_values | go_skip | go_guarded | go_step | go_back))
        go_ret2
        exact ⟨opened_some hfin (own_base hown4 hb13.size), fresh hb13 hb4⟩
      · have hfin := Hopn.out.trans (if_neg hsl)
        have hbe : (shut4 t == l) = false := by simpa using hsl
        rw [hbe]
        clear hsl
        ((try dsimp only); repeat (first | go_values | go_skip | go_guarded | go_step | go_back))
        go_ret2
        exact ⟨opened_none hfin, hb13⟩
  · clear hC0
    have Hx := hide hx
    clear hx
    have hb : ((x.toNat : Int) != 70) = true := by simp; omega
    have fin : opn l = none := by unfold opn; rw [if_pos (.inr (by rw [hhd]; intro e; simp at e; subst e; exact h70 rfl))]
    rw [Nat.add_zero] at d0
    go_enter Try.func34, Try.ntmps34
    go_wp2_with fail
    go_ret2
    exact ⟨opened_none fin, Below.refl _ _⟩
end Go.Proofs.Ytmekoenmaiekfaa
