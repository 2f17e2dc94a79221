/-
  Texts of this claim, put together: EyeOps, FrameOpenM. What each theorem asks stands in its statement.
-/
import Derived.Test.YtmkpfdcnikgokaaMc11
import Derived.Test.YtmkpfdcnikgokaaMc14
import Derived.Test.YtmkpfdcnikgokaaMc30
import Derived.Test.YtmkpfdcnikgokaaMc33
set_option linter.unusedVariables false
set_option linter.unusedSimpArgs false
namespace Go.Proofs.Ytmkpfdcnikgokaa
open Go.RowKit
theorem OO.at {w w' : World} {base c g : Nat} {A : Option Addr} {L : List OpL} (h : OO w base A c L) (hg : g < base) (ho : OnlyAt g w w') : OO w' base A c L :=
  ⟨own_at h.1 hg ho, fun x hx => own_at (h.2 x hx) hg ho⟩
/-- The operations that follow. -/
def eyeO (st : ES) : List OpP × ES :=
  if st.2 = true then ([], st) else match readL st.1 with
    | some (l, n) => (l, (st.1.drop n, false))
    | none => ([], (st.1, true))
theorem eyeO_good (st : ES) : (∀ o ∈ (eyeO st).1, goodP o) ∧ (eyeO st).1.length ≤ 1024 := by
  unfold eyeO
  split
  · exact ⟨fun o h => (by cases h), by simp⟩
  · split
    · rename_i h
      exact ⟨(readL_inv h).1, (readL_inv h).2.1⟩
    · exact ⟨fun o h => (by cases h), by simp⟩
set_option maxHeartbeats 3200000 in
set_option maxRecDepth 100000 in
theorem eyeops (g : Nat) (st : ES) (w : World) (h : EY w g st) (l9 : List OpP) (s9 : ES) (hx : eyeO st = (l9, s9)) :
    Calls Try.prog 35 #[.pointer (some ⟨g, 0, none⟩)] w fun e w' => ∃ A c L, e = .returned (.slice A (List.length (α := OpL) L) c) ∧ L.map OpL.op = l9 ∧ OO w' w.heap.size A c L ∧ EY w' g s9 ∧ OnlyAt g w w' := by
  obtain ⟨A, c, hE, hr, hc, hl, hA⟩ := h
  obtain ⟨b, bad⟩ := st
  simp only at hE hr hc hl
  have hlt := hE.lt
  obtain ⟨c0, c1⟩ := hE.cells
  have G := hide (cread_any A b b.length c w (RD.more hr.1 (Nat.le_of_lt hlt)) rfl hl hc hA)
  cases hg : readL b with
  | none =>
    rw [hg] at G
    have HV := hide (show eyeO (b, bad) = ([], (b, true)) by
      unfold eyeO
      cases bad with
      | true => rfl
      | false => simp [hg])
    rw [HV.out] at hx
    simp only [Prod.mk.injEq] at hx
    obtain ⟨rfl, rfl⟩ := hx
    have HE := hide hE
    have Hr := hide (And.intro hr (And.intro hc (And.intro hl hA)))
    clear hg hE hr hA hc HV
    go_enter Try.func35, Try.ntmps35
    go_wp2_with fail
    refine G.out.mono ?_
    rintro e w2 ⟨A', c', L', rfl, hL, hO, hb⟩
    have HE2 := hide (HE.out.below hb)
    have HR2 := hide (RBT.below Hr.out.1 (hb.mono (Nat.le_of_lt hlt)))
    have HO2 := hide (OnlyAt.below hb (Nat.le_of_lt hlt))
    clear c0 c1
    obtain ⟨c0, c1⟩ := HE2.out.cells
    have f1 := frozen_of_row w2 g 1 _ _ HE2.out
    have HF := hide (show EY (w2.setCell ⟨g, 1, none⟩ (.bool true)) g (b, true) from ⟨A, c, HE2.out.set1 true, RBT.below HR2.out ((Below.refl g w2).setCell (Nat.le_refl _) _), Hr.out.2.1, Hr.out.2.2.1, Hr.out.2.2.2⟩)
    have HO := hide (HO2.out.trans (OnlyAt.set g 1 w2 (.bool true)))
    clear hL hO hb
    cases bad
    all_goals
      go_wp2_with fail
      go_ret
      exact ⟨none, 0, [], rfl, rfl, OO.nil _ _, HF.out, HO.out⟩
  | some q =>
    obtain ⟨l, s⟩ := q
    obtain ⟨-, v1, v2, v3⟩ := readL_inv hg
    rw [hg] at G
    cases bad with
    | true =>
      have hx2 : ([], ((b, true) : ES)) = (l9, s9) := hx
      simp only [Prod.mk.injEq] at hx2
      obtain ⟨rfl, rfl⟩ := hx2
      have HE := hide hE
      have Hr := hide (And.intro hr (And.intro hc (And.intro hl hA)))
      clear hg hE hr hA hc hx v3
      go_enter Try.func35, Try.ntmps35
      go_wp2_with fail
      refine G.out.mono ?_
      rintro e w2 ⟨A', c', L', rfl, hL, hO, hb⟩
      have HE2 := hide (HE.out.below hb)
      have HR2 := hide (RBT.below Hr.out.1 (hb.mono (Nat.le_of_lt hlt)))
      have HO2 := hide (OnlyAt.below hb (Nat.le_of_lt hlt))
      clear c0 c1
      obtain ⟨c0, c1⟩ := HE2.out.cells
      have f1 := frozen_of_row w2 g 1 _ _ HE2.out
      have HF := hide (show EY (w2.setCell ⟨g, 1, none⟩ (.bool true)) g (b, true) from ⟨A, c, HE2.out.set1 true, RBT.below HR2.out ((Below.refl g w2).setCell (Nat.le_refl _) _), Hr.out.2.1, Hr.out.2.2.1, Hr.out.2.2.2⟩)
      have HO := hide (HO2.out.trans (OnlyAt.set g 1 w2 (.bool true)))
      obtain ⟨ln, hln⟩ : ∃ q, q = List.length (outL (some (l, s))).1 := ⟨_, rfl⟩
      clear hL hO hb
      go_wp2_with fail
      go_ret
      exact ⟨none, 0, [], rfl, rfl, OO.nil _ _, HF.out, HO.out⟩
    | false =>
      simp only [outL] at G
      have hx2 : (l, ((b.drop s, false) : ES)) = (l9, s9) := by rw [← hx]; unfold eyeO; simp [hg]
      simp only [Prod.mk.injEq] at hx2
      obtain ⟨rfl, rfl⟩ := hx2
      have hs1 : 1 ≤ s := by
        have h1 := congrArg List.length v3
        rw [List.length_take, List.length_append] at h1
        have h2 : 1 ≤ (nbs [(l.length : Int)]).length := by
          rw [show nbs [(l.length : Int)] = nb (l.length : Int).toNat ++ [] from rfl, List.length_append]
          have := nb_pos (l.length : Int).toNat
          omega
        omega
      obtain ⟨b0, o0, rfl, hB0, -⟩ := RB.cell hr.1 (by omega)
      obtain ⟨SA, SC, hSA⟩ : ∃ (SA : Option Addr) (SC : Nat), (c = s ∧ SA = some ⟨b0, o0, none⟩ ∧ SC = 0 ∨ ¬ c = s ∧ SA = some ⟨b0, o0 + s, none⟩ ∧ SC = c - s) := by
        by_cases h : c = s
        · exact ⟨_, _, .inl ⟨h, rfl, rfl⟩⟩
        · exact ⟨_, _, .inr ⟨h, rfl, rfl⟩⟩
      have hrs0 : RB w g SA (b.drop s) := by
        rcases hSA with ⟨h1, -, -⟩ | ⟨-, rfl, -⟩
        · rw [List.drop_eq_nil_of_le (by omega)]
          exact RD.nil_
        · have := hr.1.sub s b.length (Nat.le_refl _)
          rwa [List.take_length] at this
      have hrs : RBT w g SA (b.drop s) := ⟨hrs0, fun q hq => by rcases hSA with ⟨-, h2, -⟩ | ⟨-, h2, -⟩ <;> (rw [h2] at hq; cases hq; have h9 := hr.2 _ rfl; exact h9)⟩
      have HFin := hide (show (b.drop s).length ≤ SC ∧ (b.drop s).length < 1073741824 ∧ (SA = none → SC = 0) from ⟨by
        rw [List.length_drop]
        rcases hSA with ⟨h1, -, h2⟩ | ⟨h1, -, h2⟩ <;> omega, by rw [List.length_drop]; omega, fun h => by rcases hSA with ⟨-, h2, -⟩ | ⟨-, h2, -⟩ <;> (rw [h2] at h; cases h)⟩)
      have HE := hide hE
      have Hrs := hide hrs
      have zs0 : (0 : Int) ≤ s := by omega
      have zs1 : (s : Int) ≤ b.length := by omega
      have zs2 : (s : Int) ≤ c := by omega
      have zs3 : (b.length : Int) ≤ c := by omega
      have Hll := hide hl
      clear hg hE hr hA hc hx v3 hrs hrs0 v1
      go_enter Try.func35, Try.ntmps35
      go_wp2_with fail
      refine G.out.mono ?_
      rintro e w2 ⟨A', c', L', rfl, hL, hO, hb⟩
      have HE2 := hide (HE.out.below hb)
      have HR2 := hide (RBT.below Hrs.out (hb.mono (Nat.le_of_lt hlt)))
      have HO2 := hide (OnlyAt.below hb (Nat.le_of_lt hlt))
      clear c0 c1
      obtain ⟨c0, c1⟩ := HE2.out.cells
      have f1 := frozen_of_row w2 g 1 _ _ HE2.out
      have E1 := HE2.out.set1 false
      have f2 := frozen_of_row _ g 0 _ _ E1
      obtain ⟨k0, k1⟩ := E1.cells
      have E2 : EYE ((w2.setCell ⟨g, 1, none⟩ (.bool false)).setCell ⟨g, 0, none⟩ (.slice SA (b.length - s) SC)) g SA (b.length - s) SC false := E1.set0
      have HF := hide (show EY ((w2.setCell ⟨g, 1, none⟩ (.bool false)).setCell ⟨g, 0, none⟩ (.slice SA (b.length - s) SC)) g (b.drop s, false) from ⟨SA, SC, by rw [List.length_drop]; exact E2, RBT.below HR2.out (((Below.refl g w2).setCell (Nat.le_refl _) _).setCell (Nat.le_refl _) _), HFin.out⟩)
      have ho3 := (OnlyAt.set g 1 w2 (.bool false)).trans (OnlyAt.set g 0 _ (.slice SA (b.length - s) SC))
      have HO := hide (HO2.out.trans ho3)
      have HOO := hide (hO.at hlt ho3)
      have hLl : l.length = L'.length := by rw [← hL, List.length_map]
      have HL2 := hide hL
      rw [hLl]
      obtain ⟨nl, hnl⟩ : ∃ q, q = L'.length := ⟨_, rfl⟩
      have Hnl := hide hnl
      rw [← hnl]
      clear hL hO hb E1 E2 ho3 hLl hnl
      rcases hSA with ⟨hca, rfl, rfl⟩ | ⟨hca, rfl, rfl⟩
      all_goals
        go_wp2_with fail
        go_ret
        exact ⟨A', c', L', by rw [← Hnl.out]; rfl, HL2.out, HOO.out, HF.out, HO.out⟩
end Go.Proofs.Ytmkpfdcnikgokaa
namespace Go.Proofs.Ytmkpfdcnikgokaa
open Go.RowKit
theorem get_len (A : Option Addr) (n c : Nat) (l : List UInt8) (w : World) (hr : RB w w.heap.size A l) (hn : l.length = n) (hl : n < 1073741824) :
    Calls Try.prog 55 #[.slice A n c] w fun e w' => e = .returned (gval (gget l)) ∧ w = w' := by
  subst hn
  exact get_any A c l w hr hl
theorem RB.opening {w : World} {B : Nat} {A : Option Addr} {l : List UInt8} (h : RB w B A l) (j : Nat) (hj : j ≤ l.length) : RB w B A (l.take j) := by
  have := h.take hj
  rw [Nat.mul_one, u8s_take] at this
  unfold RB
  rw [List.length_take, Nat.min_eq_left hj]; exact this
theorem sealed_len (B n : Nat) (v : Value) (t : List UInt8) (w : World) (hown : w.ownsRow B 5 1 v n (u8s t)) (hn : t.length = n) (hB : B ≤ w.heap.size) (ht : n < 100000) :
    Calls Try.prog 40 #[v] w fun e w' => ∃ v', e = .returned v' ∧ w'.ownsRow B 5 1 v' (shut4 t).length (u8s (shut4 t)) ∧ Below B w w' := by
  subst hn
  exact sealed_ok B v t w hown hB ht
theorem gval_some (n s : Nat) : gval (some (n, s)) = .tuple #[.int .i64 (n : Int), .int .i64 (s : Int), .int .i64 0] := rfl
/-- What Open answers. -/
def opened (w w' : World) (e : Ending) (l : List UInt8) : Prop :=
  match opn l with
  | none => e = .returned (.tuple #[.slice none 0 0, .int .i64 30])
  | some m => ∃ v, e = .returned (.tuple #[v, .int .i64 0]) ∧ w'.ownsRow w.heap.size 5 1 v m.length (u8s m)
theorem opened_none {w w' : World} {l : List UInt8} (h : opn l = none) : opened w w' (.returned (.tuple #[.slice none 0 0, .int .i64 30])) l := by rw [opened, h]
theorem opened_some {w w' : World} {v : Value} {l m : List UInt8} (h : opn l = some m) (ho : w'.ownsRow w.heap.size 5 1 v m.length (u8s m)) : opened w w' (.returned (.tuple #[v, .int .i64 0])) l := by
  rw [opened, h]
  exact ⟨v, rfl, ho⟩
set_option maxHeartbeats 800000 in
set_option maxRecDepth 100000 in
theorem open_any (A : Option Addr) (c : Nat) (l : List UInt8) (w : World) (hr : RB w w.heap.size A l) (hc : l.length ≤ c) (hl : l.length < 100000) :
    Calls Try.prog 23 #[.slice A l.length c] w fun e w' => opened w w' e l ∧ Below w.heap.size w w' := by
  by_cases h6 : (l.length : Int) < 6
  · have fin : opn l = none := by unfold opn; rw [if_pos (by omega)]
    go_enter Try.func23, Try.ntmps23
    go_wp2_with fail
    go_ret2
    exact ⟨opened_none fin, Below.refl _ _⟩
  obtain ⟨b0, o0, rfl, hB0, hC0⟩ := RB.cell hr (by omega)
  have d0 := hC0 0 (by omega)
  obtain ⟨x, hx⟩ : ∃ x, x = l[0]'(by omega) := ⟨_, rfl⟩
  rw [← hx] at d0
  have hhd : l.head? = some x := by rw [hx]; cases l with | nil => simp at h6 | cons a t => rfl
  by_cases h70 : x.toNat = 70
  · have H70 : (x.toNat : Int) = 70 := by omega
    rw [H70, Nat.add_zero] at d0
    have hz : (70 : Int) ≠ 0 := by decide
    have hend : (1 : Int) ≤ (l.length : Int) - 4 := by omega
    have hendc : (l.length : Int) - 4 ≤ (c : Int) := by omega
    go_enter Try.func23, Try.ntmps23
    go_wp2_with fail
    obtain ⟨t, htt⟩ : ∃ t, t = l.take (l.length - 4) := ⟨_, rfl⟩
    have htl : t.length = l.length - 4 := by rw [htt, List.length_take]; omega
    have hrt : RB w w.heap.size (some ⟨b0, o0, none⟩) t := htt ▸ hr.opening (l.length - 4) (by omega)
    have hrs : RB w w.heap.size (some ⟨b0, o0 + 1, none⟩) (t.drop 1) := htt ▸ hr.sub 1 (l.length - 4) (by omega)
    refine (get_len (some ⟨b0, o0 + 1, none⟩) (l.length - 4 - 1) (c - 1) (t.drop 1) w hrs (by rw [List.length_drop]; omega) (by omega)).mono ?_
    rintro e w1 ⟨rfl, rfl⟩
    have hopn : opn l = match gget (t.drop 1) with
        | none => none
        | some (n, s) => if n > 16384 ∨ 1 + s + n ≠ l.length - 4 ∨ shut4 t ≠ l then none else some (t.drop (1 + s)) := by
      unfold opn
      rw [if_neg (by rw [hhd, not_or]; refine ⟨by omega, fun h => h ?_⟩; rw [show x = 70 from UInt8.toNat_inj.1 h70]), htt]
      try rfl
    clear hC0 hx d0 hrs hhd
    cases hg : gget (t.drop 1) with
    | none =>
      rw [hg] at hopn
      clear hg
      unfold gval
      go_wp2_with fail
      go_ret2
      exact ⟨opened_none hopn, Below.refl _ _⟩
    | some p =>
      obtain ⟨n, s⟩ := p
      have hinv := gget_inv hg
      obtain ⟨hn1, hs1, -, -⟩ := hinv
      rw [List.length_drop] at hs1
      rw [hg] at hopn
      clear hg
      by_cases hbig : (16384 : Int) < (n : Int)
      · have hfin : opn l = none := by rw [hopn]; exact if_pos (.inl (by omega))
        clear hopn
        unfold gval
        go_wp2_with fail
        go_ret2
        exact ⟨opened_none hfin, Below.refl _ _⟩
      by_cases hlen : ¬ (1 + s + n = l.length - 4)
      · have hfin : opn l = none := by rw [hopn]; exact if_pos (.inr (.inl hlen))
        have z : ((1 : Int) + (s : Int) + (n : Int) != (l.length : Int) - 4) = true := by simp; omega
        have hsm : (s : Int) < 1000000 := by omega
        clear hopn hlen
        unfold gval
        go_wp2_with fail
        go_ret2
        exact ⟨opened_none hfin, Below.refl _ _⟩
      replace hlen := Classical.not_not.1 hlen
      have z : ((1 : Int) + (s : Int) + (n : Int) != (l.length : Int) - 4) = false := by simp; omega
      have hsm : (s : Int) < 1000000 := by omega
      have hopn' : opn l = if shut4 t = l then some (t.drop (1 + s)) else none := by
        rw [hopn]
        show (if n > 16384 ∨ 1 + s + n ≠ l.length - 4 ∨ shut4 t ≠ l then none else some (t.drop (1 + s))) = _
        by_cases hsl : shut4 t = l
        · rw [if_pos hsl, if_neg]; intro h; rcases h with h | h | h; omega; exact h hlen; exact h hsl
        · rw [if_neg hsl, if_pos (.inr (.inr hsl))]
      have Hlen := hide hlen
      have Hopn := hide hopn'
      have Htl := hide htl
      have zz : (1 : Int) + (s : Int) + (n : Int) = (l.length : Int) - 4 := by omega
      have Hr := hide hr
      have Htt := hide htt
      clear hopn hlen hn1 hopn' htl hs1 htt hr z
      rw [gval_some]
      ((try dsimp only); repeat (first | go_values | go_skip | go_guarded | go_step | go_back))
      have htl := Htl.out
      refine (clone_any (some ⟨b0, o0, none⟩) (l.length - 4) c t w hrt htl (by omega) (by intro h; cases h)).mono ?_
      rintro e w1 ⟨v1, rfl, hown1, hb1⟩
      clear htl
      ((try dsimp only); repeat (first | go_values | go_skip | go_guarded | go_step | go_back))
      refine (sealed_len w.heap.size t.length v1 t w1 hown1 rfl hb1.size (by have := Htl.out; omega)).mono ?_
      rintro e w2 ⟨v2, rfl, hown2, hb2⟩
      have hb12 := hb1.trans hb2
      obtain ⟨A2, c2, rfl, -, -, -⟩ := own_slice hown2
      have hr2 : RB w2 w2.heap.size A2 (shut4 t) := RD.of_own hown2
      have hrl2 : RB w2 w2.heap.size (some ⟨b0, o0, none⟩) l := (RD.below (unhide Hr) hb12).more hb12.size
      clear hown2 hb2 hown1 hb1 hrt
      ((try dsimp only); repeat (first | go_values | go_skip | go_guarded | go_step | go_back))
      refine (equal_any A2 (some ⟨b0, o0, none⟩) c2 c (shut4 t) l w2 hr2 hrl2 (by rw [shut4_len]; have := Htl.out; omega) (by omega)).mono ?_
      rintro e w3 ⟨rfl, hb3⟩
      have hb13 := hb12.trans (hb3.mono hb12.size)
      by_cases hsl : shut4 t = l
      · have hfin := Hopn.out.trans (if_pos hsl)
        have hbe : (shut4 t == l) = true := by simpa using hsl
        rw [hbe]
        clear hsl
        ((try dsimp only); repeat (first | go_values | go_skip | go_guarded | go_step | go_back))
        have hr3 : RB w3 w3.heap.size (some ⟨b0, o0 + (1 + s), none⟩) (t.drop (1 + s)) := by
          rw [Htt.out]
          exact (RD.below ((unhide Hr).sub (1 + s) (l.length - 4) (by omega)) hb13).more hb13.size
        have hl3 : (t.drop (1 + s)).length = l.length - 4 - (1 + s) := by rw [List.length_drop, Htl.out]
        refine (clone_any (some ⟨b0, o0 + (1 + s), none⟩) (l.length - 4 - (1 + s)) (c - (1 + s)) (t.drop (1 + s)) w3 hr3 hl3 (by omega) (by intro h; cases h)).mono ?_
        rintro e w4 ⟨v4, rfl, hown4, hb4⟩
        clear hl3 hr3
        ((try dsimp only); repeat (first | go_values | go_skip | go_guarded | go_step | go_back))
        go_ret2
        exact ⟨opened_some hfin (own_base hown4 hb13.size), fresh hb13 hb4⟩
      · have hfin := Hopn.out.trans (if_neg hsl)
        have hbe : (shut4 t == l) = false := by simpa using hsl
        rw [hbe]
        clear hsl
        ((try dsimp only); repeat (first | go_values | go_skip | go_guarded | go_step | go_back))
        go_ret2
        exact ⟨opened_none hfin, hb13⟩
  · clear hC0
    have Hx := hide hx
    clear hx
    have hb : ((x.toNat : Int) != 70) = true := by simp; omega
    have fin : opn l = none := by unfold opn; rw [if_pos (.inr (by rw [hhd]; intro e; simp at e; subst e; exact h70 rfl))]
    rw [Nat.add_zero] at d0
    go_enter Try.func23, Try.ntmps23
    go_wp2_with fail
    go_ret2
    exact ⟨opened_none fin, Below.refl _ _⟩
end Go.Proofs.Ytmkpfdcnikgokaa
