/-
  Texts of this claim, put together: MailRef2, Open, OpenRuns. What each theorem asks stands in its statement.
-/
import Derived.Test.YtmkpfdcnikgokaaRows
import Derived.ProofKit
import Derived.OpenShut
import Derived.ShutString
import Derived.ChangeOld
import Derived.ChangeMaps5
import Derived.Lib.SmallJoins
import Derived.Deep.SlicePairs
import Derived.Test.YtmkpfdcnikgokaaMc1
import Derived.Test.YtmkpfdcnikgokaaMc3
import Derived.Test.YtmkpfdcnikgokaaMc39
import Derived.Test.YtmkpfdcnikgokaaMc40
set_option linter.unusedVariables false
set_option linter.unusedSimpArgs false
namespace Go.Proofs.Ytmkpfdcnikgokaa
open Go.RowKit
instance : DecidableEq MP := fun x y => decidable_of_iff (x.k = y.k ∧ x.t = y.t ∧ x.r = y.r ∧ x.ix = y.ix ∧ x.I = y.I ∧ x.O = y.O ∧ x.W = y.W) (by
  obtain ⟨k, t, r, ix, I, O, W⟩ := x
  obtain ⟨k', t', r', ix', I', O', W'⟩ := y
  simp only [MP.mk.injEq])
set_option maxHeartbeats 6400000 in
set_option maxRecDepth 100000 in
theorem mref_any (x y : MlL) (w : World) (hx : RM w w.heap.size x) (hy : RM w w.heap.size y) (ox : okM x) (oy : okM y) :
    Calls Try.prog 22 #[x.val, y.val] w fun e w' => e = .returned (.bool (decide (x.mp = y.mp))) ∧ Below w.heap.size w w' := by
  obtain ⟨k, t, r, ix, iA, ic, i, oA, oc, o, sA, sc, s⟩ := x
  obtain ⟨k', t', r', ix', iA', ic', i', oA', oc', o', sA', sc', s'⟩ := y
  obtain ⟨w1, hw1, F1, hs1, hb1⟩ := mail_box w (.int .u8 k) (.int .u32 t) (.int .u8 r) (.int .i64 ix) (.slice iA i.length ic) (.slice oA o.length oc) (.slice sA s.length sc)
  obtain ⟨w2, hw2, F2, hs2, hb2⟩ := mail_box w1 (.int .u8 k') (.int .u32 t') (.int .u8 r') (.int .i64 ix') (.slice iA' i'.length ic') (.slice oA' o'.length oc') (.slice sA' s'.length sc')
  have hb02 := fresh hb1 hb2
  have HF1 := hide (F1.below hb2)
  have HF2 := hide F2
  have HB := hide hb02
  obtain ⟨a0, a1, a2, a3, a4, a5, a6⟩ := HF1.out.cells
  obtain ⟨b0, b1, b2, b3, b4, b5, b6⟩ := F2.cells
  have lo : ∀ x ∈ o, x.p.length < 8796093022208 := fun x hx => by have := (ox.2.1.2.1 x hx).2.2.2; omega
  have lo' : ∀ x ∈ o', x.p.length < 8796093022208 := fun x hx => by have := (oy.2.1.2.1 x hx).2.2.2; omega
  have P := hide (fun W (hb : Below w2.heap.size w2 W) => tmref_any iA iA' ic ic' i.length i'.length i i' W ((hx.1.below (fresh hb02 hb)).more (fresh hb02 hb).size) ((hy.1.below (fresh hb02 hb)).more (fresh hb02 hb).size) rfl rfl ox.2.2.1 ox.2.1.1)
  have Q := hide (fun W (hb : Below w2.heap.size w2 W) => listsame_any oA oA' o.length o'.length oc oc' o o' W ((hx.2.1.below (fresh hb02 hb)).more (fresh hb02 hb).size) ((hy.2.1.below (fresh hb02 hb)).more (fresh hb02 hb).size) rfl rfl lo lo' ox.2.2.2.1)
  have S := hide (fun W (hb : Below w2.heap.size w2 W) => wssref_any sA sA' sc sc' s.length s'.length s s' W ((hx.2.2.below (fresh hb02 hb)).more (fresh hb02 hb).size) ((hy.2.2.below (fresh hb02 hb)).more (fresh hb02 hb).size) rfl rfl ox.2.2.2.2 ox.2.1.2.2)
  obtain ⟨q1, h1⟩ : ∃ q, decide (i.map TmL.pt = i'.map TmL.pt) = q := ⟨_, rfl⟩
  obtain ⟨q2, h2⟩ : ∃ q, decide (o.map OpL.op = o'.map OpL.op) = q := ⟨_, rfl⟩
  obtain ⟨q3, h3⟩ : ∃ q, decide (s.map WsL.wp = s'.map WsL.wp) = q := ⟨_, rfl⟩
  rw [h1] at P
  rw [h2] at Q
  rw [h3] at S
  obtain ⟨en, hen⟩ : ∃ q, decide (MlL.mp ⟨k, t, r, ix, iA, ic, i, oA, oc, o, sA, sc, s⟩ = MlL.mp ⟨k', t', r', ix', iA', ic', i', oA', oc', o', sA', sc', s'⟩) = q := ⟨_, rfl⟩
  rw [hen]
  have HD : Hid (en = true ↔ k = k' ∧ t = t' ∧ r = r' ∧ ix = ix' ∧ q1 = true ∧ q2 = true ∧ q3 = true) := hide (by
    rw [← hen, ← h1, ← h2, ← h3, decide_eq_true_iff, decide_eq_true_iff, decide_eq_true_iff, decide_eq_true_iff]
    simp only [MlL.mp, MP.mk.injEq])
  have NO := hide (show ∀ (P : Prop), (en = true → P) → ¬ P → en = false from fun P h1 h2 => by
    cases he : en
    · rfl
    · exact absurd (h1 he) h2)
  clear hen h1 h2 h3 hx hy ox oy lo lo' F1 F2 hb1 hb2 hb02
  by_cases c0 : k = k'
  rotate_left
  · have hE := hide (NO.out _ (fun h => (HD.out.1 h).1) c0)
    show Calls Try.prog 22 #[mlv k t r ix (.slice iA i.length ic) (.slice oA o.length oc) (.slice sA s.length sc), mlv k' t' r' ix' (.slice iA' i'.length ic') (.slice oA' o'.length oc') (.slice sA' s'.length sc')] w _
    go_enter Try.func22, Try.ntmps22
    go_wp2_with fail
    go_ret
    exact ⟨by rw [hE.out]; rfl, HB.out⟩
  subst c0
  by_cases c1 : t = t'
  rotate_left
  · have hE := hide (NO.out _ (fun h => (HD.out.1 h).2.1) c1)
    show Calls Try.prog 22 #[mlv k t r ix (.slice iA i.length ic) (.slice oA o.length oc) (.slice sA s.length sc), mlv k t' r' ix' (.slice iA' i'.length ic') (.slice oA' o'.length oc') (.slice sA' s'.length sc')] w _
    go_enter Try.func22, Try.ntmps22
    go_wp2_with fail
    go_ret
    exact ⟨by rw [hE.out]; rfl, HB.out⟩
  subst c1
  by_cases c2 : r = r'
  rotate_left
  · have hE := hide (NO.out _ (fun h => (HD.out.1 h).2.2.1) c2)
    show Calls Try.prog 22 #[mlv k t r ix (.slice iA i.length ic) (.slice oA o.length oc) (.slice sA s.length sc), mlv k t r' ix' (.slice iA' i'.length ic') (.slice oA' o'.length oc') (.slice sA' s'.length sc')] w _
    go_enter Try.func22, Try.ntmps22
    go_wp2_with fail
    go_ret
    exact ⟨by rw [hE.out]; rfl, HB.out⟩
  subst c2
  by_cases c3 : ix = ix'
  rotate_left
  · have hE := hide (NO.out _ (fun h => (HD.out.1 h).2.2.2.1) c3)
    show Calls Try.prog 22 #[mlv k t r ix (.slice iA i.length ic) (.slice oA o.length oc) (.slice sA s.length sc), mlv k t r ix' (.slice iA' i'.length ic') (.slice oA' o'.length oc') (.slice sA' s'.length sc')] w _
    go_enter Try.func22, Try.ntmps22
    go_wp2_with fail
    go_ret
    exact ⟨by rw [hE.out]; rfl, HB.out⟩
  subst c3
  cases q1 with
  | false =>
    have hE := hide (NO.out _ (fun h => (HD.out.1 h).2.2.2.2.1) (by decide))
    show Calls Try.prog 22 #[mlv k t r ix (.slice iA i.length ic) (.slice oA o.length oc) (.slice sA s.length sc), mlv k t r ix (.slice iA' i'.length ic') (.slice oA' o'.length oc') (.slice sA' s'.length sc')] w _
    go_enter Try.func22, Try.ntmps22
    go_wp2_with fail
    refine (P.out w2 (Below.refl _ _)).mono ?_
    rintro e w3 ⟨rfl, hb3⟩
    clear a0 a1 a2 a3 a4 a5 a6 b0 b1 b2 b3 b4 b5 b6
    go_wp2_with fail
    go_ret
    exact ⟨by rw [hE.out]; rfl, fresh HB.out hb3⟩
  | true =>
  cases q2 with
  | false =>
    have hE := hide (NO.out _ (fun h => (HD.out.1 h).2.2.2.2.2.1) (by decide))
    show Calls Try.prog 22 #[mlv k t r ix (.slice iA i.length ic) (.slice oA o.length oc) (.slice sA s.length sc), mlv k t r ix (.slice iA' i'.length ic') (.slice oA' o'.length oc') (.slice sA' s'.length sc')] w _
    go_enter Try.func22, Try.ntmps22
    go_wp2_with fail
    refine (P.out w2 (Below.refl _ _)).mono ?_
    rintro e w3 ⟨rfl, hb3⟩
    clear a0 a1 a2 a3 a4 a5 a6 b0 b1 b2 b3 b4 b5 b6
    obtain ⟨a0, a1, a2, a3, a4, a5, a6⟩ := (HF1.out.below hb3).cells
    obtain ⟨b0, b1, b2, b3, b4, b5, b6⟩ := (HF2.out.below hb3).cells
    go_wp2_with fail
    refine (Q.out w3 hb3).mono ?_
    rintro e w4 ⟨rfl, hb4⟩
    clear a0 a1 a2 a3 a4 a5 a6 b0 b1 b2 b3 b4 b5 b6
    go_wp2_with fail
    go_ret
    exact ⟨by rw [hE.out]; rfl, fresh HB.out (fresh hb3 hb4)⟩
  | true =>
    have hE := hide (show en = q3 by
      cases q3
      · exact NO.out _ (fun h => (HD.out.1 h).2.2.2.2.2.2) (by decide)
      · exact HD.out.2 ⟨rfl, rfl, rfl, rfl, rfl, rfl, rfl⟩)
    show Calls Try.prog 22 #[mlv k t r ix (.slice iA i.length ic) (.slice oA o.length oc) (.slice sA s.length sc), mlv k t r ix (.slice iA' i'.length ic') (.slice oA' o'.length oc') (.slice sA' s'.length sc')] w _
    go_enter Try.func22, Try.ntmps22
    go_wp2_with fail
    refine (P.out w2 (Below.refl _ _)).mono ?_
    rintro e w3 ⟨rfl, hb3⟩
    clear a0 a1 a2 a3 a4 a5 a6 b0 b1 b2 b3 b4 b5 b6
    obtain ⟨a0, a1, a2, a3, a4, a5, a6⟩ := (HF1.out.below hb3).cells
    obtain ⟨b0, b1, b2, b3, b4, b5, b6⟩ := (HF2.out.below hb3).cells
    go_wp2_with fail
    refine (Q.out w3 hb3).mono ?_
    rintro e w4 ⟨rfl, hb4⟩
    have hb34 := fresh hb3 hb4
    clear a0 a1 a2 a3 a4 a5 a6 b0 b1 b2 b3 b4 b5 b6
    obtain ⟨a0, a1, a2, a3, a4, a5, a6⟩ := (HF1.out.below hb34).cells
    obtain ⟨b0, b1, b2, b3, b4, b5, b6⟩ := (HF2.out.below hb34).cells
    go_wp2_with fail
    refine (S.out w4 hb34).mono ?_
    rintro e w5 ⟨rfl, hb5⟩
    clear a0 a1 a2 a3 a4 a5 a6 b0 b1 b2 b3 b4 b5 b6
    go_wp2_with fail
    go_ret
    exact ⟨by rw [hE.out]; rfl, fresh HB.out (fresh hb34 hb5)⟩
/-- What octavoref08.Great's answer says. -/
def greatT (n : Nat) (L : List TmL) (v : Value) : Prop := ∃ g, v = .bool g ∧ (g = false → n ≤ 300 ∧ ∀ x ∈ L, x.s.length ≤ 300)
set_option maxHeartbeats 3200000 in
set_option maxRecDepth 100000 in
theorem tmgreat_any (A : Option Addr) (n c : Nat) (L : List TmL) (w : World) (hr : RT w w.heap.size A L) (hn : L.length = n) (hok : ∀ x ∈ L, x.s.length ≤ 17592186044416) :
    Calls Try.prog 46 #[.slice A n c] w fun e w' => ∃ v, e = .returned v ∧ greatT n L v ∧ Below w.heap.size w w' := by
  have Hok := hide hok
  have Hn := hide hn
  have HR := hide hr
  clear hok hn hr
  go_enter Try.func46, Try.ntmps46
  go_wp2_with fail
  go_loopw [3, 4] (fun s i wr => ∃ (j : Nat) (sv : Int), j ≤ n ∧ (j : Int) ≤ 300 ∧ i = .int .i64 (j : Int) ∧ s = .int .i64 sv ∧ 0 ≤ sv ∧ sv ≤ 300 ∧ Hid (∀ x ∈ L.take j, x.s.length ≤ 300) ∧ Below w.heap.size w wr) (fun _ i _ => n - (intOf i).toNat)
  case atStart => exact ⟨0, 0, by omega, by omega, rfl, rfl, by omega, by omega, hide (fun x hx => by cases hx), Below.refl _ _⟩
  case round =>
    obtain ⟨j, sv, hj, hj3, rfl, rfl, hs0, hs1, hP, hb⟩ := hrel
    by_cases hlt : j < n
    · have z0 : (j : Int) < n := by omega
      by_cases z3 : (j : Int) < 300
      · have hltL : j < L.length := by rw [Hn.out]; exact hlt
        have zj : (0 : Int) ≤ j := by omega
        obtain ⟨bb, bo, rfl, hB, hC⟩ := RT.cell (HR.out.below hb) (by omega)
        obtain ⟨x, hx⟩ : ∃ x, L[j] = x := ⟨_, rfl⟩
        obtain ⟨d0, d1⟩ := hC j hltL
        rw [hx] at d0 d1
        have hxm : x ∈ L := by rw [← hx]; exact List.getElem_mem hltL
        have hx9 := Hok.out x hxm
        have Htake := hide (show L.take (j + 1) = L.take j ++ [x] by rw [List.take_succ_eq_append_getElem hltL, hx])
        have hadd : IntKind.i64.wrap (sv + (x.s.length : Int)) = sv + (x.s.length : Int) := IntWalk.i64_in _ (by omega)
        clear hC hx hxm
        by_cases hg : (300 : Int) < sv + (x.s.length : Int)
        · go_wp2_with fail
          go_ret
          exact ⟨_, rfl, ⟨true, rfl, fun h => (Bool.noConfusion h)⟩, hb⟩
        · go_wp2_with fail
          go_roundw
          case rel =>
            refine ⟨j + 1, sv + (x.s.length : Int), by omega, by omega, by go_num, rfl, by omega, by omega, hide ?_, hb⟩
            rw [Htake.out]
            intro u hu
            rcases List.mem_append.1 hu with h | h
            · exact hP.out u h
            · simp only [List.mem_singleton] at h
              subst h
              omega
          case measure => simp [intOf]; omega
      · have hj9 : j = 300 := by omega
        have hlen : (300 : Int) < n := by omega
        go_wp2_with fail
        go_ret
        exact ⟨_, rfl, ⟨true, by simp, fun h => (Bool.noConfusion h)⟩, hb⟩
    · have hjn : j = n := by omega
      have z0 : ¬ (j : Int) < n := by omega
      have htk : L.take j = L := List.take_of_length_le (by rw [Hn.out]; omega)
      rw [htk] at hP
      have hlen : ¬ (300 : Int) < n := by omega
      clear htk
      go_wp2_with fail
      go_ret
      exact ⟨_, rfl, ⟨false, by simp, fun _ => ⟨by omega, hP.out⟩⟩, hb⟩
/-- Mail whose lists are of any length that memory allows. -/
def bigM (x : MlL) : Prop := (∀ y ∈ x.i, y.s.length ≤ 17592186044416) ∧ (∀ y ∈ x.o, ∀ z ∈ y.p, okR z) ∧ ∀ y ∈ x.s, (∀ z ∈ y.h, z.s.length ≤ 17592186044416) ∧ ∀ z ∈ y.s, z.s.length ≤ 17592186044416
/-- What octavoref24.Great's answer says. -/
def smallM (x : MlL) : Prop := (x.i.length ≤ 300 ∧ ∀ y ∈ x.i, y.s.length ≤ 300) ∧ (x.o.length ≤ 80 ∧ ∀ y ∈ x.o, y.p.length ≤ 100) ∧ x.s.length ≤ 80 ∧ ∀ y ∈ x.s, (y.h.length ≤ 300 ∧ ∀ z ∈ y.h, z.s.length ≤ 300) ∧ (y.s.length ≤ 300 ∧ ∀ z ∈ y.s, z.s.length ≤ 300) ∧ y.g.length ≤ 300
def greatMv (x : MlL) (v : Value) : Prop := ∃ g, v = .bool g ∧ (g = false → smallM x)
set_option maxHeartbeats 6400000 in
set_option maxRecDepth 100000 in
theorem mgreat_any (x : MlL) (w : World) (hx : RM w w.heap.size x) (ox : bigM x) :
    Calls Try.prog 20 #[x.val] w fun e w' => ∃ v, e = .returned v ∧ greatMv x v ∧ Below w.heap.size w w' := by
  obtain ⟨k, t, r, ix, iA, ic, i, oA, oc, o, sA, sc, s⟩ := x
  obtain ⟨w1, hw1, F1, hs1, hb1⟩ := mail_box w (.int .u8 k) (.int .u32 t) (.int .u8 r) (.int .i64 ix) (.slice iA i.length ic) (.slice oA o.length oc) (.slice sA s.length sc)
  have HF1 := hide F1
  obtain ⟨a0, a1, a2, a3, a4, a5, a6⟩ := F1.cells
  obtain ⟨gx, hgx⟩ : ∃ q, q = w.heap.size := ⟨_, rfl⟩
  have Hgx := hide hgx
  rw [← hgx] at HF1
  have HB1 := hide hb1
  have Hw1 := hide hw1
  have HX := hide hx
  have Hox := hide ox
  have hP := hide (tmgreat_any iA i.length ic i w1 ((hx.1.below hb1).more hb1.size) rfl ox.1)
  have hQ := hide (fun W (hb : Below w1.heap.size w1 W) => great_any oA o.length oc 80 o W ((hx.2.1.below (fresh hb1 hb)).more (fresh hb1 hb).size) rfl ox.2.1)
  have hgs : gx < w1.heap.size := by rw [hgx]; exact hs1
  clear hx ox F1 hw1 hb1 hs1 hgx
  show Calls Try.prog 20 #[mlv k t r ix (.slice iA i.length ic) (.slice oA o.length oc) (.slice sA s.length sc)] w _
  go_enter Try.func20, Try.ntmps20
  go_wp2_with fail
  rw [Hw1.out, ← Hgx.out]
  refine hP.out.mono ?_
  rintro e w2 ⟨v, rfl, ⟨g, rfl, hg⟩, hb2⟩
  clear a0 a1 a2 a3 a4 a5 a6
  obtain ⟨a0, a1, a2, a3, a4, a5, a6⟩ := (HF1.out.below hb2).cells
  have HF2 := hide (HF1.out.below hb2)
  have HB2 := hide (fresh HB1.out hb2)
  cases g with
  | true =>
    clear hg
    go_wp2_with fail
    go_ret
    exact ⟨_, rfl, ⟨true, rfl, fun h => (Bool.noConfusion h)⟩, HB2.out⟩
  | false =>
  have Hg1 := hide (hg rfl)
  clear hg
  go_wp2_with fail
  refine (hQ.out w2 hb2).mono ?_
  rintro e w3 ⟨v, rfl, ⟨g, rfl, hg⟩, hb3⟩
  clear a0 a1 a2 a3 a4 a5 a6
  obtain ⟨a0, a1, a2, a3, a4, a5, a6⟩ := (HF2.out.below hb3).cells
  have HF3 := hide (HF2.out.below hb3)
  have HB3 := hide (fresh HB2.out hb3)
  have hs3 : gx < w3.heap.size := by have := hb2.size; have := hb3.size; omega
  clear hb2 hb3 HF2 HB2 hP hQ
  cases g with
  | true =>
    clear hg
    go_wp2_with fail
    go_ret
    exact ⟨_, rfl, ⟨true, rfl, fun h => (Bool.noConfusion h)⟩, HB3.out⟩
  | false =>
  have Hg2 := hide (hg rfl)
  clear hg
  by_cases h80 : (80 : Int) < (s.length : Int)
  · go_wp2_with fail
    go_ret
    exact ⟨_, rfl, ⟨true, rfl, fun h => (Bool.noConfusion h)⟩, HB3.out⟩
  go_wp2_with fail
  go_loopw [3] (fun i0 wr => ∃ j : Nat, j ≤ s.length ∧ i0 = .int .i64 (j : Int) ∧ Hid (∀ y ∈ s.take j, (y.h.length ≤ 300 ∧ ∀ z ∈ y.h, z.s.length ≤ 300) ∧ (y.s.length ≤ 300 ∧ ∀ z ∈ y.s, z.s.length ≤ 300) ∧ y.g.length ≤ 300) ∧ Hid (Below w3.heap.size w3 wr)) (fun i0 _ => s.length - (intOf i0).toNat)
  case atStart => exact ⟨0, by omega, rfl, hide (fun y hy => by cases hy), hide (Below.refl _ _)⟩
  case round =>
    obtain ⟨j, hj, rfl, HS, Hbr⟩ := hrel
    clear a0 a1 a2 a3 a4 a5 a6
    obtain ⟨a0, a1, a2, a3, a4, a5, a6⟩ := (HF3.out.below Hbr.out).cells
    have HBr := hide (fresh HB3.out Hbr.out)
    by_cases hlt : j < s.length
    · have z0 : (j : Int) < s.length := by omega
      have zj : (0 : Int) ≤ j := by omega
      have HXr := hide ((HX.out.below HBr.out).more HBr.out.size)
      obtain ⟨bb, bo, rfl, hB, hC⟩ := RW.cell HXr.out.2.2 (show 0 < s.length by omega)
      obtain ⟨d0, d1, d2, d3, d4, d5, d6⟩ := hC j hlt
      obtain ⟨x, hx⟩ : ∃ x, s[j] = x := ⟨_, rfl⟩
      rw [hx] at d0 d1 d2 d3 d4 d5 d6
      have hxm : x ∈ s := by rw [← hx]; exact List.getElem_mem hlt
      have Hrx := hide (HXr.out.2.2.2 x hxm)
      have Hbx := hide (Hox.out.2.2 x hxm)
      have Htake := hide (show s.take (j + 1) = s.take j ++ [x] by rw [List.take_succ_eq_append_getElem hlt, hx])
      have P1 := hide (tmgreat_any x.hA x.h.length x.hc x.h wr Hrx.out.1 rfl Hbx.out.1)
      have P2 := hide (fun W (hb : Below wr.heap.size wr W) => tmgreat_any x.sA x.s.length x.sc x.s W ((Hrx.out.2.1.below hb).more hb.size) rfl Hbx.out.2)
      have hBr : bb < wr.heap.size := hB
      clear hC hx hxm HXr
      go_wp2_with fail
      refine P1.out.mono ?_
      rintro e w4 ⟨v, rfl, ⟨g, rfl, hg⟩, hb4⟩
      clear a0 a1 a2 a3 a4 a5 a6
      have HF4 := hide ((HF3.out.below Hbr.out).below hb4)
      obtain ⟨a0, a1, a2, a3, a4, a5, a6⟩ := HF4.out.cells
      replace d5 := keep_cell hb4 hBr d5
      replace d6 := keep_cell hb4 hBr d6
      have HB4 := hide (fresh HBr.out hb4)
      cases g with
      | true =>
        clear hg
        go_wp2_with fail
        go_ret
        exact ⟨_, rfl, ⟨true, rfl, fun h => (Bool.noConfusion h)⟩, HB4.out⟩
      | false =>
      have Hg3 := hide (hg rfl)
      clear hg d0 d1 d2 d3 d4
      go_wp2_with fail
      refine (P2.out w4 hb4).mono ?_
      rintro e w5 ⟨v, rfl, ⟨g, rfl, hg⟩, hb5⟩
      clear a0 a1 a2 a3 a4 a5 a6
      obtain ⟨a0, a1, a2, a3, a4, a5, a6⟩ := (HF4.out.below hb5).cells
      replace d6 := keep_cell hb5 (Nat.lt_of_lt_of_le hBr hb4.size) d6
      have HB5 := hide (fresh HB4.out hb5)
      have Hbr5 := hide (fresh Hbr.out (fresh hb4 hb5))
      clear d5
      cases g with
      | true =>
        clear hg
        go_wp2_with fail
        go_ret
        exact ⟨_, rfl, ⟨true, rfl, fun h => (Bool.noConfusion h)⟩, HB5.out⟩
      | false =>
      have Hg4 := hide (hg rfl)
      clear hg
      by_cases h300 : (300 : Int) < (x.g.length : Int)
      · go_wp2_with fail
        go_ret
        exact ⟨_, rfl, ⟨true, rfl, fun h => (Bool.noConfusion h)⟩, HB5.out⟩
      · have h300' : x.g.length ≤ 300 := by omega
        go_wp2_with fail
        go_roundw
        case rel =>
          refine ⟨j + 1, by omega, by go_num, hide ?_, Hbr5⟩
          rw [Htake.out]
          intro u hu
          rcases List.mem_append.1 hu with h | h
          · exact HS.out u h
          · simp only [List.mem_singleton] at h
            subst h
            exact ⟨Hg3.out, Hg4.out, h300'⟩
        case measure => simp [intOf]; omega
    · obtain rfl : j = s.length := by omega
      have z0 : ¬ (s.length : Int) < s.length := by omega
      have h80' : s.length ≤ 80 := by omega
      have Hfin := hide (show smallM ⟨k, t, r, ix, iA, ic, i, oA, oc, o, sA, sc, s⟩ from ⟨Hg1.out, ⟨by have := Hg2.out.1; simp only; omega, Hg2.out.2 (by have := Hg2.out.1; omega)⟩, h80', by have := HS.out; rw [List.take_of_length_le (Nat.le_refl _)] at this; exact this⟩)
      go_wp2_with fail
      go_ret
      exact ⟨_, rfl, ⟨false, rfl, fun _ => Hfin.out⟩, HBr.out⟩
end Go.Proofs.Ytmkpfdcnikgokaa
namespace Go.Proofs.Ytmkpfdcnikgokaa
open Go.ChangeShapes Go.WideShapes Go.ChangeAt Go.RowKit
theorem own : ownKnob Try.prog.godebug = none := by kernel_rfl
theorem laidOut : laidOutB Try.prog = true := by kernel_rfl
/-- A slice of bytes that came in. -/
theorem open_bytes {H : Type} {enc : TypeId × Value → H} {P : Program} {W : World} {b0 base : Nat} {r : Reach} {spare : Nat → Bool} {held : Bool} {t e : TypeId} {v : Value} {d : DataW H} {p : List MemPlace}
    (ht : P.underlying t = some (.slice e)) (he : P.underlying e = some (.int .u8)) (hC : P.cellsOf e = 1) (hv : Value.okWide P W r b0 t v) (h : DataW.Trod enc P W base spare held t v d p) :
    ∃ A l c, v = .slice A (List.length (α := UInt8) l) c ∧ RB W W.heap.size A l ∧ l.length ≤ c ∧ c ≤ maxLen := by
  obtain ⟨A, n, c, rfl⟩ := okWide_slice ht hv
  obtain ⟨fuel, hf⟩ := h
  rcases open_ints ht he hC hf with ⟨hcs, _⟩ | ⟨x, l, c', zs, hcs, _, hl, hm, hz, _, hcell, hwz⟩
  · simp [Value.cells] at hcs
    obtain ⟨rfl, rfl, rfl⟩ := hcs
    exact ⟨none, [], 0, rfl, RD.nil_, Nat.le_refl _, Nat.zero_le _⟩
  · simp [Value.cells] at hcs
    obtain ⟨rfl, rfl, rfl⟩ := hcs
    have hle : n ≤ zs.length := by rw [hz]; split <;> omega
    have hb : ∀ n : Int, (Lit.int .u8 n).wf = true → ((UInt8.ofNat n.toNat).toNat : Int) = n := by
      intro k hn
      simp [Lit.wf, IntKind.min, IntKind.max, IntKind.signed, IntKind.bits] at hn
      rw [UInt8.toNat_ofNat', Nat.mod_eq_of_lt (by omega)]
      omega
    refine ⟨some x, (zs.take n).map (fun n => UInt8.ofNat n.toNat), c, ?_, ?_, by simp; omega, hm⟩
    · simp [Nat.min_eq_left hle]
    · refine ⟨by simp [u8s_len], fun hn => ?_⟩
      simp only [List.length_map, List.length_take, Nat.min_eq_left hle] at hn
      have h0 := hcell 0 (by omega)
      have hsp : x.spot = none := by
        have := World.cell?_spot h0
        simpa [Addr.add] using this
      obtain ⟨b, off, spot⟩ := x
      simp only at hsp
      subst hsp
      refine ⟨b, off, rfl, by have := World.block_lt_of_cell? W _ h0; simpa [Addr.add] using this, fun j u hu => ?_⟩
      have hj : j < n := by
        have := (List.getElem?_eq_some_iff.1 hu).1
        simp [u8s_len] at this
        omega
      have hc := hcell j (by omega)
      rw [add_none] at hc
      rw [hc, ← hu]
      have hjz : j < zs.length := by omega
      simp only [u8s, List.map_map, List.getElem?_map, List.getElem?_take, if_pos hj, List.getElem?_eq_getElem hjz, List.getD_eq_getElem?_getD, Option.getD_some, Option.map_some, Function.comp]
      rw [hb _ (hwz _ (List.getElem_mem hjz))]
end Go.Proofs.Ytmkpfdcnikgokaa
namespace Go.Proofs.Ytmkpfdcnikgokaa
open Go.Joins Go.ChangeShapes Go.WideShapes Go.ChangeAt Go.RowKit Go.Deep
theorem okR_of {t r m : Int} (h1 : (Lit.int .u32 t).wf = true) (h2 : (Lit.int .u8 r).wf = true) (h3 : (Lit.int .i64 m).wf = true) : okR (t, r, m) := by
  simp [Lit.wf, IntKind.min, IntKind.max, IntKind.signed, IntKind.bits] at h1 h2 h3
  unfold okR
  simp only
  omega
theorem okI_of {t r : Int} (h1 : (Lit.int .u32 t).wf = true) (h2 : (Lit.int .u8 r).wf = true) : okI (t, r) := by
  simp [Lit.wf, IntKind.min, IntKind.max, IntKind.signed, IntKind.bits] at h1 h2
  unfold okI
  simp only
  omega
end Go.Proofs.Ytmkpfdcnikgokaa
