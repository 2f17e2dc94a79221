/-
  Texts of this claim, put together: PenWish. What each theorem asks stands in its statement.
-/
import Derived.Test.YtmkpfdcnikgokaaMc15
import Derived.Test.YtmkpfdcnikgokaaMc21
set_option linter.unusedVariables false
set_option linter.unusedSimpArgs false
namespace Go.Proofs.Ytmkpfdcnikgokaa
open Go.RowKit
theorem spNums_ok : ∀ (l : List Sp) (was least : Int), 0 ≤ was → was ≤ least → chainS least l → (∀ z ∈ spNums was l, 0 ≤ z ∧ z ≤ 1073741824) ∧ (spNums was l).length = 2 * l.length
  | [], _, _, _, _, _ => ⟨fun z hz => (by cases hz), rfl⟩
  | x :: l, was, least, h0, h1, hc => by
    obtain ⟨c1, c2, c3, c4⟩ := hc
    obtain ⟨i1, i2⟩ := spNums_ok l x.2 (x.2 + 2) (by omega) (by omega) c4
    refine ⟨fun z hz => ?_, by simp only [spNums, List.length_cons, i2]; omega⟩
    simp only [spNums, List.mem_cons] at hz
    rcases hz with rfl | rfl | hz
    · omega
    · omega
    · exact i1 z hz
theorem flatTm_ok : ∀ (l : List PT) (last : Int), -1 ≤ last → chainT last l → (∀ z ∈ l.flatMap tmNums, 0 ≤ z ∧ z ≤ 1073741824) ∧ (l.flatMap tmNums).length ≤ 2050 * l.length
  | [], _, _, _ => ⟨fun z hz => (by cases hz), by simp⟩
  | x :: l, last, h0, hc => by
    obtain ⟨c1, c2, c3, c4, c5⟩ := hc
    obtain ⟨i1, i2⟩ := flatTm_ok l x.1 (by omega) c5
    obtain ⟨j1, j2⟩ := spNums_ok x.2 0 1 (by omega) (by omega) c4.2
    have c6 := c4.1
    refine ⟨fun z hz => ?_, by simp only [List.flatMap_cons, List.length_append, tmNums, List.length_cons, j2]; omega⟩
    simp only [List.flatMap_cons, tmNums, List.cons_append, List.mem_cons, List.mem_append] at hz
    rcases hz with rfl | rfl | hz | hz
    · omega
    · omega
    · exact j1 z hz
    · exact i1 z hz
theorem mayT_len {P : List PT} (h : mayT P) : P.length ≤ 8 := by
  rcases chainT_len P (-1) (by omega) h with h | h
  · omega
  · rw [h]; exact Nat.zero_le _
theorem ckNums_ok {P : List PT} (h : mayT P) : (∀ z ∈ ckNums P, 0 ≤ z ∧ z ≤ 1099511627776) ∧ (ckNums P).length ≤ 16401 := by
  obtain ⟨h1, h2⟩ := flatTm_ok P (-1) (by omega) h
  have h3 := mayT_len h
  refine ⟨fun z hz => ?_, by simp only [ckNums, List.length_cons]; omega⟩
  simp only [ckNums, List.mem_cons] at hz
  rcases hz with rfl | hz
  · omega
  · have := h1 z hz
    omega
theorem ck_len {P : List PT} (h : mayT P) : (nbs (ckNums P)).length ≤ 100000 := by
  obtain ⟨h1, h2⟩ := ckNums_ok h
  have := nbs_len h1
  omega
/-- A wish's numbers. -/
def bn (b : Bool) : Int := if b = true then 1 else 0
def stN (rd kn : Bool) : Int := if rd = true then 1 else if kn = true then 2 else 0
def gtNums (l : List Bool) : List Int := (l.length : Int) :: l.map bn
def wsNums (x : WP) : List Int := [x.t, x.r, stN x.rd x.kn] ++ ckNums x.H ++ ckNums x.S ++ gtNums x.G
theorem stN_ok (rd kn : Bool) : 0 ≤ stN rd kn ∧ stN rd kn ≤ 2 := by
  cases rd <;> cases kn <;> decide
theorem bn_ok (b : Bool) : 0 ≤ bn b ∧ bn b ≤ 1 := by cases b <;> decide
theorem three_ok {a b c : Int} (ha : 0 ≤ a ∧ a ≤ 1099511627776) (hb : 0 ≤ b ∧ b ≤ 1099511627776) (hc : 0 ≤ c ∧ c ≤ 1099511627776) : ∀ z ∈ [a, b, c], 0 ≤ z ∧ z ≤ 1099511627776 := by
  intro z hz
  simp only [List.mem_cons, List.not_mem_nil, or_false] at hz
  rcases hz with rfl | rfl | rfl <;> assumption
theorem one_ok {a : Int} (ha : 0 ≤ a ∧ a ≤ 1099511627776) : ∀ z ∈ [a], 0 ≤ z ∧ z ≤ 1099511627776 := by
  intro z hz
  simp only [List.mem_singleton] at hz
  subst hz
  exact ha
theorem app_len {pre : List UInt8} {L : List Int} {k : Nat} (hL : ∀ z ∈ L, 0 ≤ z ∧ z ≤ 1099511627776) (h : pre.length ≤ k) : (pre ++ nbs L).length ≤ k + 6 * L.length := by
  have := nbs_len hL
  rw [List.length_append]
  omega
set_option maxHeartbeats 6400000 in
set_option maxRecDepth 100000 in
theorem penwish (base g : Nat) (pre : List UInt8) (x : WsL) (w : World) (hp : PN w base g pre) (hh : RT w base x.hA x.h) (hs : RT w base x.sA x.s) (hg : RBl w base x.gA x.g) (hok : okW x) (hmh : mayT (x.h.map TmL.pt)) (hms : mayT (x.s.map TmL.pt)) (hgl : x.g.length ≤ 128) (hsz : pre.length ≤ 400000000) :
    Calls Try.prog 51 #[.pointer (some ⟨g, 0, none⟩), x.val] w fun e w' => e = .returned (.tuple #[]) ∧ PN w' base g (pre ++ nbs (wsNums x.wp)) ∧ Below base w w' ∧ KeptP w w' := by
  obtain ⟨t, r, rd, kn, hA, hc, h, sA, sc, s, gA, gc, gl⟩ := x
  obtain ⟨o1, o2, o3, o4, o5, o6, o7, o8, o9⟩ := hok
  simp only at hh hs hg o1 o2 o3 o4 o5 o6 o7 o8 o9 hmh hms hgl
  have hlt := hp.lt
  have hge := hp.ge
  obtain ⟨w1, hw1, F1, hs1, hb1⟩ := wish_box w (.int .u32 t) (.int .u8 r) (.bool rd) (.slice hA h.length hc) (.bool kn) (.slice sA s.length sc) (.slice gA gl.length gc)
  obtain ⟨gx, hgx⟩ : ∃ q, q = w.heap.size := ⟨_, rfl⟩
  have Hgx := hide hgx
  have Hs1 := hide (show gx + 1 = w1.heap.size by rw [← hw1, World.size_alloc, hgx])
  rw [← hgx] at F1
  have HF1 := hide F1
  have Hw1 := hide hw1
  have HP1 := hide (hp.below hb1)
  have HB1 := hide (show Below base w w1 from hb1.mono (by omega))
  have HK1 := hide (KeptP.below hb1)
  obtain ⟨y0, y1, y2, y3, y4, y5, y6⟩ := F1.cells
  have u1 : IntKind.i64.wrap t = t := IntWalk.i64_in _ (by omega)
  have u2 : IntKind.i64.wrap r = r := IntWalk.i64_in _ (by omega)
  have HH := hide hh
  have HS := hide hs
  have HG := hide hg
  have Hmh := hide hmh
  have Hms := hide hms
  have Hoh := hide o5
  have Hos := hide o6
  obtain ⟨st, hst⟩ : ∃ q, q = stN rd kn := ⟨_, rfl⟩
  have Hwp := hide (show wsNums (WsL.wp ⟨t, r, rd, kn, hA, hc, h, sA, sc, s, gA, gc, gl⟩) = [t, r, st] ++ ckNums (h.map TmL.pt) ++ ckNums (s.map TmL.pt) ++ gtNums gl by rw [hst]; rfl)
  obtain ⟨N, hN⟩ : ∃ q, q = wsNums (WsL.wp ⟨t, r, rd, kn, hA, hc, h, sA, sc, s, gA, gc, gl⟩) := ⟨_, rfl⟩
  rw [← hN] at Hwp ⊢
  have key : Hid (rd = true ∧ st = 1 ∨ rd = false ∧ kn = true ∧ st = 2 ∨ rd = false ∧ kn = false ∧ st = 0) := hide (by
    rw [hst]
    cases rd <;> cases kn <;> simp [stN])
  have hst2 := stN_ok rd kn
  rw [← hst] at hst2
  clear hst hN hh hs hg hmh hms o5 o6 F1 hw1 hb1 hs1 hp hgx
  show Calls Try.prog 51 #[.pointer (some ⟨g, 0, none⟩), wsv t r rd kn (.slice hA h.length hc) (.slice sA s.length sc) (.slice gA gl.length gc)] w _
  go_enter Try.func51, Try.ntmps51
  rcases key.out with ⟨rfl, hst⟩ | ⟨rfl, rfl, hst⟩ | ⟨rfl, rfl, hst⟩
  all_goals
    have Hst := hide hst
    clear key hst
    go_wp2_with fail
    rw [Hw1.out, ← Hgx.out]
    first
      | refine (penput_new base g 3 _ pre [t, r, 1] _ rfl w1 Hs1.out HP1.out (three_ok ⟨o1, by omega⟩ ⟨o3, by omega⟩ ⟨by omega, by omega⟩) (by simp only [List.length_cons, List.length_nil]; omega)).mono ?_
      | refine (penput_new base g 3 _ pre [t, r, 2] _ rfl w1 Hs1.out HP1.out (three_ok ⟨o1, by omega⟩ ⟨o3, by omega⟩ ⟨by omega, by omega⟩) (by simp only [List.length_cons, List.length_nil]; omega)).mono ?_
      | refine (penput_new base g 3 _ pre [t, r, 0] _ rfl w1 Hs1.out HP1.out (three_ok ⟨o1, by omega⟩ ⟨o3, by omega⟩ ⟨by omega, by omega⟩) (by simp only [List.length_cons, List.length_nil]; omega)).mono ?_
    rintro e w2 ⟨rfl, hp2, hb2, hk2⟩
    rw [← Hst.out] at hp2
    obtain ⟨p2, hp2e⟩ : ∃ q, q = pre ++ nbs [t, r, st] := ⟨_, rfl⟩
    have Hl2 := hide (show p2.length ≤ 400000018 by
      rw [hp2e]
      have := app_len (three_ok ⟨o1, by omega⟩ ⟨o3, by omega⟩ ⟨hst2.1, by omega⟩ : ∀ z ∈ [t, r, st], 0 ≤ z ∧ z ≤ 1099511627776) hsz
      simp only [List.length_cons, List.length_nil] at this
      omega)
    have Hp2e := hide hp2e
    rw [← hp2e] at hp2
    have HP2 := hide hp2
    have HF2 := hide (show WB w2 gx _ _ _ _ _ _ _ from hk2 gx _ HF1.out (fun cur e => by simp at e) (fun cur e => by simp at e))
    have HB2 := hide (HB1.out.trans hb2)
    have HK2 := hide (HK1.out.trans hk2)
    obtain ⟨z0, z1, z2, z3, z4, z5, z6⟩ := HF2.out.cells
    clear hp2 hp2e hb2 hk2 HP1 HB1 HK1 HF1 y0 y1 y2 y3 y4 y5 y6
    go_wp2_with fail
    refine (penclock base g p2 hA h.length hc h w2 HP2.out (HH.out.below HB2.out) rfl Hoh.out Hmh.out (by have := Hl2.out; omega)).mono ?_
    rintro e w3 ⟨rfl, hp3, hb3, hk3⟩
    obtain ⟨p3, hp3e⟩ : ∃ q, q = p2 ++ nbs (ckNums (h.map TmL.pt)) := ⟨_, rfl⟩
    have Hl3 := hide (show p3.length ≤ 400100018 by
      rw [hp3e, List.length_append]
      have := ck_len Hmh.out
      have := Hl2.out
      omega)
    have Hp3e := hide hp3e
    rw [← hp3e] at hp3
    have HP3 := hide hp3
    have HF3 := hide (show WB w3 gx _ _ _ _ _ _ _ from hk3 gx _ HF2.out (fun cur e => by simp at e) (fun cur e => by simp at e))
    have HB3 := hide (HB2.out.trans hb3)
    have HK3 := hide (HK2.out.trans hk3)
    clear z0 z1 z2 z3 z4 z5 z6
    obtain ⟨z0, z1, z2, z3, z4, z5, z6⟩ := HF3.out.cells
    clear hp3 hp3e hb3 hk3 HP2 HB2 HK2 HF2
    go_wp2_with fail
    refine (penclock base g p3 sA s.length sc s w3 HP3.out (HS.out.below HB3.out) rfl Hos.out Hms.out (by have := Hl3.out; omega)).mono ?_
    rintro e w4 ⟨rfl, hp4, hb4, hk4⟩
    obtain ⟨p4, hp4e⟩ : ∃ q, q = p3 ++ nbs (ckNums (s.map TmL.pt)) := ⟨_, rfl⟩
    have Hl4 := hide (show p4.length ≤ 400200018 by
      rw [hp4e, List.length_append]
      have := ck_len Hms.out
      have := Hl3.out
      omega)
    have Hp4e := hide hp4e
    rw [← hp4e] at hp4
    have HP4 := hide hp4
    have HF4 := hide (show WB w4 gx _ _ _ _ _ _ _ from hk4 gx _ HF3.out (fun cur e => by simp at e) (fun cur e => by simp at e))
    have HB4 := hide (HB3.out.trans hb4)
    have HK4 := hide (HK3.out.trans hk4)
    clear z0 z1 z2 z3 z4 z5 z6
    obtain ⟨z0, z1, z2, z3, z4, z5, z6⟩ := HF4.out.cells
    clear hp4 hp4e hb4 hk4 HP3 HB3 HK3 HF3
    go_wp2_with fail
    refine (penput_new base g 1 _ p4 [(gl.length : Int)] _ rfl w4 rfl HP4.out (one_ok ⟨by omega, by omega⟩) (by have := Hl4.out; simp only [List.length_cons, List.length_nil]; omega)).mono ?_
    rintro e w5 ⟨rfl, hp5, hb5, hk5⟩
    have Hl5 := hide (show (p4 ++ nbs [(gl.length : Int)]).length ≤ 400200024 by
      have := app_len (one_ok ⟨by omega, by omega⟩ : ∀ z ∈ [(gl.length : Int)], 0 ≤ z ∧ z ≤ 1099511627776) Hl4.out
      simp only [List.length_cons, List.length_nil] at this
      omega)
    have HP5 := hide hp5
    have HF5 := hide (show WB w5 gx _ _ _ _ _ _ _ from hk5 gx _ HF4.out (fun cur e => by simp at e) (fun cur e => by simp at e))
    have HB5 := hide (HB4.out.trans hb5)
    have HK5 := hide (HK4.out.trans hk5)
    clear z0 z1 z2 z3 z4 z5 z6
    obtain ⟨z0, z1, z2, z3, z4, z5, z6⟩ := HF5.out.cells
    clear hp5 hb5 hk5 HP4 HB4 HK4 HF4
    go_wp2_with fail
    go_loopw [43] (fun i wr => ∃ k : Nat, k ≤ gl.length ∧ i = .int .i64 (k : Int) ∧ Hid (PN wr base g (p4 ++ nbs ((gl.length : Int) :: (gl.take k).map bn))) ∧ Hid ((p4 ++ nbs ((gl.length : Int) :: (gl.take k).map bn)).length ≤ 400200024 + 6 * k) ∧ Below base w wr ∧ Hid (KeptP w wr)) (fun i _ => gl.length - (intOf i).toNat)
    case atStart => exact ⟨0, by omega, rfl, HP5, Hl5, HB5.out, HK5⟩
    case round =>
      obtain ⟨k, hk, rfl, HPk, Hlk, hbk, HKk⟩ := hrel
      clear HP5 HK5 Hl5 HF5 HB5 z0 z1 z2 z3 z4 z5 z6
      obtain ⟨pk, hpk⟩ : ∃ q, q = p4 ++ nbs ((gl.length : Int) :: (gl.take k).map bn) := ⟨_, rfl⟩
      have Hpk := hide hpk
      rw [← hpk] at HPk Hlk
      clear hpk
      by_cases hlk : k < gl.length
      · have z1 : (k : Int) < gl.length := by omega
        have zk : (0 : Int) ≤ k := by omega
        obtain ⟨b2, o2, rfl, hB2, hC2⟩ := RBl.cell (RD.below HG.out hbk) (by omega)
        have e0 := hC2 k hlk
        obtain ⟨y, hy⟩ : ∃ q, q = gl[k] := ⟨_, rfl⟩
        rw [← hy] at e0
        have Hnx := hide (show pk ++ nbs [bn y] = p4 ++ nbs ((gl.length : Int) :: (gl.take (k + 1)).map bn) by
          rw [List.take_succ_eq_append_getElem hlk, ← hy, Hpk.out, List.append_assoc, ← nbs_append, List.map_append]
          rfl)
        have Hl6 := hide (show (pk ++ nbs [bn y]).length ≤ 400200024 + 6 * (k + 1) by
          have := app_len (one_ok ⟨(bn_ok y).1, by have := (bn_ok y).2; omega⟩ : ∀ z ∈ [bn y], 0 ≤ z ∧ z ≤ 1099511627776) Hlk.out
          simp only [List.length_cons, List.length_nil] at this
          omega)
        have hP := hide (fun (q : Nat) (z : Int) (hq : q = wr.heap.size) (hz : z = bn y) => penput_new base g 1 q pk [z] #[.int .i64 z] rfl wr hq HPk.out (one_ok ⟨by rw [hz]; exact (bn_ok y).1, by rw [hz]; have := (bn_ok y).2; omega⟩) (by have := Hlk.out; simp only [List.length_cons, List.length_nil]; omega))
        clear hC2 hy HPk
        cases y
        · go_wp2_with fail
          refine (unhide hP _ 0 rfl rfl).mono ?_
          rintro e w6 ⟨rfl, hp6, hb6, hk6⟩
          have HP6 := hide hp6
          have HB6 := hide (hbk.trans hb6)
          have HK6 := hide (HKk.out.trans hk6)
          clear hp6 hb6 hk6 hP
          go_wp2_with fail
          go_roundw
          case rel =>
            refine ⟨k + 1, by omega, by go_num, ?_, ?_, HB6.out, HK6⟩
            · rw [← Hnx.out]; exact HP6
            · rw [← Hnx.out]; exact Hl6
          case measure => simp [intOf]; omega
        · go_wp2_with fail
          refine (unhide hP _ 1 rfl rfl).mono ?_
          rintro e w6 ⟨rfl, hp6, hb6, hk6⟩
          have HP6 := hide hp6
          have HB6 := hide (hbk.trans hb6)
          have HK6 := hide (HKk.out.trans hk6)
          clear hp6 hb6 hk6 hP
          go_wp2_with fail
          go_roundw
          case rel =>
            refine ⟨k + 1, by omega, by go_num, ?_, ?_, HB6.out, HK6⟩
            · rw [← Hnx.out]; exact HP6
            · rw [← Hnx.out]; exact Hl6
          case measure => simp [intOf]; omega
      · obtain rfl : k = gl.length := by omega
        have z1 : ¬ (gl.length : Int) < gl.length := by omega
        have Hfin := hide (show pk = pre ++ nbs N by
          rw [Hpk.out, Hwp.out, List.take_of_length_le (Nat.le_refl _), Hp4e.out, Hp3e.out, Hp2e.out]
          simp only [nbs_append, List.append_assoc, gtNums])
        rw [Hfin.out] at HPk
        go_wp2_with fail
        exact bodyPost_end (v := .tuple #[]) (by simp [results, Try.results51, go_sem]) rfl ⟨rfl, HPk.out, hbk, HKk.out⟩
end Go.Proofs.Ytmkpfdcnikgokaa
