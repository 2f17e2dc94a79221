/-
  Texts of this claim, put together: MailBody. What each theorem asks stands in its statement.
-/
import Derived.Test.YtmkpfdcnikgokaaMc38
import Derived.Test.YtmkpfdcnikgokaaMc41
import Derived.Test.YtmkpfdcnikgokaaMc43
set_option linter.unusedVariables false
set_option linter.unusedSimpArgs false
namespace Go.Proofs.Ytmkpfdcnikgokaa
open Go.RowKit
theorem fboxB (w : World) (o : Obj) : Below w.heap.size w (w.alloc o) := (Below.refl w.heap.size w).alloc (Nat.le_refl _) o
theorem row0 (w : World) : RD (w.alloc (.cells #[.int .u8 0] 5)) (w.alloc (.cells #[.int .u8 0] 5)).heap.size 1 (some ⟨w.heap.size, 0, none⟩) 1 (u8s [0]) := by
  refine ⟨rfl, fun _ => ⟨_, _, rfl, by rw [World.size_alloc]; omega, fun j u hu => ?_⟩⟩
  rw [Nat.zero_add, World.cell?_alloc_new, ← Array.getElem?_toList]
  exact hu
set_option maxHeartbeats 25600000 in
set_option maxRecDepth 100000 in
theorem mailBody_walk (x : MlL) (bA : Option Addr) (bn bc : Nat) (many : Int) (b : List UInt8) (w : World) (hx : RM w w.heap.size x) (tx : typM x) (bx : bigM x) (hrb : RB w w.heap.size bA b) (hbn : b.length = bn) :
    Calls Try.prog 7 #[x.val, .slice bA bn bc, .int .i64 many] w fun e w' => e = .returned (.bool true) ∧ Below w.heap.size w w' := by
  obtain ⟨w1, hw1, F1, hs1, hb1⟩ := mail_box w (.int .u8 x.k) (.int .u32 x.t) (.int .u8 x.r) (.int .i64 x.ix) (.slice x.iA x.i.length x.ic) (.slice x.oA x.o.length x.oc) (.slice x.sA x.s.length x.sc)
  have HF1 := hide F1
  have HB1 := hide hb1
  have Hw1 := hide hw1
  have HX := hide hx
  have Htx := hide tx
  have Hbx := hide bx
  have HRb := hide hrb
  have Hbn := hide hbn
  clear hx tx bx hrb hbn F1 hw1 hs1 hb1
  show Calls Try.prog 7 #[mlv x.k x.t x.r x.ix (.slice x.iA x.i.length x.ic) (.slice x.oA x.o.length x.oc) (.slice x.sA x.s.length x.sc), .slice bA bn bc, .int .i64 many] w _
  go_enter Try.func7, Try.ntmps7
  go_wp2_with fail
  rw [Hw1.out]
  refine (malive w1).mono ?_
  rintro e w2 ⟨rfl, hb2⟩
  have HB2 := hide (fresh HB1.out hb2)
  have HF2 := hide (HF1.out.below hb2)
  obtain ⟨y0, y1, y2, y3, y4, y5, y6⟩ := HF2.out.cells
  have PGr := hide (mgreat_any x w2 ((HX.out.below HB2.out).more HB2.out.size) Hbx.out)
  clear hb2 HF1 HB1
  go_wp2_with fail
  refine PGr.out.mono ?_
  rintro e w3 ⟨v, rfl, ⟨g, rfl, hg⟩, hb3⟩
  have HB3 := hide (fresh HB2.out hb3)
  have HF3 := hide (HF2.out.below hb3)
  clear y0 y1 y2 y3 y4 y5 y6 hb3 PGr HF2 HB2
  cases g with
  | true =>
    clear hg
    go_wp2_with fail
    go_ret
    exact ⟨rfl, HB3.out⟩
  | false =>
  have Hox := hide (okM_of Htx.out (hg rfl))
  clear hg
  by_cases h10 : (10000 : Int) < bn
  · go_wp2_with fail
    go_ret
    exact ⟨rfl, HB3.out⟩
  have hb10 : bn ≤ 10000 := by omega
  have PW := hide (wrap_ok bA bc b w3 ((RD.below HRb.out HB3.out).more HB3.out.size) (by rw [Hbn.out]; omega))
  rw [Hbn.out] at PW
  go_wp2_with fail
  refine PW.out.mono ?_
  rintro e w4 ⟨v, rfl, ho4, hb4⟩
  obtain ⟨A4, c4, rfl, hc4, -, -⟩ := own_slice ho4
  have HB4 := hide (fresh HB3.out hb4)
  have HF4 := hide (HF3.out.below hb4)
  have hfl : (frm b).length < 100000 := by
    rw [frm_len, Hbn.out]
    have := nb_six (n := bn) (by omega)
    omega
  obtain ⟨hc0, hm0⟩ := codeM_frm (l := b) (by rw [Hbn.out]; omega)
  have HR4 := hide (show RB w4 w4.heap.size A4 (frm b) from RD.of_own ho4)
  have PG := hide (mget_any A4 (frm b).length c4 (frm b) w4 HR4.out rfl hc4 hfl)
  rw [hc0, hm0] at PG
  obtain ⟨fl, hfe⟩ : ∃ z, z = (frm b).length := ⟨_, rfl⟩
  have Hfe := hide hfe.symm
  rw [← hfe] at PG ⊢
  clear ho4 hb4 hc4 hfl hc0 hm0 hfe PW HB3 HF3
  by_cases hcode : mcode b = 0
  · have hsome : ∃ X, getB b = some X := by
      unfold mcode at hcode
      split at hcode
      · rename_i h; exact Option.isSome_iff_exists.1 h
      · cases hcode
    obtain ⟨X, hX⟩ := hsome
    obtain ⟨g1, g2, g3⟩ := getB_inv hX
    have hE : putE X = 0 := putE_zero.2 ⟨g2, by rw [← g1, Hbn.out]; omega⟩
    have hVX : putV X = frm b := by rw [putV_ok hE, ← g1]
    have HXX := hide (And.intro hX (And.intro hE hVX))
    rw [hcode] at PG
    clear hcode hX g1 g2 g3 hE hVX
    go_wp2_with fail
    refine PG.out.mono ?_
    rintro e w5 ⟨y, rfl, hy, hry, hoy, hb5⟩
    rw [HXX.out.1] at hy
    have hy' : y.mp = X := hy
    simp only [MlL.val]
    obtain ⟨w6a, hw6a, F6a, hs6a, hb6a⟩ := mail_box w5 (.int .u8 0) (.int .u32 0) (.int .u8 0) (.int .i64 0) (.slice none 0 0) (.slice none 0 0) (.slice none 0 0)
    obtain ⟨f0, f1, f2, f3, f4, f5, f6, F6, hb6r⟩ := refill (.int .u8 y.k) (.int .u32 y.t) (.int .u8 y.r) (.int .i64 y.ix) (.slice y.iA y.i.length y.ic) (.slice y.oA y.o.length y.oc) (.slice y.sA y.s.length y.sc) F6a (Below.refl w5.heap.size w6a) (Nat.le_refl _)
    obtain ⟨y0, y1, y2, y3, y4, y5, y6⟩ := F6a.cells
    obtain ⟨w6, hw6⟩ : ∃ q, ((((((w6a.setCell ⟨w5.heap.size, 0, none⟩ (.int .u8 y.k)).setCell ⟨w5.heap.size, 1, none⟩ (.int .u32 y.t)).setCell ⟨w5.heap.size, 2, none⟩ (.int .u8 y.r)).setCell ⟨w5.heap.size, 3, none⟩ (.int .i64 y.ix)).setCell ⟨w5.heap.size, 4, none⟩ (.slice y.iA y.i.length y.ic)).setCell ⟨w5.heap.size, 5, none⟩ (.slice y.oA y.o.length y.oc)).setCell ⟨w5.heap.size, 6, none⟩ (.slice y.sA y.s.length y.sc) = q := ⟨_, rfl⟩
    rw [hw6] at F6 hb6r
    have hb6 : Below w5.heap.size w5 w6 := hb6a.trans hb6r
    have hg6 : w5.heap.size < w6.heap.size := F6.lt
    have HB6 := hide (fresh HB4.out (fresh hb5 hb6))
    have HF6 := hide (HF4.out.below (fresh hb5 hb6))
    have HR6 := hide ((RD.below HR4.out (fresh hb5 hb6)).more (fresh hb5 hb6).size)
    obtain ⟨x0, x1, x2, x3, x4, x5, x6⟩ := F6.cells
    have PP := hide (mput_any y w6 ((hry.below hb6).more hb6.size) hoy)
    rw [hy', HXX.out.2.1, HXX.out.2.2] at PP
    clear hy hy' hry hoy hb5 hb6 hb6a hb6r hs6a hg6 F6 F6a PG HB4 HF4 HXX
    go_wp2_with fail
    refine PP.out.mono ?_
    rintro e w7 ⟨A7, c7, q, rfl, hq, ho7, hb7⟩
    subst hq
    rw [Hfe.out]
    have HBw7 := hide (fresh HB6.out hb7)
    have HFw7 := hide (HF6.out.below hb7)
    have k1 := conv_bytes (P := Try.prog) (show RB w7 w7.heap.size A7 (frm b) from RD.of_own ho7) Try.underlying28 Try.underlying5 Try.underlying9 c7
    have k2 := conv_bytes (P := Try.prog) (show RB w7 w7.heap.size A4 (frm b) from (RD.below HR6.out hb7).more hb7.size) Try.underlying28 Try.underlying5 Try.underlying9 c4
    rw [Hfe.out] at k1 k2
    clear x0 x1 x2 x3 x4 x5 x6 y0 y1 y2 y3 y4 y5 y6 f0 f1 f2 f3 f4 f5 f6 hw6a hw6 ho7 hb7 HB6 HF6 PP HR6 HR4 Hfe
    have HBw := HBw7
    have HFw := HFw7
    obtain ⟨x0, x1, x2, x3, x4, x5, x6⟩ := HFw.out.cells
    have PP := hide (mput_any x w7 ((HX.out.below HBw.out).more HBw.out.size) Hox.out)
    go_wp2_with fail
    by_cases hE : putE x.mp = 0
    rotate_left
    · obtain ⟨EE, hEE⟩ : ∃ q, q = putE x.mp := ⟨_, rfl⟩
      rw [putV_bad hE, ← hEE] at PP
      rw [← hEE] at hE
      have hEb : (EE == 0) = false := beq_eq_false_iff_ne.2 hE
      clear hEE
      refine PP.out.mono ?_
      rintro e w20 ⟨A20, c20, q, rfl, hq, -, hb20⟩
      subst hq
      have hbz := fresh HBw.out hb20
      clear x0 x1 x2 x3 x4 x5 x6 PP
      go_wp2_with fail
      go_ret
      exact ⟨rfl, hbz⟩
    rw [hE] at PP
    obtain ⟨e1, -, -⟩ := put_got (okM_good Hox.out) hE
    obtain ⟨hmay, hbl⟩ := putE_zero.1 hE
    have hVl : (putV x.mp).length < 100000 := by
      rw [putV_ok hE, frm_len]
      have := nb_six (n := (bodyB x.mp).length) (by omega)
      omega
    obtain ⟨V, hV⟩ : ∃ q, q = putV x.mp := ⟨_, rfl⟩
    rw [← hV] at PP e1 hVl
    have Hless := hide (fun (k : Nat) (hk : k < (bodyB x.mp).length) => getB_less hmay (okM_good Hox.out) hk)
    have Hmore := hide (getB_more (r := [0]) hmay (okM_good Hox.out) (by decide))
    obtain ⟨body, hbody⟩ : ∃ q, q = bodyB x.mp := ⟨_, rfl⟩
    rw [← hbody] at e1 hbl Hless Hmore
    have HV := hide (And.intro e1 hVl)
    clear hE e1 hVl hV hmay hbody
    refine PP.out.mono ?_
    rintro e w20 ⟨A20, c20, q, rfl, hq, ho20, hb20⟩
    subst hq
    obtain ⟨A9, c9, e9, hc20, -, -⟩ := own_slice ho20
    simp only [Value.slice.injEq] at e9
    obtain ⟨rfl, -, rfl⟩ := e9
    have HB20 := hide (fresh HBw.out hb20)
    have PO := hide (open_any A20 c20 q w20 (RD.of_own ho20) hc20 HV.out.2)
    obtain ⟨qn, hqn⟩ : ∃ z, z = q.length := ⟨_, rfl⟩
    rw [← hqn] at PO ⊢
    clear hqn hc20 ho20 hb20 x0 x1 x2 x3 x4 x5 x6 PP HBw HFw HBw7 HFw7
    go_wp2_with fail
    refine PO.out.mono ?_
    rintro e w21 ⟨ho, hb21⟩
    unfold opened at ho
    rw [HV.out.1] at ho
    obtain ⟨v, rfl, ho21⟩ := ho
    obtain ⟨A21, c21, rfl, hc21, -, -⟩ := own_slice ho21
    have HB21 := hide (fresh HB20.out hb21)
    have HR21 := hide (show RB w21 w21.heap.size A21 body from RD.of_own ho21)
    obtain ⟨ln, hln⟩ : ∃ z, z = body.length := ⟨_, rfl⟩
    have Hln := hide hln.symm
    rw [← hln] at hc21 hbl ⊢
    clear ho21 hb21 PO HV hln HB20
    by_cases hn0 : many < 0
    · go_wp2_with fail
      go_ret
      exact ⟨rfl, HB21.out⟩
    by_cases hnl : (ln : Int) ≤ many
    · go_wp2_with fail
      go_ret
      exact ⟨rfl, HB21.out⟩
    obtain ⟨mn, rfl⟩ : ∃ mn : Nat, many = mn := ⟨many.toNat, by omega⟩
    have hml : mn < ln := by omega
    have hmc : (mn : Int) ≤ (c21 : Int) := by omega
    have hmc' : mn ≤ c21 := by omega
    have hm0 : (0 : Int) ≤ (mn : Int) := by omega
    have htl : (body.take mn).length = mn := by rw [List.length_take, Hln.out]; omega
    have hRt : RB w21 w21.heap.size A21 (body.take mn) := RB.opening HR21.out mn (by rw [Hln.out]; omega)
    have PW := hide (wrap_ok A21 c21 (body.take mn) w21 hRt (by rw [htl]; omega))
    rw [htl] at PW
    have PWc := fun c => wrap_ok A21 c (body.take mn) w21 hRt (by rw [htl]; omega)
    rw [htl] at PWc
    have HPW := hide PWc
    have Hsh := hide (show getB (body.take mn) = none from Hless.out mn (by rw [Hln.out]; exact hml))
    have Htl := hide htl
    clear PWc hRt htl PW Hless
    go_wp2_with fail
    refine (HPW.out _).mono ?_
    rintro e w22 ⟨v, rfl, ho22, hb22⟩
    obtain ⟨A22, c22, rfl, hc22, -, -⟩ := own_slice ho22
    have HB22 := hide (fresh HB21.out hb22)
    have hfl : (frm (body.take mn)).length < 100000 := by
      rw [frm_len, Htl.out]
      have := nb_six (n := mn) (by omega)
      omega
    have PG := hide (mget_any A22 (frm (body.take mn)).length c22 (frm (body.take mn)) w22 (RD.of_own ho22) rfl hc22 hfl)
    rw [(codeM_frm (l := body.take mn) (by rw [Htl.out]; omega)).1, show mcode (body.take mn) = 8 by unfold mcode; rw [Hsh.out]; rfl] at PG
    obtain ⟨fn, hfn⟩ : ∃ z, z = (frm (body.take mn)).length := ⟨_, rfl⟩
    rw [← hfn] at PG ⊢
    have HR22 := hide ((RD.below HR21.out hb22).more hb22.size)
    clear ho22 hb22 hc22 hfl hfn HPW Hsh HR21 HB21
    go_wp2_with fail
    refine PG.out.mono ?_
    rintro e w23 ⟨z, rfl, -, -, -, hb23⟩
    simp only [MlL.val]
    obtain ⟨w24a, hw24a, F24a, hs24a, hb24a⟩ := mail_box w23 (.int .u8 0) (.int .u32 0) (.int .u8 0) (.int .i64 0) (.slice none 0 0) (.slice none 0 0) (.slice none 0 0)
    obtain ⟨f0, f1, f2, f3, f4, f5, f6, F24, hb24r⟩ := refill (.int .u8 z.k) (.int .u32 z.t) (.int .u8 z.r) (.int .i64 z.ix) (.slice z.iA z.i.length z.ic) (.slice z.oA z.o.length z.oc) (.slice z.sA z.s.length z.sc) F24a (Below.refl w23.heap.size w24a) (Nat.le_refl _)
    obtain ⟨y0, y1, y2, y3, y4, y5, y6⟩ := F24a.cells
    obtain ⟨w24, hw24⟩ : ∃ q, ((((((w24a.setCell ⟨w23.heap.size, 0, none⟩ (.int .u8 z.k)).setCell ⟨w23.heap.size, 1, none⟩ (.int .u32 z.t)).setCell ⟨w23.heap.size, 2, none⟩ (.int .u8 z.r)).setCell ⟨w23.heap.size, 3, none⟩ (.int .i64 z.ix)).setCell ⟨w23.heap.size, 4, none⟩ (.slice z.iA z.i.length z.ic)).setCell ⟨w23.heap.size, 5, none⟩ (.slice z.oA z.o.length z.oc)).setCell ⟨w23.heap.size, 6, none⟩ (.slice z.sA z.s.length z.sc) = q := ⟨_, rfl⟩
    rw [hw24] at F24 hb24r
    have hb24 : Below w23.heap.size w23 w24 := hb24a.trans hb24r
    have hg24 : w23.heap.size < w24.heap.size := F24.lt
    have HB24 := hide (fresh HB22.out (fresh hb23 hb24))
    have HR24 := hide ((RD.below HR22.out (fresh hb23 hb24)).more (fresh hb23 hb24).size)
    obtain ⟨i0, hi0, hz0, hz1, hz2⟩ := info_parts u8info
    have hs1 : 0 + ln ≤ 1073741824 := by omega
    have hs2 : ln + 1 ≤ 1073741824 := by omega
    clear hb23 hb24 hb24a hb24r hs24a hg24 F24 F24a PG HB22 HR22 hmc hmc' hnl hn0
    have Hu := hide (u8s_len body)
    have hR24 := HR24.out
    unfold RB at hR24
    rw [Hln.out] at hR24
    have HRR := hide hR24
    clear hR24
    go_wp2_with (first
      | (at_builtin; refine wpList_append_src _ rfl (.tmp 109) (.tmp 110) 28 rfl w24.heap.size 5 i0 (.int .u8 0) 1 1 Try.underlying28 hi0 hz0 hz1 hz2 rfl (by decide) _ 0 [] rfl (own_empty w24 _ _ _ (Nat.le_refl _)) w24.heap.size A21 ln c21 (u8s body) rfl (RD.alloc HRR.out (Nat.le_refl _) _) (u8s_one _) hs1 (by decide) (by simp) ?_; intro v25 w25 hown25 hb25; simp only [Nat.zero_add, List.nil_append] at hown25; replace hb25 : Below w24.heap.size w24 w25 := ((Below.refl w24.heap.size w24).alloc (Nat.le_refl _) _).trans hb25; have HO25 := hide hown25; have HB25 := hide hb25; clear hown25 hb25)
      | (at_builtin; refine wpList_append_src _ rfl (.tmp 111) (.tmp 112) 28 rfl w24.heap.size 5 i0 (.int .u8 0) 1 1 Try.underlying28 hi0 hz0 hz1 hz2 rfl (by decide) _ _ _ rfl (own_below HO25.out (fboxB _ _) (Nat.le_refl _)) (w25.alloc (.cells #[.int .u8 0] 5)).heap.size (some ⟨w25.heap.size, 0, none⟩) 1 1 (u8s [0]) rfl (row0 w25) (u8s_one _) hs2 (by decide) (Nat.le_trans HB25.out.size (fboxB _ _).size) ?_; intro v26 w26 hown26 hb26; have HO26 := hide hown26; have HB26 := hide ((HB25.out.trans ((fboxB w25 (.cells #[.int .u8 0] 5)).mono HB25.out.size)).trans hb26); clear hown26 hb26))
    have hown26 := HO26.out
    rw [← u8s_append] at hown26
    obtain ⟨A26, c26, rfl, hc26, -, -⟩ := own_slice hown26
    have hll : (body ++ [0]).length = ln + 1 := by rw [List.length_append, Hln.out]; rfl
    have HR26 := hide (show RB w26 w26.heap.size A26 (body ++ [0]) from by
      have := RD.of_own hown26
      unfold RB
      rw [hll]
      exact this)
    have HBz := hide (fresh HB24.out HB26.out)
    have PL := hide (wrap_body A26 (ln + 1) c26 (body ++ [0]) w26 HR26.out hll)
    have Hll := hide hll
    clear hown26 HO26 HO25 HB25 HB26 HB24 HRR HR24 hc26 hll hs1 hs2 y0 y1 y2 y3 y4 y5 y6 f0 f1 f2 f3 f4 f5 f6 hw24a hw24 hi0 hz0 hz1 hz2
    refine PL.out.mono ?_
    rintro e w27 ⟨A27, c27, q, rfl, hq, ho27, hb27⟩
    obtain ⟨A9, c9, e9, hc27, -, -⟩ := own_slice ho27
    simp only [Value.slice.injEq] at e9
    obtain ⟨rfl, -, rfl⟩ := e9
    have HB27 := hide (fresh HBz.out hb27)
    by_cases hlong : (body ++ [0]).length ≤ 16384
    · have hq' : q = frm (body ++ [0]) := by rw [hq, wrV, if_pos hlong]
      have hq9 : q.length < 100000 := by
        rw [hq', frm_len]
        have := nb_six (n := (body ++ [0]).length) (by omega)
        omega
      have PG := hide (mget_any A27 q.length c27 q w27 (RD.of_own ho27) rfl hc27 hq9)
      rw [hq', (codeM_frm hlong).1, show mcode (body ++ [0]) = 8 by unfold mcode; rw [Hmore.out]; rfl, ← hq'] at PG
      rw [show wrE (body ++ [0]) = 0 from if_pos hlong]
      obtain ⟨qm, hqm⟩ : ∃ z, z = q.length := ⟨_, rfl⟩
      rw [← hqm] at PG ⊢
      clear hqm hq hq' hq9 hc27 ho27 hb27 HBz PL hlong
      go_wp2_with fail
      refine PG.out.mono ?_
      rintro e w28 ⟨z', rfl, -, -, -, hb28⟩
      simp only [MlL.val]
      obtain ⟨w29a, hw29a, F29a, hs29a, hb29a⟩ := mail_box w28 (.int .u8 0) (.int .u32 0) (.int .u8 0) (.int .i64 0) (.slice none 0 0) (.slice none 0 0) (.slice none 0 0)
      obtain ⟨f0, f1, f2, f3, f4, f5, f6, F29, hb29r⟩ := refill (.int .u8 z'.k) (.int .u32 z'.t) (.int .u8 z'.r) (.int .i64 z'.ix) (.slice z'.iA z'.i.length z'.ic) (.slice z'.oA z'.o.length z'.oc) (.slice z'.sA z'.s.length z'.sc) F29a (Below.refl w28.heap.size w29a) (Nat.le_refl _)
      obtain ⟨y0, y1, y2, y3, y4, y5, y6⟩ := F29a.cells
      obtain ⟨w29, hw29⟩ : ∃ q, ((((((w29a.setCell ⟨w28.heap.size, 0, none⟩ (.int .u8 z'.k)).setCell ⟨w28.heap.size, 1, none⟩ (.int .u32 z'.t)).setCell ⟨w28.heap.size, 2, none⟩ (.int .u8 z'.r)).setCell ⟨w28.heap.size, 3, none⟩ (.int .i64 z'.ix)).setCell ⟨w28.heap.size, 4, none⟩ (.slice z'.iA z'.i.length z'.ic)).setCell ⟨w28.heap.size, 5, none⟩ (.slice z'.oA z'.o.length z'.oc)).setCell ⟨w28.heap.size, 6, none⟩ (.slice z'.sA z'.s.length z'.sc) = q := ⟨_, rfl⟩
      rw [hw29] at F29 hb29r
      have hb29 : Below w28.heap.size w28 w29 := hb29a.trans hb29r
      have hg29 : w28.heap.size < w29.heap.size := F29.lt
      have hbz := fresh HB27.out (fresh hb28 hb29)
      clear hb28 hb29 hb29a hb29r hs29a hg29 F29 F29a PG
      go_wp2_with fail
      go_ret
      exact ⟨rfl, hbz⟩
    · have hq' : q = [] := by rw [hq, wrV, if_neg hlong]
      subst hq'
      have PG := hide (mget_any A27 0 c27 [] w27 RD.nil_ rfl (Nat.zero_le _) (by decide))
      rw [show codeM [] = 30 by unfold codeM; rw [show opn [] = none from rfl]] at PG
      rw [show wrE (body ++ [0]) = 4 from if_neg hlong, List.length_nil]
      clear hq hc27 ho27 hb27 HBz PL hlong
      go_wp2_with fail
      refine PG.out.mono ?_
      rintro e w28 ⟨z', rfl, -, -, -, hb28⟩
      simp only [MlL.val]
      obtain ⟨w29a, hw29a, F29a, hs29a, hb29a⟩ := mail_box w28 (.int .u8 0) (.int .u32 0) (.int .u8 0) (.int .i64 0) (.slice none 0 0) (.slice none 0 0) (.slice none 0 0)
      obtain ⟨f0, f1, f2, f3, f4, f5, f6, F29, hb29r⟩ := refill (.int .u8 z'.k) (.int .u32 z'.t) (.int .u8 z'.r) (.int .i64 z'.ix) (.slice z'.iA z'.i.length z'.ic) (.slice z'.oA z'.o.length z'.oc) (.slice z'.sA z'.s.length z'.sc) F29a (Below.refl w28.heap.size w29a) (Nat.le_refl _)
      obtain ⟨y0, y1, y2, y3, y4, y5, y6⟩ := F29a.cells
      obtain ⟨w29, hw29⟩ : ∃ q, ((((((w29a.setCell ⟨w28.heap.size, 0, none⟩ (.int .u8 z'.k)).setCell ⟨w28.heap.size, 1, none⟩ (.int .u32 z'.t)).setCell ⟨w28.heap.size, 2, none⟩ (.int .u8 z'.r)).setCell ⟨w28.heap.size, 3, none⟩ (.int .i64 z'.ix)).setCell ⟨w28.heap.size, 4, none⟩ (.slice z'.iA z'.i.length z'.ic)).setCell ⟨w28.heap.size, 5, none⟩ (.slice z'.oA z'.o.length z'.oc)).setCell ⟨w28.heap.size, 6, none⟩ (.slice z'.sA z'.s.length z'.sc) = q := ⟨_, rfl⟩
      rw [hw29] at F29 hb29r
      have hb29 : Below w28.heap.size w28 w29 := hb29a.trans hb29r
      have hg29 : w28.heap.size < w29.heap.size := F29.lt
      have hbz := fresh HB27.out (fresh hb28 hb29)
      clear hb28 hb29 hb29a hb29r hs29a hg29 F29 F29a PG
      go_wp2_with fail
      go_ret
      exact ⟨rfl, hbz⟩
  · obtain ⟨code, hcd⟩ : ∃ q, q = mcode b := ⟨_, rfl⟩
    rw [← hcd] at PG hcode
    have hcb : (code == 0) = false := beq_eq_false_iff_ne.2 hcode
    clear hcd
    go_wp2_with fail
    refine PG.out.mono ?_
    rintro e w5 ⟨y, rfl, -, -, -, hb5⟩
    simp only [MlL.val]
    obtain ⟨w6a, hw6a, F6a, hs6a, hb6a⟩ := mail_box w5 (.int .u8 0) (.int .u32 0) (.int .u8 0) (.int .i64 0) (.slice none 0 0) (.slice none 0 0) (.slice none 0 0)
    obtain ⟨f0, f1, f2, f3, f4, f5, f6, F6, hb6r⟩ := refill (.int .u8 y.k) (.int .u32 y.t) (.int .u8 y.r) (.int .i64 y.ix) (.slice y.iA y.i.length y.ic) (.slice y.oA y.o.length y.oc) (.slice y.sA y.s.length y.sc) F6a (Below.refl w5.heap.size w6a) (Nat.le_refl _)
    obtain ⟨y0, y1, y2, y3, y4, y5, y6⟩ := F6a.cells
    obtain ⟨w6, hw6⟩ : ∃ q, ((((((w6a.setCell ⟨w5.heap.size, 0, none⟩ (.int .u8 y.k)).setCell ⟨w5.heap.size, 1, none⟩ (.int .u32 y.t)).setCell ⟨w5.heap.size, 2, none⟩ (.int .u8 y.r)).setCell ⟨w5.heap.size, 3, none⟩ (.int .i64 y.ix)).setCell ⟨w5.heap.size, 4, none⟩ (.slice y.iA y.i.length y.ic)).setCell ⟨w5.heap.size, 5, none⟩ (.slice y.oA y.o.length y.oc)).setCell ⟨w5.heap.size, 6, none⟩ (.slice y.sA y.s.length y.sc) = q := ⟨_, rfl⟩
    rw [hw6] at F6 hb6r
    have hb6 : Below w5.heap.size w5 w6 := hb6a.trans hb6r
    have hg6 : w5.heap.size < w6.heap.size := F6.lt
    have HBw6 := hide (fresh HB4.out (fresh hb5 hb6))
    have HFw6 := hide (HF4.out.below (fresh hb5 hb6))
    clear hb5 hb6 hb6a hb6r hs6a hg6 F6 F6a PG HB4 HF4 Hfe HR4
    have HBw := HBw6
    have HFw := HFw6
    obtain ⟨x0, x1, x2, x3, x4, x5, x6⟩ := HFw.out.cells
    have PP := hide (mput_any x w6 ((HX.out.below HBw.out).more HBw.out.size) Hox.out)
    go_wp2_with fail
    clear y0 y1 y2 y3 y4 y5 y6 f0 f1 f2 f3 f4 f5 f6 hw6a hw6
    by_cases hE : putE x.mp = 0
    rotate_left
    · obtain ⟨EE, hEE⟩ : ∃ q, q = putE x.mp := ⟨_, rfl⟩
      rw [putV_bad hE, ← hEE] at PP
      rw [← hEE] at hE
      have hEb : (EE == 0) = false := beq_eq_false_iff_ne.2 hE
      clear hEE
      refine PP.out.mono ?_
      rintro e w20 ⟨A20, c20, q, rfl, hq, -, hb20⟩
      subst hq
      have hbz := fresh HBw.out hb20
      clear x0 x1 x2 x3 x4 x5 x6 PP
      go_wp2_with fail
      go_ret
      exact ⟨rfl, hbz⟩
    rw [hE] at PP
    obtain ⟨e1, -, -⟩ := put_got (okM_good Hox.out) hE
    obtain ⟨hmay, hbl⟩ := putE_zero.1 hE
    have hVl : (putV x.mp).length < 100000 := by
      rw [putV_ok hE, frm_len]
      have := nb_six (n := (bodyB x.mp).length) (by omega)
      omega
    obtain ⟨V, hV⟩ : ∃ q, q = putV x.mp := ⟨_, rfl⟩
    rw [← hV] at PP e1 hVl
    have Hless := hide (fun (k : Nat) (hk : k < (bodyB x.mp).length) => getB_less hmay (okM_good Hox.out) hk)
    have Hmore := hide (getB_more (r := [0]) hmay (okM_good Hox.out) (by decide))
    obtain ⟨body, hbody⟩ : ∃ q, q = bodyB x.mp := ⟨_, rfl⟩
    rw [← hbody] at e1 hbl Hless Hmore
    have HV := hide (And.intro e1 hVl)
    clear hE e1 hVl hV hmay hbody
    refine PP.out.mono ?_
    rintro e w20 ⟨A20, c20, q, rfl, hq, ho20, hb20⟩
    subst hq
    obtain ⟨A9, c9, e9, hc20, -, -⟩ := own_slice ho20
    simp only [Value.slice.injEq] at e9
    obtain ⟨rfl, -, rfl⟩ := e9
    have HB20 := hide (fresh HBw.out hb20)
    have PO := hide (open_any A20 c20 q w20 (RD.of_own ho20) hc20 HV.out.2)
    obtain ⟨qn, hqn⟩ : ∃ z, z = q.length := ⟨_, rfl⟩
    rw [← hqn] at PO ⊢
    clear hqn hc20 ho20 hb20 x0 x1 x2 x3 x4 x5 x6 PP HBw HFw HBw6 HFw6
    go_wp2_with fail
    refine PO.out.mono ?_
    rintro e w21 ⟨ho, hb21⟩
    unfold opened at ho
    rw [HV.out.1] at ho
    obtain ⟨v, rfl, ho21⟩ := ho
    obtain ⟨A21, c21, rfl, hc21, -, -⟩ := own_slice ho21
    have HB21 := hide (fresh HB20.out hb21)
    have HR21 := hide (show RB w21 w21.heap.size A21 body from RD.of_own ho21)
    obtain ⟨ln, hln⟩ : ∃ z, z = body.length := ⟨_, rfl⟩
    have Hln := hide hln.symm
    rw [← hln] at hc21 hbl ⊢
    clear ho21 hb21 PO HV hln HB20
    by_cases hn0 : many < 0
    · go_wp2_with fail
      go_ret
      exact ⟨rfl, HB21.out⟩
    by_cases hnl : (ln : Int) ≤ many
    · go_wp2_with fail
      go_ret
      exact ⟨rfl, HB21.out⟩
    obtain ⟨mn, rfl⟩ : ∃ mn : Nat, many = mn := ⟨many.toNat, by omega⟩
    have hml : mn < ln := by omega
    have hmc : (mn : Int) ≤ (c21 : Int) := by omega
    have hmc' : mn ≤ c21 := by omega
    have hm0 : (0 : Int) ≤ (mn : Int) := by omega
    have htl : (body.take mn).length = mn := by rw [List.length_take, Hln.out]; omega
    have hRt : RB w21 w21.heap.size A21 (body.take mn) := RB.opening HR21.out mn (by rw [Hln.out]; omega)
    have PW := hide (wrap_ok A21 c21 (body.take mn) w21 hRt (by rw [htl]; omega))
    rw [htl] at PW
    have PWc := fun c => wrap_ok A21 c (body.take mn) w21 hRt (by rw [htl]; omega)
    rw [htl] at PWc
    have HPW := hide PWc
    have Hsh := hide (show getB (body.take mn) = none from Hless.out mn (by rw [Hln.out]; exact hml))
    have Htl := hide htl
    clear PWc hRt htl PW Hless
    go_wp2_with fail
    refine (HPW.out _).mono ?_
    rintro e w22 ⟨v, rfl, ho22, hb22⟩
    obtain ⟨A22, c22, rfl, hc22, -, -⟩ := own_slice ho22
    have HB22 := hide (fresh HB21.out hb22)
    have hfl : (frm (body.take mn)).length < 100000 := by
      rw [frm_len, Htl.out]
      have := nb_six (n := mn) (by omega)
      omega
    have PG := hide (mget_any A22 (frm (body.take mn)).length c22 (frm (body.take mn)) w22 (RD.of_own ho22) rfl hc22 hfl)
    rw [(codeM_frm (l := body.take mn) (by rw [Htl.out]; omega)).1, show mcode (body.take mn) = 8 by unfold mcode; rw [Hsh.out]; rfl] at PG
    obtain ⟨fn, hfn⟩ : ∃ z, z = (frm (body.take mn)).length := ⟨_, rfl⟩
    rw [← hfn] at PG ⊢
    have HR22 := hide ((RD.below HR21.out hb22).more hb22.size)
    clear ho22 hb22 hc22 hfl hfn HPW Hsh HR21 HB21
    go_wp2_with fail
    refine PG.out.mono ?_
    rintro e w23 ⟨z, rfl, -, -, -, hb23⟩
    simp only [MlL.val]
    obtain ⟨w24a, hw24a, F24a, hs24a, hb24a⟩ := mail_box w23 (.int .u8 0) (.int .u32 0) (.int .u8 0) (.int .i64 0) (.slice none 0 0) (.slice none 0 0) (.slice none 0 0)
    obtain ⟨f0, f1, f2, f3, f4, f5, f6, F24, hb24r⟩ := refill (.int .u8 z.k) (.int .u32 z.t) (.int .u8 z.r) (.int .i64 z.ix) (.slice z.iA z.i.length z.ic) (.slice z.oA z.o.length z.oc) (.slice z.sA z.s.length z.sc) F24a (Below.refl w23.heap.size w24a) (Nat.le_refl _)
    obtain ⟨y0, y1, y2, y3, y4, y5, y6⟩ := F24a.cells
    obtain ⟨w24, hw24⟩ : ∃ q, ((((((w24a.setCell ⟨w23.heap.size, 0, none⟩ (.int .u8 z.k)).setCell ⟨w23.heap.size, 1, none⟩ (.int .u32 z.t)).setCell ⟨w23.heap.size, 2, none⟩ (.int .u8 z.r)).setCell ⟨w23.heap.size, 3, none⟩ (.int .i64 z.ix)).setCell ⟨w23.heap.size, 4, none⟩ (.slice z.iA z.i.length z.ic)).setCell ⟨w23.heap.size, 5, none⟩ (.slice z.oA z.o.length z.oc)).setCell ⟨w23.heap.size, 6, none⟩ (.slice z.sA z.s.length z.sc) = q := ⟨_, rfl⟩
    rw [hw24] at F24 hb24r
    have hb24 : Below w23.heap.size w23 w24 := hb24a.trans hb24r
    have hg24 : w23.heap.size < w24.heap.size := F24.lt
    have HB24 := hide (fresh HB22.out (fresh hb23 hb24))
    have HR24 := hide ((RD.below HR22.out (fresh hb23 hb24)).more (fresh hb23 hb24).size)
    obtain ⟨i0, hi0, hz0, hz1, hz2⟩ := info_parts u8info
    have hs1 : 0 + ln ≤ 1073741824 := by omega
    have hs2 : ln + 1 ≤ 1073741824 := by omega
    clear hb23 hb24 hb24a hb24r hs24a hg24 F24 F24a PG HB22 HR22 hmc hmc' hnl hn0
    have Hu := hide (u8s_len body)
    have hR24 := HR24.out
    unfold RB at hR24
    rw [Hln.out] at hR24
    have HRR := hide hR24
    clear hR24
    go_wp2_with (first
      | (at_builtin; refine wpList_append_src _ rfl (.tmp 109) (.tmp 110) 28 rfl w24.heap.size 5 i0 (.int .u8 0) 1 1 Try.underlying28 hi0 hz0 hz1 hz2 rfl (by decide) _ 0 [] rfl (own_empty w24 _ _ _ (Nat.le_refl _)) w24.heap.size A21 ln c21 (u8s body) rfl (RD.alloc HRR.out (Nat.le_refl _) _) (u8s_one _) hs1 (by decide) (by simp) ?_; intro v25 w25 hown25 hb25; simp only [Nat.zero_add, List.nil_append] at hown25; replace hb25 : Below w24.heap.size w24 w25 := ((Below.refl w24.heap.size w24).alloc (Nat.le_refl _) _).trans hb25; have HO25 := hide hown25; have HB25 := hide hb25; clear hown25 hb25)
      | (at_builtin; refine wpList_append_src _ rfl (.tmp 111) (.tmp 112) 28 rfl w24.heap.size 5 i0 (.int .u8 0) 1 1 Try.underlying28 hi0 hz0 hz1 hz2 rfl (by decide) _ _ _ rfl (own_below HO25.out (fboxB _ _) (Nat.le_refl _)) (w25.alloc (.cells #[.int .u8 0] 5)).heap.size (some ⟨w25.heap.size, 0, none⟩) 1 1 (u8s [0]) rfl (row0 w25) (u8s_one _) hs2 (by decide) (Nat.le_trans HB25.out.size (fboxB _ _).size) ?_; intro v26 w26 hown26 hb26; have HO26 := hide hown26; have HB26 := hide ((HB25.out.trans ((fboxB w25 (.cells #[.int .u8 0] 5)).mono HB25.out.size)).trans hb26); clear hown26 hb26))
    have hown26 := HO26.out
    rw [← u8s_append] at hown26
    obtain ⟨A26, c26, rfl, hc26, -, -⟩ := own_slice hown26
    have hll : (body ++ [0]).length = ln + 1 := by rw [List.length_append, Hln.out]; rfl
    have HR26 := hide (show RB w26 w26.heap.size A26 (body ++ [0]) from by
      have := RD.of_own hown26
      unfold RB
      rw [hll]
      exact this)
    have HBz := hide (fresh HB24.out HB26.out)
    have PL := hide (wrap_body A26 (ln + 1) c26 (body ++ [0]) w26 HR26.out hll)
    have Hll := hide hll
    clear hown26 HO26 HO25 HB25 HB26 HB24 HRR HR24 hc26 hll hs1 hs2 y0 y1 y2 y3 y4 y5 y6 f0 f1 f2 f3 f4 f5 f6 hw24a hw24 hi0 hz0 hz1 hz2
    refine PL.out.mono ?_
    rintro e w27 ⟨A27, c27, q, rfl, hq, ho27, hb27⟩
    obtain ⟨A9, c9, e9, hc27, -, -⟩ := own_slice ho27
    simp only [Value.slice.injEq] at e9
    obtain ⟨rfl, -, rfl⟩ := e9
    have HB27 := hide (fresh HBz.out hb27)
    by_cases hlong : (body ++ [0]).length ≤ 16384
    · have hq' : q = frm (body ++ [0]) := by rw [hq, wrV, if_pos hlong]
      have hq9 : q.length < 100000 := by
        rw [hq', frm_len]
        have := nb_six (n := (body ++ [0]).length) (by omega)
        omega
      have PG := hide (mget_any A27 q.length c27 q w27 (RD.of_own ho27) rfl hc27 hq9)
      rw [hq', (codeM_frm hlong).1, show mcode (body ++ [0]) = 8 by unfold mcode; rw [Hmore.out]; rfl, ← hq'] at PG
      rw [show wrE (body ++ [0]) = 0 from if_pos hlong]
      obtain ⟨qm, hqm⟩ : ∃ z, z = q.length := ⟨_, rfl⟩
      rw [← hqm] at PG ⊢
      clear hqm hq hq' hq9 hc27 ho27 hb27 HBz PL hlong
      go_wp2_with fail
      refine PG.out.mono ?_
      rintro e w28 ⟨z', rfl, -, -, -, hb28⟩
      simp only [MlL.val]
      obtain ⟨w29a, hw29a, F29a, hs29a, hb29a⟩ := mail_box w28 (.int .u8 0) (.int .u32 0) (.int .u8 0) (.int .i64 0) (.slice none 0 0) (.slice none 0 0) (.slice none 0 0)
      obtain ⟨f0, f1, f2, f3, f4, f5, f6, F29, hb29r⟩ := refill (.int .u8 z'.k) (.int .u32 z'.t) (.int .u8 z'.r) (.int .i64 z'.ix) (.slice z'.iA z'.i.length z'.ic) (.slice z'.oA z'.o.length z'.oc) (.slice z'.sA z'.s.length z'.sc) F29a (Below.refl w28.heap.size w29a) (Nat.le_refl _)
      obtain ⟨y0, y1, y2, y3, y4, y5, y6⟩ := F29a.cells
      obtain ⟨w29, hw29⟩ : ∃ q, ((((((w29a.setCell ⟨w28.heap.size, 0, none⟩ (.int .u8 z'.k)).setCell ⟨w28.heap.size, 1, none⟩ (.int .u32 z'.t)).setCell ⟨w28.heap.size, 2, none⟩ (.int .u8 z'.r)).setCell ⟨w28.heap.size, 3, none⟩ (.int .i64 z'.ix)).setCell ⟨w28.heap.size, 4, none⟩ (.slice z'.iA z'.i.length z'.ic)).setCell ⟨w28.heap.size, 5, none⟩ (.slice z'.oA z'.o.length z'.oc)).setCell ⟨w28.heap.size, 6, none⟩ (.slice z'.sA z'.s.length z'.sc) = q := ⟨_, rfl⟩
      rw [hw29] at F29 hb29r
      have hb29 : Below w28.heap.size w28 w29 := hb29a.trans hb29r
      have hg29 : w28.heap.size < w29.heap.size := F29.lt
      have hbz := fresh HB27.out (fresh hb28 hb29)
      clear hb28 hb29 hb29a hb29r hs29a hg29 F29 F29a PG
      go_wp2_with fail
      go_ret
      exact ⟨rfl, hbz⟩
    · have hq' : q = [] := by rw [hq, wrV, if_neg hlong]
      subst hq'
      have PG := hide (mget_any A27 0 c27 [] w27 RD.nil_ rfl (Nat.zero_le _) (by decide))
      rw [show codeM [] = 30 by unfold codeM; rw [show opn [] = none from rfl]] at PG
      rw [show wrE (body ++ [0]) = 4 from if_neg hlong, List.length_nil]
      clear hq hc27 ho27 hb27 HBz PL hlong
      go_wp2_with fail
      refine PG.out.mono ?_
      rintro e w28 ⟨z', rfl, -, -, -, hb28⟩
      simp only [MlL.val]
      obtain ⟨w29a, hw29a, F29a, hs29a, hb29a⟩ := mail_box w28 (.int .u8 0) (.int .u32 0) (.int .u8 0) (.int .i64 0) (.slice none 0 0) (.slice none 0 0) (.slice none 0 0)
      obtain ⟨f0, f1, f2, f3, f4, f5, f6, F29, hb29r⟩ := refill (.int .u8 z'.k) (.int .u32 z'.t) (.int .u8 z'.r) (.int .i64 z'.ix) (.slice z'.iA z'.i.length z'.ic) (.slice z'.oA z'.o.length z'.oc) (.slice z'.sA z'.s.length z'.sc) F29a (Below.refl w28.heap.size w29a) (Nat.le_refl _)
      obtain ⟨y0, y1, y2, y3, y4, y5, y6⟩ := F29a.cells
      obtain ⟨w29, hw29⟩ : ∃ q, ((((((w29a.setCell ⟨w28.heap.size, 0, none⟩ (.int .u8 z'.k)).setCell ⟨w28.heap.size, 1, none⟩ (.int .u32 z'.t)).setCell ⟨w28.heap.size, 2, none⟩ (.int .u8 z'.r)).setCell ⟨w28.heap.size, 3, none⟩ (.int .i64 z'.ix)).setCell ⟨w28.heap.size, 4, none⟩ (.slice z'.iA z'.i.length z'.ic)).setCell ⟨w28.heap.size, 5, none⟩ (.slice z'.oA z'.o.length z'.oc)).setCell ⟨w28.heap.size, 6, none⟩ (.slice z'.sA z'.s.length z'.sc) = q := ⟨_, rfl⟩
      rw [hw29] at F29 hb29r
      have hb29 : Below w28.heap.size w28 w29 := hb29a.trans hb29r
      have hg29 : w28.heap.size < w29.heap.size := F29.lt
      have hbz := fresh HB27.out (fresh hb28 hb29)
      clear hb28 hb29 hb29a hb29r hs29a hg29 F29 F29a PG
      go_wp2_with fail
      go_ret
      exact ⟨rfl, hbz⟩
end Go.Proofs.Ytmkpfdcnikgokaa
