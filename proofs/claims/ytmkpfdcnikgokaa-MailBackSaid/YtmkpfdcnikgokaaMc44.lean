/-
  Texts of this claim, put together: MailBack. What each theorem asks stands in its statement.
-/
import Derived.Test.YtmkpfdcnikgokaaMc38
import Derived.Test.YtmkpfdcnikgokaaMc41
import Derived.Test.YtmkpfdcnikgokaaMc43
set_option linter.unusedVariables false
set_option linter.unusedSimpArgs false
namespace Go.Proofs.Ytmkpfdcnikgokaa
open Go.RowKit
set_option maxHeartbeats 12800000 in
set_option maxRecDepth 100000 in
theorem mailBack_walk (x : MlL) (bA : Option Addr) (bn bc : Nat) (b : List UInt8) (w : World) (hx : RM w w.heap.size x) (tx : typM x) (bx : bigM x) (hrb : RB w w.heap.size bA b) (hbn : b.length = bn) (hbc : bn ≤ bc) :
    Calls Try.prog 6 #[x.val, .slice bA bn bc] w fun e w' => e = .returned (.bool true) ∧ Below w.heap.size w w' := by
  obtain ⟨w1, hw1, F1, hs1, hb1⟩ := mail_box w (.int .u8 x.k) (.int .u32 x.t) (.int .u8 x.r) (.int .i64 x.ix) (.slice x.iA x.i.length x.ic) (.slice x.oA x.o.length x.oc) (.slice x.sA x.s.length x.sc)
  have HF1 := hide F1
  have HB1 := hide hb1
  have Hw1 := hide hw1
  have HX := hide hx
  have Htx := hide tx
  have Hbx := hide bx
  have HRb := hide hrb
  have Hbn := hide hbn
  clear hx tx bx hrb hbn F1 hw1 hs1 hb1
  show Calls Try.prog 6 #[mlv x.k x.t x.r x.ix (.slice x.iA x.i.length x.ic) (.slice x.oA x.o.length x.oc) (.slice x.sA x.s.length x.sc), .slice bA bn bc] w _
  go_enter Try.func6, Try.ntmps6
  go_wp2_with fail
  rw [Hw1.out]
  refine (malive w1).mono ?_
  rintro e w2 ⟨rfl, hb2⟩
  have HB2 := hide (fresh HB1.out hb2)
  have HF2 := hide (HF1.out.below hb2)
  obtain ⟨y0, y1, y2, y3, y4, y5, y6⟩ := HF2.out.cells
  have PGr := hide (mgreat_any x w2 ((HX.out.below HB2.out).more HB2.out.size) Hbx.out)
  clear hb2 HF1 HB1
  go_wp2_with fail
  refine PGr.out.mono ?_
  rintro e w3 ⟨v, rfl, ⟨g, rfl, hg⟩, hb3⟩
  have HB3 := hide (fresh HB2.out hb3)
  have HF3 := hide (HF2.out.below hb3)
  clear y0 y1 y2 y3 y4 y5 y6 hb3 PGr HF2 HB2
  cases g with
  | true =>
    clear hg
    go_wp2_with fail
    go_ret
    exact ⟨rfl, HB3.out⟩
  | false =>
  have Hox := hide (okM_of Htx.out (hg rfl))
  clear hg
  by_cases h20 : (20000 : Int) < bn
  · go_wp2_with fail
    go_ret
    exact ⟨rfl, HB3.out⟩
  have hb20 : bn ≤ 20000 := by omega
  obtain ⟨y0, y1, y2, y3, y4, y5, y6⟩ := HF3.out.cells
  have PP := hide (mput_any x w3 ((HX.out.below HB3.out).more HB3.out.size) Hox.out)
  by_cases hE : putE x.mp = 0
  · rw [hE] at PP
    obtain ⟨e1, e2, e3⟩ := put_got (okM_good Hox.out) hE
    have hVl : (putV x.mp).length < 100000 := by
      rw [putV_ok hE, frm_len]
      have := (putE_zero.1 hE).2
      have := nb_six (n := (bodyB x.mp).length) (by omega)
      omega
    obtain ⟨V, hV⟩ : ∃ q, q = putV x.mp := ⟨_, rfl⟩
    rw [← hV] at PP e2 e3 hVl
    have HV := hide (And.intro e2 (And.intro e3 hVl))
    clear hE e1 e2 e3 hVl hV
    go_wp2_with fail
    refine PP.out.mono ?_
    rintro e w4 ⟨A4, c4, q, rfl, hq, ho4, hb4⟩
    subst hq
    obtain ⟨A9, c9, e9, hc4, -, -⟩ := own_slice ho4
    simp only [Value.slice.injEq] at e9
    obtain ⟨rfl, -, rfl⟩ := e9
    have HB4 := hide (fresh HB3.out hb4)
    have HF4 := hide (HF3.out.below hb4)
    obtain ⟨qn, hqn⟩ : ∃ z, z = q.length := ⟨_, rfl⟩
    have PG := hide (mget_any A4 qn c4 q w4 (RD.of_own ho4) hqn.symm (by rw [hqn]; exact hc4) (by rw [hqn]; exact HV.out.2.2))
    rw [HV.out.2.1, HV.out.1] at PG
    rw [← hqn]
    clear hqn hc4 ho4 hb4 y0 y1 y2 y3 y4 y5 y6 PP HV
    go_wp2_with fail
    refine PG.out.mono ?_
    rintro e w5 ⟨y, rfl, hy, hry, hoy, hb5⟩
    have hy' : y.mp = x.mp := hy
    simp only [MlL.val]
    obtain ⟨w6a, hw6a, F6a, hs6a, hb6a⟩ := mail_box w5 (.int .u8 0) (.int .u32 0) (.int .u8 0) (.int .i64 0) (.slice none 0 0) (.slice none 0 0) (.slice none 0 0)
    obtain ⟨f0, f1, f2, f3, f4, f5, f6, F6, hb6r⟩ := refill (.int .u8 y.k) (.int .u32 y.t) (.int .u8 y.r) (.int .i64 y.ix) (.slice y.iA y.i.length y.ic) (.slice y.oA y.o.length y.oc) (.slice y.sA y.s.length y.sc) F6a (Below.refl w5.heap.size w6a) (Nat.le_refl _)
    obtain ⟨y0, y1, y2, y3, y4, y5, y6⟩ := F6a.cells
    obtain ⟨w6, hw6⟩ : ∃ q, ((((((w6a.setCell ⟨w5.heap.size, 0, none⟩ (.int .u8 y.k)).setCell ⟨w5.heap.size, 1, none⟩ (.int .u32 y.t)).setCell ⟨w5.heap.size, 2, none⟩ (.int .u8 y.r)).setCell ⟨w5.heap.size, 3, none⟩ (.int .i64 y.ix)).setCell ⟨w5.heap.size, 4, none⟩ (.slice y.iA y.i.length y.ic)).setCell ⟨w5.heap.size, 5, none⟩ (.slice y.oA y.o.length y.oc)).setCell ⟨w5.heap.size, 6, none⟩ (.slice y.sA y.s.length y.sc) = q := ⟨_, rfl⟩
    rw [hw6] at F6 hb6r
    have hb6 : Below w5.heap.size w5 w6 := hb6a.trans hb6r
    have hg6 : w5.heap.size < w6.heap.size := F6.lt
    have HB6 := hide (fresh HB4.out (fresh hb5 hb6))
    have HF6 := hide (HF4.out.below (fresh hb5 hb6))
    obtain ⟨x0, x1, x2, x3, x4, x5, x6⟩ := F6.cells
    obtain ⟨z0, z1, z2, z3, z4, z5, z6⟩ := HF6.out.cells
    have PS := hide (mref_any y x w6 ((hry.below hb6).more hb6.size) ((HX.out.below HB6.out).more HB6.out.size) hoy Hox.out)
    rw [decide_eq_true hy'] at PS
    clear hy hy' hry hoy hb5 hb6 hb6a hb6r hs6a hg6 F6 F6a PG HB3 HF3 HB4 HF4
    go_wp2_with fail
    refine PS.out.mono ?_
    rintro e w7 ⟨rfl, hb7⟩
    have HBw7 := hide (fresh HB6.out hb7)
    clear x0 x1 x2 x3 x4 x5 x6 z0 z1 z2 z3 z4 z5 z6 y0 y1 y2 y3 y4 y5 y6 f0 f1 f2 f3 f4 f5 f6 hw6a hw6 hb7 HB6 HF6 PS
    have PG := hide (mget_any bA bn bc b w7 ((RD.below HRb.out HBw7.out).more HBw7.out.size) Hbn.out hbc (by omega))
    by_cases hcode : codeM b = 0
    · obtain ⟨X, hX⟩ := code_some hcode
      obtain ⟨g1, g2, g3, g4⟩ := got_put hX
      rw [hcode] at PG
      have HXX := hide (And.intro hX (And.intro g1 (And.intro g2 g3)))
      clear hcode hX g1 g2 g3 g4
      go_wp2_with fail
      refine PG.out.mono ?_
      rintro e w20 ⟨z, rfl, hz, hrz, hoz, hb20⟩
      rw [HXX.out.1] at hz
      have hz' : z.mp = X := hz
      simp only [MlL.val]
      obtain ⟨w21a, hw21a, F21a, hs21a, hb21a⟩ := mail_box w20 (.int .u8 0) (.int .u32 0) (.int .u8 0) (.int .i64 0) (.slice none 0 0) (.slice none 0 0) (.slice none 0 0)
      obtain ⟨f0, f1, f2, f3, f4, f5, f6, F21, hb21r⟩ := refill (.int .u8 z.k) (.int .u32 z.t) (.int .u8 z.r) (.int .i64 z.ix) (.slice z.iA z.i.length z.ic) (.slice z.oA z.o.length z.oc) (.slice z.sA z.s.length z.sc) F21a (Below.refl w20.heap.size w21a) (Nat.le_refl _)
      obtain ⟨y0, y1, y2, y3, y4, y5, y6⟩ := F21a.cells
      obtain ⟨w21, hw21⟩ : ∃ q, ((((((w21a.setCell ⟨w20.heap.size, 0, none⟩ (.int .u8 z.k)).setCell ⟨w20.heap.size, 1, none⟩ (.int .u32 z.t)).setCell ⟨w20.heap.size, 2, none⟩ (.int .u8 z.r)).setCell ⟨w20.heap.size, 3, none⟩ (.int .i64 z.ix)).setCell ⟨w20.heap.size, 4, none⟩ (.slice z.iA z.i.length z.ic)).setCell ⟨w20.heap.size, 5, none⟩ (.slice z.oA z.o.length z.oc)).setCell ⟨w20.heap.size, 6, none⟩ (.slice z.sA z.s.length z.sc) = q := ⟨_, rfl⟩
      rw [hw21] at F21 hb21r
      have hb21 : Below w20.heap.size w20 w21 := hb21a.trans hb21r
      have hg21 : w20.heap.size < w21.heap.size := F21.lt
      have HB21 := hide (fresh HBw7.out (fresh hb20 hb21))
      have HRz := hide ((hrz.below hb21).more hb21.size)
      have Hoz := hide hoz
      have Hz := hide hz'
      have HF21 := hide F21
      obtain ⟨x0, x1, x2, x3, x4, x5, x6⟩ := F21.cells
      have PP := hide (mput_any z w21 HRz.out hoz)
      rw [hz', HXX.out.2.1, HXX.out.2.2.1] at PP
      clear hz hz' hrz hoz hb20 hb21 hb21a hb21r hs21a hg21 F21 F21a PG
      go_wp2_with fail
      refine PP.out.mono ?_
      rintro e w22 ⟨A22, c22, q, rfl, hq, hoq, hb22⟩
      subst hq
      rw [Hbn.out]
      have HB22 := hide (fresh HB21.out hb22)
      have k1 := conv_bytes (P := Try.prog) (show RB w22 w22.heap.size A22 q from RD.of_own hoq) Try.underlying28 Try.underlying5 Try.underlying9 c22
      have k2 := conv_bytes (P := Try.prog) (show RB w22 w22.heap.size bA q from (RD.below HRb.out HB22.out).more HB22.out.size) Try.underlying28 Try.underlying5 Try.underlying9 bc
      rw [Hbn.out] at k1 k2
      have PC := hide (mcheck_any z w22 ((HRz.out.below hb22).more hb22.size) Hoz.out)
      rw [show chkM z.mp = 0 from if_pos (by rw [Hz.out]; exact HXX.out.2.2.2)] at PC
      clear x0 x1 x2 x3 x4 x5 x6 y0 y1 y2 y3 y4 y5 y6 f0 f1 f2 f3 f4 f5 f6 hw21a hw21
      obtain ⟨x0, x1, x2, x3, x4, x5, x6⟩ := (HF21.out.below hb22).cells
      clear hoq hb22 PP
      go_wp2_with fail
      refine PC.out.mono ?_
      rintro e w23 ⟨rfl, hb23⟩
      have hbz := fresh HB22.out hb23
      clear x0 x1 x2 x3 x4 x5 x6 k1 k2
      go_wp2_with fail
      go_ret
      exact ⟨rfl, hbz⟩
    · have hnone := code_none hcode
      obtain ⟨code, hcd⟩ : ∃ q, q = codeM b := ⟨_, rfl⟩
      rw [← hcd] at PG hcode
      rw [hnone] at PG
      have hcb : (code == 0) = false := beq_eq_false_iff_ne.2 hcode
      have hcn : (code != 0) = true := by simpa using hcode
      clear hnone hcd
      go_wp2_with fail
      refine PG.out.mono ?_
      rintro e w20 ⟨z, rfl, hz, hrz, hoz, hb20⟩
      have hz' : z.mp = mp0 := hz
      simp only [MlL.val]
      obtain ⟨w21a, hw21a, F21a, hs21a, hb21a⟩ := mail_box w20 (.int .u8 0) (.int .u32 0) (.int .u8 0) (.int .i64 0) (.slice none 0 0) (.slice none 0 0) (.slice none 0 0)
      obtain ⟨f0, f1, f2, f3, f4, f5, f6, F21, hb21r⟩ := refill (.int .u8 z.k) (.int .u32 z.t) (.int .u8 z.r) (.int .i64 z.ix) (.slice z.iA z.i.length z.ic) (.slice z.oA z.o.length z.oc) (.slice z.sA z.s.length z.sc) F21a (Below.refl w20.heap.size w21a) (Nat.le_refl _)
      obtain ⟨y0, y1, y2, y3, y4, y5, y6⟩ := F21a.cells
      obtain ⟨w21, hw21⟩ : ∃ q, ((((((w21a.setCell ⟨w20.heap.size, 0, none⟩ (.int .u8 z.k)).setCell ⟨w20.heap.size, 1, none⟩ (.int .u32 z.t)).setCell ⟨w20.heap.size, 2, none⟩ (.int .u8 z.r)).setCell ⟨w20.heap.size, 3, none⟩ (.int .i64 z.ix)).setCell ⟨w20.heap.size, 4, none⟩ (.slice z.iA z.i.length z.ic)).setCell ⟨w20.heap.size, 5, none⟩ (.slice z.oA z.o.length z.oc)).setCell ⟨w20.heap.size, 6, none⟩ (.slice z.sA z.s.length z.sc) = q := ⟨_, rfl⟩
      rw [hw21] at F21 hb21r
      have hb21 : Below w20.heap.size w20 w21 := hb21a.trans hb21r
      have hg21 : w20.heap.size < w21.heap.size := F21.lt
      have HB21 := hide (fresh HBw7.out (fresh hb20 hb21))
      obtain ⟨x0, x1, x2, x3, x4, x5, x6⟩ := F21.cells
      have PS := hide (mref_any z m0L w21 ((hrz.below hb21).more hb21.size) (m0_rm _ _) hoz m0_ok)
      rw [decide_eq_true (show z.mp = m0L.mp from hz')] at PS
      clear hz hz' hrz hoz hb20 hb21 hb21a hb21r hs21a hg21 F21 F21a PG
      go_wp2_with fail
      refine PS.out.mono ?_
      rintro e w22 ⟨rfl, hb22⟩
      have hbz := fresh HB21.out hb22
      clear x0 x1 x2 x3 x4 x5 x6 y0 y1 y2 y3 y4 y5 y6 f0 f1 f2 f3 f4 f5 f6 hw21a hw21
      go_wp2_with fail
      go_ret
      exact ⟨rfl, hbz⟩
  · obtain ⟨EE, hEE⟩ : ∃ q, q = putE x.mp := ⟨_, rfl⟩
    rw [← hEE] at PP hE
    have hEb : (EE == 0) = false := beq_eq_false_iff_ne.2 hE
    clear hEE
    go_wp2_with fail
    refine PP.out.mono ?_
    rintro e w4 ⟨A4, c4, q, rfl, -, -, hb4⟩
    have HBw4 := hide (fresh HB3.out hb4)
    obtain ⟨qn, hqn⟩ : ∃ z, z = q.length := ⟨_, rfl⟩
    rw [← hqn]
    clear hqn hb4 y0 y1 y2 y3 y4 y5 y6 PP HB3 HF3
    have PG := hide (mget_any bA bn bc b w4 ((RD.below HRb.out HBw4.out).more HBw4.out.size) Hbn.out hbc (by omega))
    by_cases hcode : codeM b = 0
    · obtain ⟨X, hX⟩ := code_some hcode
      obtain ⟨g1, g2, g3, g4⟩ := got_put hX
      rw [hcode] at PG
      have HXX := hide (And.intro hX (And.intro g1 (And.intro g2 g3)))
      clear hcode hX g1 g2 g3 g4
      go_wp2_with fail
      refine PG.out.mono ?_
      rintro e w20 ⟨z, rfl, hz, hrz, hoz, hb20⟩
      rw [HXX.out.1] at hz
      have hz' : z.mp = X := hz
      simp only [MlL.val]
      obtain ⟨w21a, hw21a, F21a, hs21a, hb21a⟩ := mail_box w20 (.int .u8 0) (.int .u32 0) (.int .u8 0) (.int .i64 0) (.slice none 0 0) (.slice none 0 0) (.slice none 0 0)
      obtain ⟨f0, f1, f2, f3, f4, f5, f6, F21, hb21r⟩ := refill (.int .u8 z.k) (.int .u32 z.t) (.int .u8 z.r) (.int .i64 z.ix) (.slice z.iA z.i.length z.ic) (.slice z.oA z.o.length z.oc) (.slice z.sA z.s.length z.sc) F21a (Below.refl w20.heap.size w21a) (Nat.le_refl _)
      obtain ⟨y0, y1, y2, y3, y4, y5, y6⟩ := F21a.cells
      obtain ⟨w21, hw21⟩ : ∃ q, ((((((w21a.setCell ⟨w20.heap.size, 0, none⟩ (.int .u8 z.k)).setCell ⟨w20.heap.size, 1, none⟩ (.int .u32 z.t)).setCell ⟨w20.heap.size, 2, none⟩ (.int .u8 z.r)).setCell ⟨w20.heap.size, 3, none⟩ (.int .i64 z.ix)).setCell ⟨w20.heap.size, 4, none⟩ (.slice z.iA z.i.length z.ic)).setCell ⟨w20.heap.size, 5, none⟩ (.slice z.oA z.o.length z.oc)).setCell ⟨w20.heap.size, 6, none⟩ (.slice z.sA z.s.length z.sc) = q := ⟨_, rfl⟩
      rw [hw21] at F21 hb21r
      have hb21 : Below w20.heap.size w20 w21 := hb21a.trans hb21r
      have hg21 : w20.heap.size < w21.heap.size := F21.lt
      have HB21 := hide (fresh HBw4.out (fresh hb20 hb21))
      have HRz := hide ((hrz.below hb21).more hb21.size)
      have Hoz := hide hoz
      have Hz := hide hz'
      have HF21 := hide F21
      obtain ⟨x0, x1, x2, x3, x4, x5, x6⟩ := F21.cells
      have PP := hide (mput_any z w21 HRz.out hoz)
      rw [hz', HXX.out.2.1, HXX.out.2.2.1] at PP
      clear hz hz' hrz hoz hb20 hb21 hb21a hb21r hs21a hg21 F21 F21a PG
      go_wp2_with fail
      refine PP.out.mono ?_
      rintro e w22 ⟨A22, c22, q, rfl, hq, hoq, hb22⟩
      subst hq
      rw [Hbn.out]
      have HB22 := hide (fresh HB21.out hb22)
      have k1 := conv_bytes (P := Try.prog) (show RB w22 w22.heap.size A22 q from RD.of_own hoq) Try.underlying28 Try.underlying5 Try.underlying9 c22
      have k2 := conv_bytes (P := Try.prog) (show RB w22 w22.heap.size bA q from (RD.below HRb.out HB22.out).more HB22.out.size) Try.underlying28 Try.underlying5 Try.underlying9 bc
      rw [Hbn.out] at k1 k2
      have PC := hide (mcheck_any z w22 ((HRz.out.below hb22).more hb22.size) Hoz.out)
      rw [show chkM z.mp = 0 from if_pos (by rw [Hz.out]; exact HXX.out.2.2.2)] at PC
      clear x0 x1 x2 x3 x4 x5 x6 y0 y1 y2 y3 y4 y5 y6 f0 f1 f2 f3 f4 f5 f6 hw21a hw21
      obtain ⟨x0, x1, x2, x3, x4, x5, x6⟩ := (HF21.out.below hb22).cells
      clear hoq hb22 PP
      go_wp2_with fail
      refine PC.out.mono ?_
      rintro e w23 ⟨rfl, hb23⟩
      have hbz := fresh HB22.out hb23
      clear x0 x1 x2 x3 x4 x5 x6 k1 k2
      go_wp2_with fail
      go_ret
      exact ⟨rfl, hbz⟩
    · have hnone := code_none hcode
      obtain ⟨code, hcd⟩ : ∃ q, q = codeM b := ⟨_, rfl⟩
      rw [← hcd] at PG hcode
      rw [hnone] at PG
      have hcb : (code == 0) = false := beq_eq_false_iff_ne.2 hcode
      have hcn : (code != 0) = true := by simpa using hcode
      clear hnone hcd
      go_wp2_with fail
      refine PG.out.mono ?_
      rintro e w20 ⟨z, rfl, hz, hrz, hoz, hb20⟩
      have hz' : z.mp = mp0 := hz
      simp only [MlL.val]
      obtain ⟨w21a, hw21a, F21a, hs21a, hb21a⟩ := mail_box w20 (.int .u8 0) (.int .u32 0) (.int .u8 0) (.int .i64 0) (.slice none 0 0) (.slice none 0 0) (.slice none 0 0)
      obtain ⟨f0, f1, f2, f3, f4, f5, f6, F21, hb21r⟩ := refill (.int .u8 z.k) (.int .u32 z.t) (.int .u8 z.r) (.int .i64 z.ix) (.slice z.iA z.i.length z.ic) (.slice z.oA z.o.length z.oc) (.slice z.sA z.s.length z.sc) F21a (Below.refl w20.heap.size w21a) (Nat.le_refl _)
      obtain ⟨y0, y1, y2, y3, y4, y5, y6⟩ := F21a.cells
      obtain ⟨w21, hw21⟩ : ∃ q, ((((((w21a.setCell ⟨w20.heap.size, 0, none⟩ (.int .u8 z.k)).setCell ⟨w20.heap.size, 1, none⟩ (.int .u32 z.t)).setCell ⟨w20.heap.size, 2, none⟩ (.int .u8 z.r)).setCell ⟨w20.heap.size, 3, none⟩ (.int .i64 z.ix)).setCell ⟨w20.heap.size, 4, none⟩ (.slice z.iA z.i.length z.ic)).setCell ⟨w20.heap.size, 5, none⟩ (.slice z.oA z.o.length z.oc)).setCell ⟨w20.heap.size, 6, none⟩ (.slice z.sA z.s.length z.sc) = q := ⟨_, rfl⟩
      rw [hw21] at F21 hb21r
      have hb21 : Below w20.heap.size w20 w21 := hb21a.trans hb21r
      have hg21 : w20.heap.size < w21.heap.size := F21.lt
      have HB21 := hide (fresh HBw4.out (fresh hb20 hb21))
      obtain ⟨x0, x1, x2, x3, x4, x5, x6⟩ := F21.cells
      have PS := hide (mref_any z m0L w21 ((hrz.below hb21).more hb21.size) (m0_rm _ _) hoz m0_ok)
      rw [decide_eq_true (show z.mp = m0L.mp from hz')] at PS
      clear hz hz' hrz hoz hb20 hb21 hb21a hb21r hs21a hg21 F21 F21a PG
      go_wp2_with fail
      refine PS.out.mono ?_
      rintro e w22 ⟨rfl, hb22⟩
      have hbz := fresh HB21.out hb22
      clear x0 x1 x2 x3 x4 x5 x6 y0 y1 y2 y3 y4 y5 y6 f0 f1 f2 f3 f4 f5 f6 hw21a hw21
      go_wp2_with fail
      go_ret
      exact ⟨rfl, hbz⟩
end Go.Proofs.Ytmkpfdcnikgokaa
