/-
  Texts of this claim, put together: RdWish, CodeRefMath. What each theorem asks stands in its statement.
-/
import Derived.Test.YtmkpfdcnikgokaaGreatLt8
import Derived.Test.YtmkpfdcnikgokaaGreatLt13
import Derived.Test.YtmkpfdcnikgokaaGreatLt34
set_option linter.unusedVariables false
set_option linter.unusedSimpArgs false
set_option maxRecDepth 100000
set_option maxHeartbeats 25600000
namespace Go.Proofs.YtmkpfdcnikgokaaGreat
open Go.RowKit
/-- The region's fixed values. -/
def wishRV (gx g:Nat) (x:Int) (V:Value):List (Option (Nat×Value)):=
 [some (31,.pointer (some ⟨gx,6,none⟩)),some (32,V),some (33,.pointer (some ⟨g,0,none⟩)),some (34,.int .i64 x),some (35,.bool (x == 1)),none,none,some (38,.pointer (some ⟨gx,6,none⟩)),none]
def wishRS:List (Option Nat):= [some 31,some 32,some 33,some 34,some 35,none,none,some 38,none]
theorem rdwish (g:Nat) (st:ES) (w:World) (h:RY w g st) (P:WP) (s9:ES) (hx:rdW st=(P,s9)):
 Calls Tryz.prog 140 #[.pointer (some ⟨g,0,none⟩)] w fun e w'=>∃ x:WsL,e= .returned x.val∧x.wp=P∧OW w' w.heap.size x∧okW x∧RY w' g s9∧OnlyAt g w w':=by
 obtain⟨i0,hi0,hz0,hz1,hz2⟩:=info_parts blinfo
 have hlt:=h.lt
 have Hlt:=hide hlt
 have Hle:=hide (Nat.le_of_lt hlt)
 obtain⟨t,r,sa,h1⟩:∃ t r s,rdS st=((t,r),s):=⟨_,_,_,rfl⟩
 obtain⟨n,sb,h2⟩:∃ x s,eyeN 2 sa=(x,s):=⟨_,_,rfl⟩
 obtain⟨HH,sc,h3⟩:∃ x s,rdC sb=(x,s):=⟨_,_,rfl⟩
 obtain⟨SS,sd,h4⟩:∃ x s,rdC sc=(x,s):=⟨_,_,rfl⟩
 obtain⟨k,se,h5⟩:∃ x s,eyeN 128 sd=(x,s):=⟨_,_,rfl⟩
 rw [rdW_step h1 h2 h3 h4 h5] at hx
 have HX:=hide hx
 have H1:=hide h1
 have H2:=hide h2
 have H3:=hide h3
 have H4:=hide h4
 have H5:=hide h5
 obtain⟨w1,hw1,F1,hs1,hb1⟩:=wish_box w (.int .u32 0) (.int .u8 0) (.bool false) (.slice none 0 0) (.bool false) (.slice none 0 0) (.slice none 0 0)
 have HE1:=hide (h.below hb1)
 have HO1:=hide (OnlyAt.below hb1 (Nat.le_of_lt hlt))
 obtain⟨gy,hgy⟩:∃ q,q=w.heap.size:=⟨_,rfl⟩
 have Hgy:=hide hgy
 have Hgg:=hide (show g < gy by omega)
 have Hneg:=hide (show gy≠g by omega)
 rw [←hgy] at F1
 have HY1:=hide F1
 have Hs1:=hide (show gy < w1.heap.size by rw [hgy];exact hs1)
 have Hw1:=hide hw1
 clear hx h1 h2 h3 h4 h5 F1 hw1 hs1 hb1 h hlt hgy
 go_enter Tryz.func140,Tryz.ntmps140
 go_wp2_with fail
 rw [Hw1.out,←Hgy.out]
 clear Hw1
 refine (rdstamp g st w1 HE1.out t r sa H1.out).mono ?_
 rintro e w2 ⟨rfl,hE2,ho2,t0,t1,r0,r1⟩
 have HE2:=hide hE2
 have HO2:=hide (HO1.out.trans ho2)
 have HY2:=hide (HY1.out.only ho2 Hneg.out)
 have Hs2:=hide (show gy < w2.heap.size from Nat.lt_of_lt_of_le Hs1.out ho2.1.size)
 clear hE2 ho2 HE1 HO1 HY1 Hs1
 obtain⟨w3,hw3,F3,hs3,hb3⟩:=wish_box w2 (.int .u32 t) (.int .u8 r) (.bool false) (.slice none 0 0) (.bool false) (.slice none 0 0) (.slice none 0 0)
 obtain⟨gx,hgx⟩:∃ q,q=w2.heap.size:=⟨_,rfl⟩
 have Hgx:=hide hgx
 have Hyx:=hide (show gy < gx by rw [hgx];exact Hs2.out)
 have Hg:=hide (show g < gx by have:=Hgg.out;have:=Hyx.out;omega)
 have Hne:=hide (show gx≠g by have:=Hg.out;omega)
 rw [←hgx] at F3
 have HF3:=hide F3
 have HE3:=hide (HE2.out.below hb3)
 have HO3:=hide (HO2.out.trans (OnlyAt.below hb3 (Nat.le_of_lt HE2.out.lt)))
 have HY3:=hide (HY2.out.below hb3)
 have Hwx:=hide (show w.heap.size≤gx by rw [hgx];exact HO2.out.1.size)
 have Hw3:=hide hw3
 clear F3 hw3 hs3 hb3 HE2 HO2 HY2 hgx Hs2
 go_wp2_with fail
 rw [Hw3.out,←Hgx.out]
 clear Hw3
 refine (rd_at g 2 sa w3 HE3.out n sb H2.out (by decide)).mono ?_
 rintro e w4 ⟨rfl,hE4,ho4,n0,n1⟩
 have HE4:=hide hE4
 have HO4:=hide (HO3.out.trans ho4)
 have HF4:=hide (HF3.out.only ho4 Hne.out)
 have HY4:=hide (HY3.out.only ho4 Hneg.out)
 clear hE4 ho4 HE3 HO3 HF3 HY3
 obtain⟨rd,hrd⟩:∃ q,(n == 1)=q:=⟨_,rfl⟩
 obtain⟨kn,hkn⟩:∃ q,(n == 2)=q:=⟨_,rfl⟩
 rw [hrd,hkn] at HX
 obtain⟨c0,c1,c2,c3,c4,c5,c6⟩:=HF4.out.cells
 have f2:=HF4.out.fr 2
 have f4:=(HF4.out.set2 (.bool rd)).fr 4
 go_wp2_with fail
 obtain⟨w5,hw5⟩:∃ q,(w4.setCell ⟨gx,2,none⟩ (.bool rd)).setCell ⟨gx,4,none⟩ (.bool kn)=q:=⟨_,rfl⟩
 have HF5:Hid (WB w5 gx (.int .u32 t) (.int .u8 r) (.bool rd) (.slice none 0 0) (.bool kn) (.slice none 0 0) (.slice none 0 0)):=hide (by rw [←hw5];exact (HF4.out.set2 _).set4 _)
 have HE5:Hid (RY w5 g sb):=hide (by rw [←hw5];exact (HE4.out.other Hg.out 2 _).other Hg.out 4 _)
 have HO5:Hid (OnlyAt g w w5):=hide (by rw [←hw5];exact (HO4.out.setNew Hwx.out Hle.out 2 _).setNew Hwx.out Hle.out 4 _)
 have HY5:Hid (WB w5 gy _ _ _ _ _ _ _):=hide (by rw [←hw5];exact (heap_setCell_other _ _ _ _ (show gy≠gx by have:=Hyx.out;omega)).trans ((heap_setCell_other _ _ _ _ (show gy≠gx by have:=Hyx.out;omega)).trans HY4.out))
 rw [hw5]
 clear hw5 c0 c1 c2 c3 c4 c5 c6 f2 f4 HE4 HO4 HF4 HY4 hrd hkn n0 n1
 refine (rdclock g sb w5 HE5.out HH sc H3.out).mono ?_
 rintro e w6 ⟨hA,hc,h,rfl,hh,hT6,hok6,hh8,hE6,ho6⟩
 have HE6:=hide hE6
 have HO6:=hide (HO5.out.trans ho6)
 have HF6:=hide (HF5.out.only ho6 Hne.out)
 have HY6:=hide (HY5.out.only ho6 Hneg.out)
 have HT6:=hide (hT6.less HO5.out.1.size)
 have Hh:=hide (And.intro hh (And.intro hok6 hh8))
 obtain⟨hn,ehn⟩:∃ q,q=List.length (α:=TmL) h:=⟨_,rfl⟩
 have Ehn:=hide ehn
 rw [←ehn]
 clear hE6 ho6 HE5 HO5 HF5 HY5 hh hT6 hok6 hh8 ehn
 obtain⟨c0,c1,c2,c3,c4,c5,c6⟩:=HF6.out.cells
 have f3:=HF6.out.fr 3
 go_wp2_with fail
 obtain⟨w7,hw7⟩:∃ q,w6.setCell ⟨gx,3,none⟩ (.slice hA hn hc)=q:=⟨_,rfl⟩
 have HF7:Hid (WB w7 gx (.int .u32 t) (.int .u8 r) (.bool rd) (.slice hA hn hc) (.bool kn) (.slice none 0 0) (.slice none 0 0)):=hide (by rw [←hw7];exact HF6.out.set3 _)
 have HE7:Hid (RY w7 g sc):=hide (by rw [←hw7];exact HE6.out.other Hg.out 3 _)
 have HO7:Hid (OnlyAt g w w7):=hide (by rw [←hw7];exact HO6.out.setNew Hwx.out Hle.out 3 _)
 have HY7:Hid (WB w7 gy _ _ _ _ _ _ _):=hide (by rw [←hw7];exact (heap_setCell_other _ _ _ _ (show gy≠gx by have:=Hyx.out;omega)).trans HY6.out)
 have HT7:Hid (OTm w7 w.heap.size hA hc h):=hide (by rw [←hw7];exact HT6.out.setO HF6.out (by decide) (by decide) 3 _)
 rw [hw7]
 clear hw7 c0 c1 c2 c3 c4 c5 c6 f3 HE6 HO6 HF6 HT6 HY6
 refine (rdclock g sc w7 HE7.out SS sd H4.out).mono ?_
 rintro e w8 ⟨sA,sC,s,rfl,hh,hT8,hok8,hh8,hE8,ho8⟩
 have HE8:=hide hE8
 have HO8:=hide (HO7.out.trans ho8)
 have HF8:=hide (HF7.out.only ho8 Hne.out)
 have HY8:=hide (HY7.out.only ho8 Hneg.out)
 have HT8:=hide (HT7.out.at Hlt.out ho8)
 have HS8:=hide (hT8.less HO7.out.1.size)
 have Hs:=hide (And.intro hh (And.intro hok8 hh8))
 obtain⟨sn,esn⟩:∃ q,q=List.length (α:=TmL) s:=⟨_,rfl⟩
 have Esn:=hide esn
 rw [←esn]
 clear hE8 ho8 HE7 HO7 HF7 HT7 HY7 hh hT8 hok8 hh8 esn
 obtain⟨c0,c1,c2,c3,c4,c5,c6⟩:=HF8.out.cells
 have f5:=HF8.out.fr 5
 go_wp2_with fail
 obtain⟨w9,hw9⟩:∃ q,w8.setCell ⟨gx,5,none⟩ (.slice sA sn sC)=q:=⟨_,rfl⟩
 have HF9:Hid (WB w9 gx (.int .u32 t) (.int .u8 r) (.bool rd) (.slice hA hn hc) (.bool kn) (.slice sA sn sC) (.slice none 0 0)):=hide (by rw [←hw9];exact HF8.out.set5 _)
 have HE9:Hid (RY w9 g sd):=hide (by rw [←hw9];exact HE8.out.other Hg.out 5 _)
 have HO9:Hid (OnlyAt g w w9):=hide (by rw [←hw9];exact HO8.out.setNew Hwx.out Hle.out 5 _)
 have HY9:Hid (WB w9 gy _ _ _ _ _ _ _):=hide (by rw [←hw9];exact (heap_setCell_other _ _ _ _ (show gy≠gx by have:=Hyx.out;omega)).trans HY8.out)
 have HT9:Hid (OTm w9 w.heap.size hA hc h):=hide (by rw [←hw9];exact HT8.out.setO HF8.out (by decide) (by decide) 5 _)
 have HS9:Hid (OTm w9 w.heap.size sA sC s):=hide (by rw [←hw9];exact HS8.out.setO HF8.out (by decide) (by decide) 5 _)
 rw [hw9]
 clear hw9 c0 c1 c2 c3 c4 c5 c6 f5 HE8 HO8 HF8 HT8 HS8 HY8
 refine (rd_at g 128 sd w9 HE9.out k se H5.out (by decide)).mono ?_
 rintro e w10 ⟨rfl,hE10,ho10,k0,k1⟩
 obtain⟨M,rfl⟩:∃ M:Nat,k=M:=⟨k.toNat,by omega⟩
 rw [Int.toNat_natCast] at HX
 have HE10:=hide hE10
 have HO10:=hide (HO9.out.trans ho10)
 have HF10:=hide (HF9.out.only ho10 Hne.out)
 have HY10:=hide (HY9.out.only ho10 Hneg.out)
 have HT10:=hide (HT9.out.at Hlt.out ho10)
 have HS10:=hide (HS9.out.at Hlt.out ho10)
 clear hE10 ho10 HE9 HO9 HF9 HT9 HS9 HY9
 go_wp2_with fail
 go_loopw [6] (fun i wr=>∃ (j:Nat) (gA:Option Addr) (gc:Nat) (l:List Bool) (sj:ES),j≤M∧i= .int .i64 (j:Int)∧Hid (l.length=j)∧Hid (eyeB l (M - j) sj=eyeB [] M se)∧Hid (WB wr gx (.int .u32 t) (.int .u8 r) (.bool rd) (.slice hA hn hc) (.bool kn) (.slice sA sn sC) (.slice gA j gc))∧Hid (wr.ownsRow w.heap.size 4 1 (.slice gA j gc) j (bls l))∧Hid (OTm wr w.heap.size hA hc h)∧Hid (OTm wr w.heap.size sA sC s)∧Hid (RY wr g sj)∧Hid (OnlyAt g w wr)∧Hid (WB wr gy (.int .u32 0) (.int .u8 0) (.bool false) (.slice none 0 0) (.bool false) (.slice none 0 0) (.slice none 0 0))) (fun i _=>M - (intOf i).toNat)
 case atStart=>exact⟨0,none,0, [],se,by omega,rfl,hide rfl,hide rfl,HF10,hide (World.ownsRow_nil _ _ _ _),HT10,HS10,HE10,HO10,HY10⟩
 case round=>
  obtain⟨j,gA,gc,l,sj,hj,rfl,Hl,HB,HF,HG,HT,HS,HEj,HOj,HY⟩:=hrel
  clear HE10 HO10 HF10 HT10 HS10 HY10
  by_cases hlt:j < M
  ·have z0:(j:Int) < M:=by omega
   have HB1:=HB
   obtain⟨x,s2,hx⟩:∃ x s,eyeN 1 sj=(x,s):=⟨_,_,rfl⟩
   rw [show M - j=(M - (j+1))+1 by omega,eyeB_step hx] at HB1
   have HB2:=hide HB1.out
   have Hx:=hide hx
   clear HB HB1 hx
   go_wp2_with fail
   refine wp_region_inv (fun done ρ W=>LI (wishRV gx g x (.slice gA j gc)) (fun _=>True) done ρ W∧AJ 1 4 3 5 6 8 34 36 37 (OnlyAt g w) (fun W=>RY W g sj) (fun W=>RY W g s2) (fun W=>W.ownsRow w.heap.size 4 1 (.slice gA j gc) j (bls l)∧OTm W w.heap.size hA hc h∧OTm W w.heap.size sA sC s∧WB W gy (.int .u32 0) (.int .u8 0) (.bool false) (.slice none 0 0) (.bool false) (.slice none 0 0) (.slice none 0 0))
    (fun W=>WB W gx (.int .u32 t) (.int .u8 r) (.bool rd) (.slice hA hn hc) (.bool kn) (.slice sA sn sC) (.slice gA j gc)) (fun _ _=>True) (fun _ q W=>W.heap[q]?=some (.cells #[.bool (x == 1)] 4 (0,0)))
    (fun v W=>∃ A2 c2,v= .slice A2 (j+1) c2∧W.ownsRow w.heap.size 4 1 (.slice A2 (j+1) c2) (j+1) (bls (l++ [x == 1]))∧OTm W w.heap.size hA hc h∧OTm W w.heap.size sA sC s∧WB W gy (.int .u32 0) (.int .u8 0) (.bool false) (.slice none 0 0) (.bool false) (.slice none 0 0) (.slice none 0 0))
    (fun v W=>WB W gx (.int .u32 t) (.int .u8 r) (.bool rd) (.slice hA hn hc) (.bool kn) (.slice sA sn sC) v) done ρ W) (by kernel_rfl) 40 (by rfl) (by kernel_rfl) ?_ ?_ ?_
   ·exact⟨LI.start _ trivial,AJ.start _ (HOj.out.trans (OnlyAt.below (Below.refl _ _).drew (Nat.le_of_lt HEj.out.lt))) (HEj.out.below (Below.refl _ _).drew) ⟨own_below HG.out (Below.refl _ _).drew (Nat.le_refl _),HT.out.below (Below.refl _ _).drew,HS.out.below (Below.refl _ _).drew,HY.out.below (Below.refl _ _).drew⟩ (WB.below HF.out (Below.refl _ _).drew)⟩
   ·refine⟨?_,?_,?_,?_,?_,?_,?_,?_,?_,trivial⟩
    ·
     intro done ρ W hn hf hd h
     have q2:ρ 3= .pointer (some ⟨gx,0,none⟩):=hf 3 (by kernel_rfl)
     clear hf
     refine .inl ⟨rfl,opOK_step fun R hR=>?_⟩
     unfold opOK
     go_simp
     exact hR _ _ ⟨h.1.put wishRS rfl (by decide) 0 31 _ rfl trivial,h.2.plain 0 31 _ (by decide) (by decide) (by decide) (by decide) (by decide) (by decide) (by decide) (fun e=>(by cases e))⟩
    ·
     intro done ρ W hn hf hd h
     have q31:=h.1.get 0 31 _ rfl (hd 0 (by kernel_rfl))
     have hb0:=h.2.b0 (by
      cases hx:done 8 with
      | false=>rfl
      | true=>rw [h.2.zl (h.2.zs hx)] at hn;cases hn)
     obtain⟨y0,y1,y2,y3,y4,y5,y6⟩:=WB.cells hb0
     clear hf
     refine .inl ⟨rfl,opOK_step fun R hR=>?_⟩
     unfold opOK
     go_simp
     exact hR _ _ ⟨h.1.put wishRS rfl (by decide) 1 32 _ rfl trivial,h.2.plain 1 32 _ (by decide) (by decide) (by decide) (by decide) (by decide) (by decide) (by decide) (fun e=>(by cases e))⟩
    ·
     intro done ρ W hn hf hd h
     have q0:ρ 0= .pointer (some ⟨g,0,none⟩):=hf 0 (by kernel_rfl)
     clear hf
     refine .inl ⟨rfl,opOK_step fun R hR=>?_⟩
     unfold opOK
     go_simp
     exact hR _ _ ⟨h.1.put wishRS rfl (by decide) 2 33 _ rfl trivial,h.2.plain 2 33 _ (by decide) (by decide) (by decide) (by decide) (by decide) (by decide) (by decide) (fun e=>(by cases e))⟩
    ·
     intro done ρ W hn hf hd h
     have q33:=h.1.get 2 33 _ rfl (hd 2 (by kernel_rfl))
     clear hf
     have h0:=h.2.o0 (h.2.noa (h.2.nor hn))
     have hb0:=h.2.b0 (h.2.nos (h.2.noa (h.2.nor hn)))
     refine .inl ⟨rfl,opOK_step fun R hR=>?_⟩
     unfold opOK
     go_simp
     exact (rd_at g 1 sj W (h.2.e0 hn) x s2 Hx.out (by decide)).mono fun e W' ⟨he,hE,ho,x0,x1⟩=>⟨_,he,hR _ _ ⟨h.1.put wishRS rfl (by decide) 3 34 _ rfl trivial,h.2.call hn (by decide) (h.2.t.trans ho) hE ⟨own_at h0.1 Hlt.out ho,h0.2.1.at Hlt.out ho,h0.2.2.1.at Hlt.out ho,WB.only h0.2.2.2 ho Hneg.out⟩ (WB.only hb0 ho Hne.out) trivial⟩⟩
    ·
     intro done ρ W hn hf hd h
     have q34:=h.1.get 3 34 _ rfl (hd 3 (by kernel_rfl))
     clear hf
     refine .inl ⟨rfl,opOK_step fun R hR=>?_⟩
     unfold opOK
     go_simp
     exact hR _ _ ⟨h.1.put wishRS rfl (by decide) 4 35 _ rfl trivial,h.2.plain 4 35 _ (by decide) (by decide) (by decide) (by decide) (by decide) (by decide) (by decide) (fun _=>hd 3 (by kernel_rfl))⟩
    ·
     intro done ρ W hn hf hd h
     have q35:=h.1.get 4 35 _ rfl (hd 4 (by kernel_rfl))
     clear hf
     have hc:=h.2.ze (hd 4 (by kernel_rfl))
     have na:=h.2.noa hn
     have h0:=h.2.o0 na
     have hb0:=h.2.b0 (h.2.nos na)
     refine .inl ⟨rfl,opOK_step fun R hR=>?_⟩
     unfold opOK
     go_simp
     have hb:=boxed W (.cells #[.bool (x == 1)] 4)
     exact hR _ _ ⟨h.1.skip wishRS rfl 5 36 _ rfl rfl trivial,h.2.row hn hc (by decide) (h.2.t.trans (OnlyAt.below hb (Nat.le_of_lt (h.2.e1 hc).lt))) ((h.2.e1 hc).below hb) ⟨own_below h0.1 hb (Nat.le_refl _),h0.2.1.below hb,h0.2.2.1.below hb,h0.2.2.2.below hb⟩ (WB.below hb0 hb) trivial (heap_alloc_new _ _)⟩
    ·
     intro done ρ W hn hf hd h
     have q32:=h.1.get 1 32 _ rfl (hd 1 (by kernel_rfl))
     clear hf
     have hr:=hd 5 (by kernel_rfl)
     have h0:=h.2.o0 hn
     have hb0:=h.2.b0 (h.2.nos hn)
     obtain⟨-,hrow⟩:=h.2.x1 (h.2.zr hr) hn
     obtain⟨q,k1,k2⟩:=hrow hr
     refine .inl ⟨rfl,opOK_step fun R hR=>?_⟩
     have hrd:RD W W.heap.size 1 (some ⟨q,0,none⟩) 1 [.bool (x == 1)]:=by
      refine⟨rfl,fun _=>⟨q,0,rfl,(Array.getElem?_eq_some_iff.1 k2).1,fun i u hu=>?_⟩⟩
      rw [Nat.zero_add,cell_of_row _ _ _ _ _ _ k2,←Array.getElem?_toList]
      exact hu
     obtain⟨v',w',hrun,hown,hb9,hk9⟩:=run_append_held (P:=Tryz.prog) W w.heap.size 77 77 4 i0 (.bool false) 1 1 Tryz.underlying77 hi0 hz0 hz1 hz2 rfl (by decide) _ j (bls l) h0.1 W.heap.size (some ⟨q,0,none⟩) 1 1 [.bool (x == 1)] hrd (bls_one [x == 1]) (by omega) (by decide) h.2.t.1.size
     obtain⟨A2,c2,rfl,-,-,-⟩:=own_slice hown
     rw [bls_snoc] at hown
     exact opOK_append (.tmp 32) (.tmp 36) 77 rfl _ _ q32 k1 _ w' hrun (hR _ _ ⟨h.1.skip wishRS rfl 6 37 _ rfl rfl trivial,h.2.app hn hr (hd 1 (by kernel_rfl)) (by decide) (h.2.t.more hb9 Hle.out) ((h.2.e1 (h.2.zr hr)).belowB hb9 Hlt.out) ⟨A2,c2,rfl,hown,h0.2.1.kept (by decide) (by decide) hk9,h0.2.2.1.kept (by decide) (by decide) hk9,hk9 gy _ h0.2.2.2 (fun cur e=>by simp at e)⟩ (hk9 gx _ hb0 (fun cur e=>by simp at e))⟩)
    ·
     intro done ρ W hn hf hd h
     have q2:ρ 3= .pointer (some ⟨gx,0,none⟩):=hf 3 (by kernel_rfl)
     clear hf
     refine .inl ⟨rfl,opOK_step fun R hR=>?_⟩
     unfold opOK
     go_simp
     exact hR _ _ ⟨h.1.put wishRS rfl (by decide) 7 38 _ rfl trivial,h.2.plain 7 38 _ (by decide) (by decide) (by decide) (by decide) (by decide) (by decide) (by decide) (fun e=>(by cases e))⟩
    ·
     intro done ρ W hn hf hd h
     have q38:=h.1.get 7 38 _ rfl (hd 7 (by kernel_rfl))
     clear hf
     have ha:=hd 6 (by kernel_rfl)
     have h1:=h.2.a1 ha
     obtain⟨A2,c2,k37,ho,hT1,hS1,hY1⟩:=h1
     have hb0:=h.2.b0 hn
     have hE:=h.2.e1 (h.2.zr (h.2.za ha))
     obtain⟨y0,y1,y2,y3,y4,y5,y6⟩:=WB.cells hb0
     have f6:=WB.fr hb0 6
     refine .inl ⟨rfl,opOK_step fun R hR=>?_⟩
     unfold opOK
     go_simp
     refine hR _ _ ⟨h.1.world 8 _ rfl trivial,h.2.store ha (by decide) (h.2.t.setNew Hwx.out Hle.out 6 _) (hE.other Hg.out 6 _) ⟨A2,c2,k37,own_setO ho hb0 (by decide) 6 _,hT1.setO hb0 (by decide) (by decide) 6 _,hS1.setO hb0 (by decide) (by decide) 6 _,(heap_setCell_other _ _ _ _ (show gy≠gx by have:=Hyx.out;omega)).trans hY1⟩ ?_⟩
     show WB _ gx _ _ _ _ _ _ (ρ 37)
     rw [k37]
     exact WB.set6 hb0 _
   ·intro a' w6 hdf hsz hf h
    obtain⟨A2,c2,k37,hG6,hT6,hS6,hY6⟩:=h.2.a1 (by kernel_rfl)
    have HY6:=hide hY6
    have hB6:=h.2.b1 (by kernel_rfl)
    rw [k37] at hB6
    have HE6:=hide (h.2.e1 (by kernel_rfl))
    have HO6:=hide h.2.t
    have HG6:=hide hG6
    have HT6:=hide hT6
    have HS6:=hide hS6
    have HB6:=hide hB6
    have h0:slotsOf a' 0= .pointer (some ⟨g,0,none⟩):=hf 0 (by kernel_rfl)
    have h1:slotsOf a' 1=undef:=hf 1 (by kernel_rfl)
    have h2:slotsOf a' 2= .pointer (some ⟨gy,0,none⟩):=hf 2 (by kernel_rfl)
    have h3:slotsOf a' 3= .pointer (some ⟨gx,0,none⟩):=hf 3 (by kernel_rfl)
    have h4:slotsOf a' 4= .int .i64 n:=hf 4 (by kernel_rfl)
    have h5:slotsOf a' 5= .int .i64 (M:Int):=hf 5 (by kernel_rfl)
    have h6:slotsOf a' 6= .int .i64 (j:Int):=hf 6 (by kernel_rfl)
    have h7:slotsOf a' 7= .pointer (some ⟨g,0,none⟩):=hf 7 (by kernel_rfl)
    have h8:slotsOf a' 8= .agg #[.int .u32 t,.int .u8 r]:=hf 8 (by kernel_rfl)
    have h9:slotsOf a' 9= .agg #[.int .u32 t,.int .u8 r,.bool false,.slice none 0 0,.bool false,.slice none 0 0,.slice none 0 0]:=hf 9 (by kernel_rfl)
    have h10:slotsOf a' 10= .pointer (some ⟨g,0,none⟩):=hf 10 (by kernel_rfl)
    have h11:slotsOf a' 11= .int .i64 n:=hf 11 (by kernel_rfl)
    have h12:slotsOf a' 12= .int .i64 n:=hf 12 (by kernel_rfl)
    have h13:slotsOf a' 13= .bool rd:=hf 13 (by kernel_rfl)
    have h14:slotsOf a' 14= .pointer (some ⟨gx,2,none⟩):=hf 14 (by kernel_rfl)
    have h15:slotsOf a' 15= .int .i64 n:=hf 15 (by kernel_rfl)
    have h16:slotsOf a' 16= .bool kn:=hf 16 (by kernel_rfl)
    have h17:slotsOf a' 17= .pointer (some ⟨gx,4,none⟩):=hf 17 (by kernel_rfl)
    have h18:slotsOf a' 18= .pointer (some ⟨g,0,none⟩):=hf 18 (by kernel_rfl)
    have h19:slotsOf a' 19= .slice hA hn hc:=hf 19 (by kernel_rfl)
    have h20:slotsOf a' 20= .pointer (some ⟨gx,3,none⟩):=hf 20 (by kernel_rfl)
    have h21:slotsOf a' 21= .pointer (some ⟨g,0,none⟩):=hf 21 (by kernel_rfl)
    have h22:slotsOf a' 22= .slice sA sn sC:=hf 22 (by kernel_rfl)
    have h23:slotsOf a' 23= .pointer (some ⟨gx,5,none⟩):=hf 23 (by kernel_rfl)
    have h24:slotsOf a' 24= .pointer (some ⟨g,0,none⟩):=hf 24 (by kernel_rfl)
    have h25:slotsOf a' 25= .int .i64 (M:Int):=hf 25 (by kernel_rfl)
    have h39:slotsOf a' 39=undef:=hf 39 (by kernel_rfl)
    clear hG6 hT6 hS6 hB6 HEj HOj HT HS HG HF HY k37
    obtain⟨T,D⟩:=a'
    have hD:D= []:=hdf
    subst hD
    obtain⟨f,hT,hff⟩:∃ f:Nat→Value,T=((List.range 40).map f).toArray∧slotsOf ⟨T, []⟩=f:=⟨_,arr_list T 40 hsz,rfl⟩
    rw [hff] at h0 h1 h2 h3 h4 h5 h6 h7 h8 h9 h10 h11 h12 h13 h14 h15 h16 h17 h18 h19 h20 h21 h22 h23 h24 h25 h39
    clear hff hsz hf h hdf
    simp only [List.range,List.range.loop,List.map] at hT
    subst hT
    rw [h0,h1,h2,h3,h4,h5,h6,h7,h8,h9,h10,h11,h12,h13,h14,h15,h16,h17,h18,h19,h20,h21,h22,h23,h24,h25,h39]
    clear h0 h1 h2 h3 h4 h5 h6 h7 h8 h9 h10 h11 h12 h13 h14 h15 h16 h17 h18 h19 h20 h21 h22 h23 h24 h25 h39
    go_wp2_with fail
    go_roundw
    case rel=>
     refine⟨j+1,A2,c2,l++ [x == 1],s2,by omega,by go_num,hide ?_,HB2,HB6,HG6,HT6,HS6,HE6,HO6,HY6⟩
     rw [List.length_append,Hl.out];rfl
    case measure=>simp [intOf];omega
  ·have z0:¬ (j:Int) < M:=by omega
   obtain rfl:j=M:=by omega
   have HQ:=hide (show (⟨t,r,rd,kn,HH,SS,l⟩:WP)=P∧sj=s9 by
    have hx:=HX.out
    rw [←HB.out,Nat.sub_self] at hx
    simp only [eyeB,Prod.mk.injEq] at hx
    exact hx)
   obtain⟨x0,x1,x2,x3,x4,x5,x6⟩:=HF.out.cells
   obtain⟨y0,y1,y2,y3,y4,y5,y6⟩:=HY.out.cells
   have F0:=HY.out
   have f0:=F0.fr 0
   have F1:=F0.set0 (.int .u32 t)
   have f1:=F1.fr 1
   have F2:=F1.set1 (.int .u8 r)
   have f2:=F2.fr 2
   have F3:=F2.set2 (.bool rd)
   have f3:=F3.fr 3
   have F4:=F3.set3 (.slice hA hn hc)
   have f4:=F4.fr 4
   have F5:=F4.set4 (.bool kn)
   have f5:=F5.fr 5
   have F6:=F5.set5 (.slice sA sn sC)
   have f6:=F6.fr 6
   have HF7:=hide (F6.set6 (.slice gA j gc))
   have HE7:=hide (((((((HEj.out.other Hgg.out 0 (.int .u32 t)).other Hgg.out 1 (.int .u8 r)).other Hgg.out 2 (.bool rd)).other Hgg.out 3 (.slice hA hn hc)).other Hgg.out 4 (.bool kn)).other Hgg.out 5 (.slice sA sn sC)).other Hgg.out 6 (.slice gA j gc))
   have hgx:=Nat.le_of_eq Hgy.out.symm
   have HO7:=hide (((((((HOj.out.setNew hgx Hle.out 0 (.int .u32 t)).setNew hgx Hle.out 1 (.int .u8 r)).setNew hgx Hle.out 2 (.bool rd)).setNew hgx Hle.out 3 (.slice hA hn hc)).setNew hgx Hle.out 4 (.bool kn)).setNew hgx Hle.out 5 (.slice sA sn sC)).setNew hgx Hle.out 6 (.slice gA j gc))
   have HT7:=hide (((((((HT.out.setO F0 (by decide) (by decide) 0 (.int .u32 t)).setO F1 (by decide) (by decide) 1 (.int .u8 r)).setO F2 (by decide) (by decide) 2 (.bool rd)).setO F3 (by decide) (by decide) 3 (.slice hA hn hc)).setO F4 (by decide) (by decide) 4 (.bool kn)).setO F5 (by decide) (by decide) 5 (.slice sA sn sC)).setO F6 (by decide) (by decide) 6 (.slice gA j gc))
   have HS7:=hide (((((((HS.out.setO F0 (by decide) (by decide) 0 (.int .u32 t)).setO F1 (by decide) (by decide) 1 (.int .u8 r)).setO F2 (by decide) (by decide) 2 (.bool rd)).setO F3 (by decide) (by decide) 3 (.slice hA hn hc)).setO F4 (by decide) (by decide) 4 (.bool kn)).setO F5 (by decide) (by decide) 5 (.slice sA sn sC)).setO F6 (by decide) (by decide) 6 (.slice gA j gc))
   have HG7:=hide (own_setO (own_setO (own_setO (own_setO (own_setO (own_setO (own_setO HG.out F0 (by decide) 0 (.int .u32 t)) F1 (by decide) 1 (.int .u8 r)) F2 (by decide) 2 (.bool rd)) F3 (by decide) 3 (.slice hA hn hc)) F4 (by decide) 4 (.bool kn)) F5 (by decide) 5 (.slice sA sn sC)) F6 (by decide) 6 (.slice gA j gc))
   clear HB HX HF HEj HOj HT HS HG F0 F1 F2 F3 F4 F5 F6 hgx HY
   go_wp2_with fail
   generalize hWW:((((((wr.setCell ⟨gy,0,none⟩ (.int .u32 t)).setCell ⟨gy,1,none⟩ (.int .u8 r)).setCell ⟨gy,2,none⟩ (.bool rd)).setCell ⟨gy,3,none⟩ (.slice hA hn hc)).setCell ⟨gy,4,none⟩ (.bool kn)).setCell ⟨gy,5,none⟩ (.slice sA sn sC)).setCell ⟨gy,6,none⟩ (.slice gA j gc)=WW at HF7 HE7 HO7 HT7 HS7 HG7 ⊢
   obtain⟨v0,v1,v2,v3,v4,v5,v6⟩:=HF7.out.cells
   refine bodyPost_ret (v:=wsv t r rd kn (.slice hA hn hc) (.slice sA sn sC) (.slice gA j gc)) (by simp [results,Tryz.results140,go_sem,v0,v1,v2,v3,v4,v5,v6]) rfl ?_
   refine⟨⟨t,r,rd,kn,hA,hc,h,sA,sC,s,gA,gc,l⟩,?_,?_,⟨HT7.out,HS7.out,by rw [Hl.out];exact HG7.out⟩,?_,by rw [←HQ.out.2];exact HE7.out,HO7.out⟩
   ·unfold WsL.val
    simp only
    rw [←Ehn.out,←Esn.out,Hl.out]
   ·rw [←HQ.out.1,←Hh.out.1,←Hs.out.1]
    rfl
   ·exact⟨t0,by show t < 4294967296;omega,r0,by show r≤255;omega,Hh.out.2.1,Hs.out.2.1,by have:=Hh.out.2.2;show h.length < _;omega,by have:=Hs.out.2.2;show s.length < _;omega,by have:=Hl.out;show l.length < _;omega⟩
end Go.Proofs.YtmkpfdcnikgokaaGreat
namespace Go.Proofs.YtmkpfdcnikgokaaGreat
/-- So many numbers that bytes have from a place on. -/
def rdN (b:List UInt8):Nat→Nat→Option (List Int×Nat)
 | 0,a=>some ([],a)
 | m+1,a=>(nxt b a 0 1073741824).bind fun x=>(rdN b m x.2).map fun q=>(x.1 :: q.1,q.2)
theorem rdN_inv {b:List UInt8}:∀ (m a:Nat) (L M:List Int) (a':Nat),a≤b.length→b.take a=nbs L→rdN b m a=some (M,a')→b.take a'=nbs (L++M)∧a≤a'∧a'≤b.length∧M.length=m∧∀ x∈M,0≤x∧x≤1073741824
 | 0,a,L,M,a',ha,hL,h=>by
   simp only [rdN,Option.some.injEq,Prod.mk.injEq] at h
   obtain⟨rfl,rfl⟩:=h
   exact⟨by simpa using hL,Nat.le_refl _,ha,rfl,fun x hx=>(by cases hx)⟩
 | m+1,a,L,M,a',ha,hL,h=>by
   simp only [rdN,Option.bind_eq_some_iff,Option.map_eq_some_iff] at h
   obtain⟨⟨x,a1⟩,hx,⟨q,a2⟩,hq,he⟩:=h
   simp only [Prod.mk.injEq] at hq he
   obtain⟨rfl,rfl⟩:=he
   obtain⟨h1,h2,-,-,h5,-,-⟩:=nxt_inv hx
   obtain⟨t1,l1⟩:=nxt_take hx ha hL
   obtain⟨g1,g2,g3,g4,g5⟩:=rdN_inv m a1 _ q a2 l1 t1 hq
   refine⟨by rw [g1];simp,by omega,g3,by simp [g4],fun y hy=>?_⟩
   rcases List.mem_cons.1 hy with rfl | hy
   ·exact⟨h1,h2⟩
   ·exact g5 y hy
theorem rdN_fwd {b rest:List UInt8}:∀ (M L M':List Int),(∀ x∈M,0≤x∧x≤1073741824)→b=nbs (L++(M++M'))++rest→rdN b M.length (nbs L).length=some (M,(nbs (L++M)).length)
 | [],L,M',_,_=>by simp [rdN]
 | x :: M,L,M',h,hb=>by
   have hx:=h x List.mem_cons_self
   have e1:=nxt_fwd (L:=L) (n:=x) (M:=M++M') (lo:=0) (hi:=1073741824) (rest:=rest) (b:=b) (by rw [hb];simp) hx.1 hx.1 hx.2 (by omega)
   have e2:=rdN_fwd (b:=b) (rest:=rest) M (L++ [x]) M' (fun y hy=>h y (List.mem_cons_of_mem _ hy)) (by rw [hb];simp)
   simp only [List.length_cons,rdN,e1,Option.bind_some,e2,Option.map_some]
   simp
theorem nums_len':∀ (p:List Rn) (was:Int),(runNums was p).length=3 * p.length
 | [],_=>rfl
 | x :: p,was=>by simp [runNums,nums_len' p];omega
/-- Runs of numbers, behind a time. -/
def toRuns:Int→List Int→List Rn
 | was,d :: r :: m :: L=>(was+d,r,m) :: toRuns (was+d+m - 1) L
 | _,_=> []
/-- Do they fit? -/
def fitsR:Int→List Int→Prop
 | was,d :: r :: m :: L=>1≤d∧1≤m∧m≤4096∧r≤255∧was+d+m - 1≤1073741824∧fitsR (was+d+m - 1) L
 | _,_=>True
instance decFits:∀ (was:Int) (L:List Int),Decidable (fitsR was L)
 | was,d :: r :: m :: L=>by
   have:=decFits (was+d+m - 1) L
   unfold fitsR
   infer_instance
 | _, []=> .isTrue trivial
 | _, [_]=> .isTrue trivial
 | _, [_,_]=> .isTrue trivial
/-- How many numbers stand behind. -/
def behindN (k:Int):Nat:=if k=1 then 1 else if k=2 then 0 else 2
/-- The operation of numbers. -/
def wholeO (k:Int) (L X:List Int):Int×Int×Int×List Rn×Int:=
 (k,(if 3≤k then wasR 0 (toRuns 0 L)+X.getD 0 0 else wasR 0 (toRuns 0 L)),(if 3≤k then X.getD 1 0 % 256 else ((toRuns 0 L).getLastD (0,0,0)).2.1),toRuns 0 L,(if k=1 then X.getD 0 0 else 0))
/-- The document's operation of bytes. -/
def getQ (b:List UInt8):Option Rd:=
 (rdN b 2 0).bind fun h=>if h.1.getD 0 0 < 1∨4 < h.1.getD 0 0∨h.1.getD 1 0 < 1∨64 < h.1.getD 1 0 then none else
   (rdN (b.drop h.2) (3 * h.1.getD 1 0).toNat 0).bind fun l=>(rdN (b.drop (h.2+l.2)) (behindN (h.1.getD 0 0)) 0).bind fun x=>
     if fitsR 0 l.1 then
      (let o:=wholeO (h.1.getD 0 0) l.1 x.1
       if mayO o.1 o.2.1 o.2.2.1 o.2.2.2.1 o.2.2.2.2∧opB o.1 o.2.1 o.2.2.1 o.2.2.2.1 o.2.2.2.2=b.take (h.2+l.2+x.2) then some (o.1,o.2.1,o.2.2.1,o.2.2.2.1,o.2.2.2.2,h.2+l.2+x.2) else none)
     else none
theorem toRuns_nums:∀ (p:List Rn) (was:Int),toRuns was (runNums was p)=p
 | [],_=>rfl
 | x :: p,was=>by
   simp only [runNums,toRuns]
   rw [show was+(x.1 - was)=x.1 by omega,toRuns_nums p]
theorem fits_good:∀ (p:List Rn) (was:Int),goodR was p→fitsR was (runNums was p)
 | [],_,_=>trivial
 | x :: p,was,h=>by
   obtain⟨h1,h2,h3,h4,h5,h6,h7,h8⟩:=h
   simp only [runNums,fitsR]
   rw [show was+(x.1 - was)=x.1 by omega]
   exact⟨h1,h5,h6,by omega,h7,fits_good p _ h8⟩
theorem fits_ok:∀ (L:List Int) (was:Int),0≤was→(∀ x∈L,0≤x)→fitsR was L→∀ x∈toRuns was L,okR x
 | was,w,h0,hL,hf=>by
   match was,hL,hf with
   | d :: r :: m :: L,hL,hf=>
     obtain⟨h1,h2,h3,h4,h5,h6⟩:=hf
     have hr:=hL r (by simp)
     intro x hx
     simp only [toRuns,List.mem_cons] at hx
     rcases hx with rfl | hx
     ·exact⟨by simp only;omega,by simp only;omega,by simp only;omega,by simp only;omega,by simp only;omega,by simp only;omega⟩
     ·exact fits_ok L (w+d+m - 1) (by omega) (fun y hy=>hL y (by simp [hy])) h6 x hx
   | [],_,_=>intro x hx;simp [toRuns] at hx
   | [_],_,_=>intro x hx;simp [toRuns] at hx
   | [_,_],_,_=>intro x hx;simp [toRuns] at hx
theorem last_pair {p:List Rn} (hp:mayR p):lastR p=(wasR 0 p,(p.getLastD (0,0,0)).2.1):=by
 have hne:p≠ []:=fun e=>by rw [e] at hp;have:=hp.1;simp at this
 obtain⟨q,x,rfl⟩:∃ q x,p=q++ [x]:=⟨p.dropLast,p.getLast hne,(List.dropLast_concat_getLast hne).symm⟩
 rw [lastR_snoc q x hp,wasR_append]
 simp [wasR,rend]
theorem getQ_of {b:List UInt8} {k t r:Int} {p:List Rn} {z:Int} (rest:List UInt8) (hb:b=opB k t r p z++rest) (h:mayO k t r p z) (ho:∀ x∈p,okR x) (hr0:0≤r):getQ b=some (k,t,r,p,z,(opB k t r p z).length):=by
 have hp:=h.2.1
 have hg:=may_good hp ho
 have hl:=last_pair hp
 have h1:=hp.1
 have h2:=hp.2.1
 obtain⟨hi1,hi2,hi3⟩:=h.1
 have hw:=lastR_was hp 0
 have hpos:=mayR_last_pos hp
 have hk:1≤k∧k≤4:=by
  have:=h.2.2
  unfold rightO at this
  omega
 have hop:opB k t r p z=nbs [k,(p.length:Int)]++(nbs (runNums 0 p)++nbs (tailNums k t r (wasR 0 p) z)):=by
  rw [←nbs_append,←nbs_append]
  rfl
 have htail:∀ x∈tailNums k t r (wasR 0 p) z,0≤x∧x≤1073741824:=by
  intro a ha
  unfold tailNums at ha
  rcases h.2.2 with⟨g1,-,g3⟩ | ⟨g1,-,-⟩ | ⟨g1,-,g3⟩
  ·rw [if_pos g1] at ha
   simp only [List.mem_singleton] at ha
   subst ha
   have:=g3.1
   have:=g3.2.1
   omega
  ·rw [if_neg (by omega),if_pos g1] at ha
   cases ha
  ·rw [if_neg (by omega),if_neg (by omega)] at ha
   simp only [List.mem_cons,List.not_mem_nil,or_false] at ha
   omega
 have e1:=rdN_fwd (b:=b) (rest:=rest) [k,(p.length:Int)] [] (runNums 0 p++tailNums k t r (wasR 0 p) z) (by intro x hx;simp only [List.mem_cons,List.not_mem_nil,or_false] at hx;omega) (by rw [hb];rfl)
 have e1':rdN b 2 0=some ([k,(p.length:Int)],(nbs [k,(p.length:Int)]).length):=e1
 have d1:b.drop (nbs [k,(p.length:Int)]).length=nbs ([]++(runNums 0 p++tailNums k t r (wasR 0 p) z))++rest:=by
  rw [hb,hop,List.append_assoc,List.drop_left,List.nil_append,nbs_append]
 have e2:=rdN_fwd (rest:=rest) (runNums 0 p) [] (tailNums k t r (wasR 0 p) z) (good_nums p 0 hg) d1
 have hlen:(runNums 0 p).length=(3 * (p.length:Int)).toNat:=by rw [nums_len'];omega
 rw [hlen] at e2
 have e2':rdN (b.drop (nbs [k,(p.length:Int)]).length) (3 * (p.length:Int)).toNat 0=some (runNums 0 p,(nbs (runNums 0 p)).length):=e2
 have d2:b.drop ((nbs [k,(p.length:Int)]).length+(nbs (runNums 0 p)).length)=nbs ([]++(tailNums k t r (wasR 0 p) z++ []))++rest:=by
  rw [←List.drop_drop,d1,List.nil_append,nbs_append,List.append_assoc,List.drop_left]
  simp
 have e3:=rdN_fwd (rest:=rest) (tailNums k t r (wasR 0 p) z) [] [] htail d2
 have hbl:(tailNums k t r (wasR 0 p) z).length=behindN k:=by
  unfold tailNums behindN
  split
  ·rfl
  ·split <;> rfl
 rw [hbl] at e3
 have e3':rdN (b.drop ((nbs [k,(p.length:Int)]).length+(nbs (runNums 0 p)).length)) (behindN k) 0=some (tailNums k t r (wasR 0 p) z,(nbs (tailNums k t r (wasR 0 p) z)).length):=e3
 have hn:(nbs [k,(p.length:Int)]).length+(nbs (runNums 0 p)).length+(nbs (tailNums k t r (wasR 0 p) z)).length=(opB k t r p z).length:=by
  rw [hop,List.length_append,List.length_append]
  omega
 have hwh:wholeO k (runNums 0 p) (tailNums k t r (wasR 0 p) z)=(k,t,r,p,z):=by
  unfold wholeO
  rw [toRuns_nums]
  rcases h.2.2 with⟨rfl,g2,g3⟩ | ⟨rfl,g2,rfl⟩ | ⟨g1,rfl,g3⟩
  ·rw [hl] at g2
   simp only [Prod.mk.injEq] at g2
   have q2:=g2.2
   rw [List.getLastD_eq_getLast?] at q2
   simp [tailNums,g2.1,q2]
  ·rw [hl] at g2
   simp only [Prod.mk.injEq] at g2
   have q2:=g2.2
   rw [List.getLastD_eq_getLast?] at q2
   simp [g2.1,q2]
  ·have hk3:3≤k:=by omega
   have htn:tailNums k t r (wasR 0 p) 0= [t - wasR 0 p,r]:=by unfold tailNums;rw [if_neg (by omega),if_neg (by omega)]
   rw [htn,if_pos hk3,if_pos hk3,if_neg (by omega)]
   simp only [List.getD_cons_zero,List.getD_cons_succ,Prod.mk.injEq,true_and,and_true]
   omega
 have hf:=fits_good p 0 hg
 unfold getQ
 rw [e1']
 simp only [Option.bind_some,List.getD_cons_zero,List.getD_cons_succ]
 rw [if_neg (by omega),e2']
 simp only [Option.bind_some]
 rw [e3']
 simp only [Option.bind_some]
 rw [if_pos hf,hwh]
 simp only
 rw [hn,if_pos ⟨h,by rw [hb,List.take_left]⟩]
theorem getQ_eq (b:List UInt8) (hpos:∀ k t r p z n,getP b=some (k,t,r,p,z,n)→0≤r):getQ b=getP b:=by
 cases hg:getP b with
 | some o=>
   obtain⟨k,t,r,p,z,n⟩:=o
   obtain⟨h1,h2,h3,h4,-,-⟩:=getP_inv hg
   have hn:(opB k t r p z).length=n:=by rw [←h2,List.length_take];omega
   have:=getQ_of (b:=b) (b.drop n) (by rw [←h2,List.take_append_drop]) h1 h4 (hpos k t r p z n hg)
   rw [this,hn]
 | none=>
   cases hq:getQ b with
   | none=>rfl
   | some o=>
     exfalso
     simp only [getQ,Option.bind_eq_some_iff] at hq
     obtain⟨⟨H,a1⟩,hH,hq⟩:=hq
     simp only at hq
     split at hq
     ·cases hq
     rename_i hc
     simp only [Option.bind_eq_some_iff] at hq
     obtain⟨⟨L,a2⟩,hL,⟨X,a3⟩,hX,hq⟩:=hq
     simp only at hL hX hq
     split at hq
     ·rename_i hf
      split at hq
      ·rename_i hm
       obtain⟨hm,hob⟩:=hm
       obtain⟨i1,i2,i3,-,-⟩:=rdN_inv 2 0 [] H a1 (Nat.zero_le _) (by simp [nbs]) hH
       obtain⟨j1,j2,j3,j4,j5⟩:=rdN_inv _ 0 [] L a2 (Nat.zero_le _) (by simp [nbs]) hL
       obtain⟨l1,l2,l3,l4,l5⟩:=rdN_inv _ 0 [] X a3 (Nat.zero_le _) (by simp [nbs]) hX
       rw [List.length_drop] at j3 l3
       have hok:=fits_ok L 0 (Int.le_refl _) (fun x hx=>(j5 x hx).1) hf
       have hr0:0≤(wholeO (H.getD 0 0) L X).2.2.1:=by
        unfold wholeO
        simp only
        split
        ·omega
        ·have hne:toRuns 0 L≠ []:=fun e=>by have:=hm.2.1.1;simp [wholeO,e] at this
         have hmem:(toRuns 0 L).getLastD (0,0,0)∈toRuns 0 L:=by
          rw [List.getLastD_eq_getLast?,List.getLast?_eq_some_getLast hne]
          exact List.getLast_mem hne
         have:=hok _ hmem
         unfold okR at this
         omega
       have e:=getP_fwd (b.drop (a1+a2+a3)) hm hok hr0
       rw [hob,List.take_append_drop,hg] at e
       cases e
      ·cases hq
     ·cases hq
end Go.Proofs.YtmkpfdcnikgokaaGreat
