/-
  Texts of this claim, put together: RdWish, CodeRefMath. What each theorem asks stands in its statement.
-/
import Derived.Test.YtmkpfdcnikgokaaGreatMd4
import Derived.Test.YtmkpfdcnikgokaaGreatMd11
import Derived.Test.YtmkpfdcnikgokaaGreatMd35
set_option linter.unusedVariables false
set_option linter.unusedSimpArgs false
set_option maxRecDepth 100000
set_option maxHeartbeats 25600000
namespace Go.Proofs.YtmkpfdcnikgokaaGreat
open Go.RowKit
def Aea (gx g:Nat) (x:Int) (V:Value):List (Option (Nat×Value)):=
 [some (31,.pointer (some ⟨gx,6,none⟩)),some (32,V),some (33,.pointer (some ⟨g,0,none⟩)),some (34,.int .i64 x),some (35,.bool (x == 1)),none,none,some (38,.pointer (some ⟨gx,6,none⟩)),none]
def J9:List (Option Nat):= [some 31,some 32,some 33,some 34,some 35,none,none,some 38,none]
theorem Aem (g:Nat) (st:ES) (w:World) (h:RY w g st) (P:WP) (s9:ES) (hx:rdW st=(P,s9)):
 Calls Tryz.prog 140 #[.pointer (some ⟨g,0,none⟩)] w fun e w'=>∃ x:Ay,e= .returned x.val/\x.wp=P/\OW w' w.heap.size x/\N5 x/\RY w' g s9/\Ah g w w':=by
 obtain⟨i0,cr,cb,cu,cq⟩:=info_parts Sc;have ai:=h.lt;have kj:=Aa ai;have fs:=Aa (Nat.le_of_lt ai);obtain⟨t,r,sa,h1⟩:∃ t r s,Rv st=((t,r),s):=⟨_,_,_,rfl⟩;obtain⟨n,sb,h2⟩:∃ x s,An 2 sa=(x,s):=⟨_,_,rfl⟩;obtain⟨HH,sc,h3⟩:∃ x s,On sb=(x,s):=⟨_,_,rfl⟩;obtain⟨SS,sd,h4⟩:∃ x s,On sc=(x,s):=⟨_,_,rfl⟩;obtain⟨k,se,h5⟩:∃ x s,An 128 sd=(x,s):=⟨_,_,rfl⟩;rw [Tw h1 h2 h3 h4 h5] at hx;have HX:=Aa hx;have H1:=Aa h1;have H2:=Aa h2;have H3:=Aa h3;have H4:=Aa h4;have H5:=Aa h5;obtain⟨w1,au,F1,af,ac⟩:=Ct w (.int .u32 0) (.int .u8 0) (.bool false) (.slice none 0 0) (.bool false) (.slice none 0 0) (.slice none 0 0);have qd:=Aa (h.below ac);have p9:=Aa (Ah.below ac (Nat.le_of_lt ai));obtain⟨gy,fe⟩:∃ q,q=w.heap.size:=⟨_,rfl⟩;have km:=Aa fe;have ct:=Aa (show g < gy by omega);have fl:=Aa (show gy≠g by omega);rw [<-fe] at F1;have ut:=Aa F1;have rn:=Aa (show gy < w1.heap.size by rw [fe];exact af);have dn:=Aa au;clear hx h1 h2 h3 h4 h5 F1 au af ac h ai fe;go_enter Tryz.func140,Tryz.ntmps140;go_wp2_with fail;rw [dn.out,<-km.out];clear dn;refine (Se g st w1 qd.out t r sa H1.out).mono ?_;rintro e w2 ⟨rfl,j9,dy,t0,t1,r0,r1⟩;have m7:=Aa j9;have td:=Aa (p9.out.trans dy);have QU:=Aa (ut.out.only dy fl.out);have UX:=Aa (show gy < w2.heap.size from Nat.lt_of_lt_of_le rn.out dy.1.size);clear j9 dy qd p9 ut rn;obtain⟨w3,b8,F3,fo,ag⟩:=Ct w2 (.int .u32 t) (.int .u8 r) (.bool false) (.slice none 0 0) (.bool false) (.slice none 0 0) (.slice none 0 0);obtain⟨gx,an⟩:∃ q,q=w2.heap.size:=⟨_,rfl⟩;have av:=Aa an;have n8:=Aa (show gy < gx by rw [an];exact UX.out);have Hg:=Aa (show g < gx by have:=ct.out;have:=n8.out;omega);have dh:=Aa (show gx≠g by have:=Hg.out;omega);rw [<-an] at F3;have bz:=Aa F3;have gd:=Aa (m7.out.below ag);have im:=Aa (td.out.trans (Ah.below ag (Nat.le_of_lt m7.out.lt)));have p7:=Aa (QU.out.below ag);have me:=Aa (show w.heap.size<=gx by rw [an];exact td.out.1.size);have zo:=Aa b8;clear F3 b8 fo ag m7 td QU an UX;go_wp2_with fail;rw [zo.out,<-av.out];clear zo;refine (Fd g 2 sa w3 gd.out n sb H2.out (by decide)).mono ?_;rintro e w4 ⟨rfl,sx,kq,n0,n1⟩;have mf:=Aa sx;have wk:=Aa (im.out.trans kq);have ca:=Aa (bz.out.only kq dh.out);have NP:=Aa (p7.out.only kq fl.out);clear sx kq gd im bz p7;obtain⟨rd,FO⟩:∃ q,(n == 1)=q:=⟨_,rfl⟩;obtain⟨kn,NY⟩:∃ q,(n == 2)=q:=⟨_,rfl⟩;rw [FO,NY] at HX;obtain⟨c0,c1,c2,c3,c4,c5,c6⟩:=ca.out.cells;have f2:=ca.out.fr 2;have f4:=(ca.out.set2 (.bool rd)).fr 4;go_wp2_with fail;obtain⟨w5,b9⟩:∃ q,(w4.setCell ⟨gx,2,none⟩ (.bool rd)).setCell ⟨gx,4,none⟩ (.bool kn)=q:=⟨_,rfl⟩;have cl:Hid (WB w5 gx (.int .u32 t) (.int .u8 r) (.bool rd) (.slice none 0 0) (.bool kn) (.slice none 0 0) (.slice none 0 0)):=Aa (by rw [<-b9];exact (ca.out.set2 _).set4 _);have jt:Hid (RY w5 g sb):=Aa (by rw [<-b9];exact (mf.out.other Hg.out 2 _).other Hg.out 4 _);have jm:Hid (Ah g w w5):=Aa (by rw [<-b9];exact (wk.out.setNew me.out fs.out 2 _).setNew me.out fs.out 4 _);have rp:Hid (WB w5 gy _ _ _ _ _ _ _):=Aa (by rw [<-b9];exact (heap_setCell_other _ _ _ _ (show gy≠gx by have:=n8.out;omega)).trans ((heap_setCell_other _ _ _ _ (show gy≠gx by have:=n8.out;omega)).trans NP.out));rw [b9];clear b9 c0 c1 c2 c3 c4 c5 c6 f2 f4 mf wk ca NP FO NY n0 n1;refine (Mi g sb w5 jt.out HH sc H3.out).mono ?_;rintro e w6 ⟨hA,hc,h,rfl,hh,AI,KT,IU,EQ,uh⟩;have iz:=Aa EQ;have fa:=Aa (jm.out.trans uh);have bj:=Aa (cl.out.only uh dh.out);have pz:=Aa (rp.out.only uh fl.out);have GC:=Aa (AI.less jm.out.1.size);have Hh:=Aa (And.intro hh (And.intro KT IU));obtain⟨hn,UR⟩:∃ q,q=List.length (α:=Aq) h:=⟨_,rfl⟩;have Ehn:=Aa UR;rw [<-UR];clear EQ uh jt jm cl rp hh AI KT IU UR;obtain⟨c0,c1,c2,c3,c4,c5,c6⟩:=bj.out.cells;have f3:=bj.out.fr 3;go_wp2_with fail;obtain⟨w7,cc⟩:∃ q,w6.setCell ⟨gx,3,none⟩ (.slice hA hn hc)=q:=⟨_,rfl⟩;have dg:Hid (WB w7 gx (.int .u32 t) (.int .u8 r) (.bool rd) (.slice hA hn hc) (.bool kn) (.slice none 0 0) (.slice none 0 0)):=Aa (by rw [<-cc];exact bj.out.set3 _);have kz:Hid (RY w7 g sc):=Aa (by rw [<-cc];exact iz.out.other Hg.out 3 _);have kp:Hid (Ah g w w7):=Aa (by rw [<-cc];exact fa.out.setNew me.out fs.out 3 _);have BW:Hid (WB w7 gy _ _ _ _ _ _ _):=Aa (by rw [<-cc];exact (heap_setCell_other _ _ _ _ (show gy≠gx by have:=n8.out;omega)).trans pz.out);have KC:Hid (Da w7 w.heap.size hA hc h):=Aa (by rw [<-cc];exact GC.out.setO bj.out (by decide) (by decide) 3 _);rw [cc];clear cc c0 c1 c2 c3 c4 c5 c6 f3 iz fa bj GC pz;refine (Mi g sc w7 kz.out SS sd H4.out).mono ?_;rintro e w8 ⟨sA,sC,s,rfl,hh,hT8,KS,IU,hE8,gh⟩;have qy:=Aa hE8;have jj:=Aa (kp.out.trans gh);have dp:=Aa (dg.out.only gh dh.out);have KA:=Aa (BW.out.only gh fl.out);have HT8:=Aa (KC.out.at kj.out gh);have FC:=Aa (hT8.less kp.out.1.size);have Hs:=Aa (And.intro hh (And.intro KS IU));obtain⟨sn,UQ⟩:∃ q,q=List.length (α:=Aq) s:=⟨_,rfl⟩;have Esn:=Aa UQ;rw [<-UQ];clear hE8 gh kz kp dg KC BW hh hT8 KS IU UQ;obtain⟨c0,c1,c2,c3,c4,c5,c6⟩:=dp.out.cells;have f5:=dp.out.fr 5;go_wp2_with fail;obtain⟨w9,dq⟩:∃ q,w8.setCell ⟨gx,5,none⟩ (.slice sA sn sC)=q:=⟨_,rfl⟩;have eg:Hid (WB w9 gx (.int .u32 t) (.int .u8 r) (.bool rd) (.slice hA hn hc) (.bool kn) (.slice sA sn sC) (.slice none 0 0)):=Aa (by rw [<-dq];exact dp.out.set5 _);have ud:Hid (RY w9 g sd):=Aa (by rw [<-dq];exact qy.out.other Hg.out 5 _);have n9:Hid (Ah g w w9):=Aa (by rw [<-dq];exact jj.out.setNew me.out fs.out 5 _);have tn:Hid (WB w9 gy _ _ _ _ _ _ _):=Aa (by rw [<-dq];exact (heap_setCell_other _ _ _ _ (show gy≠gx by have:=n8.out;omega)).trans KA.out);have HT9:Hid (Da w9 w.heap.size hA hc h):=Aa (by rw [<-dq];exact HT8.out.setO dp.out (by decide) (by decide) 5 _);have OE:Hid (Da w9 w.heap.size sA sC s):=Aa (by rw [<-dq];exact FC.out.setO dp.out (by decide) (by decide) 5 _);rw [dq];clear dq c0 c1 c2 c3 c4 c5 c6 f5 qy jj dp HT8 FC KA;refine (Fd g 128 sd w9 ud.out k se H5.out (by decide)).mono ?_;rintro e lk ⟨rfl,LJ,dt,k0,k1⟩;obtain⟨M,rfl⟩:∃ M:Nat,k=M:=⟨k.toNat,by omega⟩;rw [Int.toNat_natCast] at HX;have AZ:=Aa LJ;have om:=Aa (n9.out.trans dt);have kg:=Aa (eg.out.only dt dh.out);have HY10:=Aa (tn.out.only dt fl.out);have LQ:=Aa (HT9.out.at kj.out dt);have xb:=Aa (OE.out.at kj.out dt);clear LJ dt ud n9 eg HT9 OE tn;go_wp2_with fail
 go_loopw [6] (fun i wr=>∃ (j:Nat) (gA:Option Addr) (gc:Nat) (l:List Bool) (sj:ES),j<=M/\i= .int .i64 (j:Int)/\Hid (l.length=j)/\Hid (Hw l (M - j) sj=Hw [] M se)/\Hid (WB wr gx (.int .u32 t) (.int .u8 r) (.bool rd) (.slice hA hn hc) (.bool kn) (.slice sA sn sC) (.slice gA j gc))/\Hid (wr.ownsRow w.heap.size 4 1 (.slice gA j gc) j (N6 l))/\Hid (Da wr w.heap.size hA hc h)/\Hid (Da wr w.heap.size sA sC s)/\Hid (RY wr g sj)/\Hid (Ah g w wr)/\Hid (WB wr gy (.int .u32 0) (.int .u8 0) (.bool false) (.slice none 0 0) (.bool false) (.slice none 0 0) (.slice none 0 0))) (fun i _=>M - (intOf i).toNat)
 case atStart=>exact⟨0,none,0, [],se,by omega,rfl,Aa rfl,Aa rfl,kg,Aa (World.ownsRow_nil _ _ _ _),LQ,xb,AZ,om,HY10⟩
 case round=>
  obtain⟨j,gA,gc,l,sj,hj,rfl,Hl,HB,HF,HG,HT,HS,mz,tc,HY⟩:=hrel;clear AZ om kg LQ xb HY10;by_cases ai:j < M
  ·have z0:(j:Int) < M:=by omega
   have eu:=HB;obtain⟨x,s2,hx⟩:∃ x s,An 1 sj=(x,s):=⟨_,_,rfl⟩;rw [show M - j=(M - (j+1))+1 by omega,Lf hx] at eu;have fh:=Aa eu.out;have Hx:=Aa hx;clear HB eu hx;go_wp2_with fail
   refine Bc (fun done ρ W=>LI (Aea gx g x (.slice gA j gc)) (fun _=>True) done ρ W/\AJ 1 4 3 5 6 8 34 36 37 (Ah g w) (fun W=>RY W g sj) (fun W=>RY W g s2) (fun W=>W.ownsRow w.heap.size 4 1 (.slice gA j gc) j (N6 l)/\Da W w.heap.size hA hc h/\Da W w.heap.size sA sC s/\WB W gy (.int .u32 0) (.int .u8 0) (.bool false) (.slice none 0 0) (.bool false) (.slice none 0 0) (.slice none 0 0))
    (fun W=>WB W gx (.int .u32 t) (.int .u8 r) (.bool rd) (.slice hA hn hc) (.bool kn) (.slice sA sn sC) (.slice gA j gc)) (fun _ _=>True) (fun _ q W=>W.heap[q]?=some (.cells #[.bool (x == 1)] 4 (0,0)))
    (fun v W=>∃ A2 c2,v= .slice A2 (j+1) c2/\W.ownsRow w.heap.size 4 1 (.slice A2 (j+1) c2) (j+1) (N6 (l++ [x == 1]))/\Da W w.heap.size hA hc h/\Da W w.heap.size sA sC s/\WB W gy (.int .u32 0) (.int .u8 0) (.bool false) (.slice none 0 0) (.bool false) (.slice none 0 0) (.slice none 0 0))
    (fun v W=>WB W gx (.int .u32 t) (.int .u8 r) (.bool rd) (.slice hA hn hc) (.bool kn) (.slice sA sn sC) v) done ρ W) (by kernel_rfl) 40 (by rfl) (by kernel_rfl) ?_ ?_ ?_
   ·exact⟨LI.start _ trivial,AJ.start _ (tc.out.trans (Ah.below (Below.refl _ _).drew (Nat.le_of_lt mz.out.lt))) (mz.out.below (Below.refl _ _).drew) ⟨Ai HG.out (Below.refl _ _).drew (Nat.le_refl _),HT.out.below (Below.refl _ _).drew,HS.out.below (Below.refl _ _).drew,HY.out.below (Below.refl _ _).drew⟩ (WB.below HF.out (Below.refl _ _).drew)⟩
   ·refine⟨?_,?_,?_,?_,?_,?_,?_,?_,?_,trivial⟩
    ·
     intro done ρ W hn hf hd h;have q2:ρ 3= .pointer (some ⟨gx,0,none⟩):=hf 3 (by kernel_rfl);clear hf;refine Bd rfl fun R hR=>?_;go_simp;exact hR _ _ ⟨h.1.put J9 rfl (by decide) 0 31 _ rfl trivial,h.2.plain 0 31 _ (by decide) (by decide) (by decide) (by decide) (by decide) (by decide) (by decide) (fun e=>(by cases e))⟩
    ·
     intro done ρ W hn hf hd h;have q31:=h.1.get 0 31 _ rfl (hd 0 (by kernel_rfl))
     have fp:=h.2.b0 (by
      cases hx:done 8 with
      | false=>rfl
      | true=>rw [h.2.zl (h.2.zs hx)] at hn;cases hn)
     obtain⟨y0,y1,y2,y3,y4,y5,y6⟩:=WB.cells fp;clear hf;refine Bd rfl fun R hR=>?_;go_simp;exact hR _ _ ⟨h.1.put J9 rfl (by decide) 1 32 _ rfl trivial,h.2.plain 1 32 _ (by decide) (by decide) (by decide) (by decide) (by decide) (by decide) (by decide) (fun e=>(by cases e))⟩
    ·
     intro done ρ W hn hf hd h;have q0:ρ 0= .pointer (some ⟨g,0,none⟩):=hf 0 (by kernel_rfl);clear hf;refine Bd rfl fun R hR=>?_;go_simp;exact hR _ _ ⟨h.1.put J9 rfl (by decide) 2 33 _ rfl trivial,h.2.plain 2 33 _ (by decide) (by decide) (by decide) (by decide) (by decide) (by decide) (by decide) (fun e=>(by cases e))⟩
    ·
     intro done ρ W hn hf hd h;have q33:=h.1.get 2 33 _ rfl (hd 2 (by kernel_rfl));clear hf;have h0:=h.2.o0 (h.2.noa (h.2.nor hn));have fp:=h.2.b0 (h.2.nos (h.2.noa (h.2.nor hn)));refine Bd rfl fun R hR=>?_;go_simp;exact (Fd g 1 sj W (h.2.e0 hn) x s2 Hx.out (by decide)).mono fun e W' ⟨he,hE,ho,x0,x1⟩=>⟨_,he,hR _ _ ⟨h.1.put J9 rfl (by decide) 3 34 _ rfl trivial,h.2.call hn (by decide) (h.2.t.trans ho) hE ⟨Fu h0.1 kj.out ho,h0.2.1.at kj.out ho,h0.2.2.1.at kj.out ho,WB.only h0.2.2.2 ho fl.out⟩ (WB.only fp ho dh.out) trivial⟩⟩
    ·
     intro done ρ W hn hf hd h;have q34:=h.1.get 3 34 _ rfl (hd 3 (by kernel_rfl));clear hf;refine Bd rfl fun R hR=>?_;go_simp;exact hR _ _ ⟨h.1.put J9 rfl (by decide) 4 35 _ rfl trivial,h.2.plain 4 35 _ (by decide) (by decide) (by decide) (by decide) (by decide) (by decide) (by decide) (fun _=>hd 3 (by kernel_rfl))⟩
    ·
     intro done ρ W hn hf hd h;have q35:=h.1.get 4 35 _ rfl (hd 4 (by kernel_rfl));clear hf;have hc:=h.2.ze (hd 4 (by kernel_rfl));have na:=h.2.noa hn;have h0:=h.2.o0 na;have fp:=h.2.b0 (h.2.nos na);refine Bd rfl fun R hR=>?_;go_simp;have hb:=Bf W (.cells #[.bool (x == 1)] 4);exact hR _ _ ⟨h.1.skip J9 rfl 5 36 _ rfl rfl trivial,h.2.row hn hc (by decide) (h.2.t.trans (Ah.below hb (Nat.le_of_lt (h.2.e1 hc).lt))) ((h.2.e1 hc).below hb) ⟨Ai h0.1 hb (Nat.le_refl _),h0.2.1.below hb,h0.2.2.1.below hb,h0.2.2.2.below hb⟩ (WB.below fp hb) trivial (heap_alloc_new _ _)⟩
    ·
     intro done ρ W hn hf hd h;have q32:=h.1.get 1 32 _ rfl (hd 1 (by kernel_rfl));clear hf;have hr:=hd 5 (by kernel_rfl);have h0:=h.2.o0 hn;have fp:=h.2.b0 (h.2.nos hn);obtain⟨-,jf⟩:=h.2.x1 (h.2.zr hr) hn;obtain⟨q,k1,k2⟩:=jf hr;refine .inl ⟨rfl,Bt fun R hR=>?_⟩;have FO:RD W W.heap.size 1 (some ⟨q,0,none⟩) 1 [.bool (x == 1)]:=by
      refine⟨rfl,fun _=>⟨q,0,rfl,(Array.getElem?_eq_some_iff.1 k2).1,fun i u hu=>?_⟩⟩;rw [Nat.zero_add,cell_of_row _ _ _ _ _ _ k2,<-Array.getElem?_toList];exact hu
     obtain⟨v',w',je,ah,ez,mx⟩:=Dg (P:=Tryz.prog) W w.heap.size 77 77 4 i0 (.bool false) 1 1 Tryz.underlying77 cr cb cu cq rfl (by decide) _ j (N6 l) h0.1 W.heap.size (some ⟨q,0,none⟩) 1 1 [.bool (x == 1)] FO (Om [x == 1]) (by omega) (by decide) h.2.t.1.size;obtain⟨A2,c2,rfl,-,-,-⟩:=Ao ah;rw [Uh] at ah;exact E7 (.tmp 32) (.tmp 36) 77 rfl _ _ q32 k1 _ w' je (hR _ _ ⟨h.1.skip J9 rfl 6 37 _ rfl rfl trivial,h.2.app hn hr (hd 1 (by kernel_rfl)) (by decide) (h.2.t.more ez fs.out) ((h.2.e1 (h.2.zr hr)).belowB ez kj.out) ⟨A2,c2,rfl,ah,h0.2.1.kept (by decide) (by decide) mx,h0.2.2.1.kept (by decide) (by decide) mx,mx gy _ h0.2.2.2 (fun bh e=>by simp at e)⟩ (mx gx _ fp (fun bh e=>by simp at e))⟩)
    ·
     intro done ρ W hn hf hd h;have q2:ρ 3= .pointer (some ⟨gx,0,none⟩):=hf 3 (by kernel_rfl);clear hf;refine Bd rfl fun R hR=>?_;go_simp;exact hR _ _ ⟨h.1.put J9 rfl (by decide) 7 38 _ rfl trivial,h.2.plain 7 38 _ (by decide) (by decide) (by decide) (by decide) (by decide) (by decide) (by decide) (fun e=>(by cases e))⟩
    ·
     intro done ρ W hn hf hd h;have q38:=h.1.get 7 38 _ rfl (hd 7 (by kernel_rfl));clear hf;have ha:=hd 6 (by kernel_rfl);have h1:=h.2.a1 ha;obtain⟨A2,c2,ZS,ho,UE,zm,hY1⟩:=h1;have fp:=h.2.b0 hn;have hE:=h.2.e1 (h.2.zr (h.2.za ha));obtain⟨y0,y1,y2,y3,y4,y5,y6⟩:=WB.cells fp;have f6:=WB.fr fp 6;refine Bd rfl fun R hR=>?_;go_simp;refine hR _ _ ⟨h.1.world 8 _ rfl trivial,h.2.store ha (by decide) (h.2.t.setNew me.out fs.out 6 _) (hE.other Hg.out 6 _) ⟨A2,c2,ZS,Bl ho fp (by decide) 6 _,UE.setO fp (by decide) (by decide) 6 _,zm.setO fp (by decide) (by decide) 6 _,(heap_setCell_other _ _ _ _ (show gy≠gx by have:=n8.out;omega)).trans hY1⟩ ?_⟩;show WB _ gx _ _ _ _ _ _ (ρ 37);rw [ZS];exact WB.set6 fp _
   ·intro a' w6 cz ay hf h;obtain⟨A2,c2,ZS,hG6,AI,hS6,hY6⟩:=h.2.a1 (by kernel_rfl);have pz:=Aa hY6;have yc:=h.2.b1 (by kernel_rfl);rw [ZS] at yc;have iz:=Aa (h.2.e1 (by kernel_rfl));have fa:=Aa h.2.t;have GF:=Aa hG6;have GC:=Aa AI;have uu:=Aa hS6;have dx:=Aa yc;have h0:Ab a' 0= .pointer (some ⟨g,0,none⟩):=hf 0 (by kernel_rfl);have h1:Ab a' 1=undef:=hf 1 (by kernel_rfl);have h2:Ab a' 2= .pointer (some ⟨gy,0,none⟩):=hf 2 (by kernel_rfl);have h3:Ab a' 3= .pointer (some ⟨gx,0,none⟩):=hf 3 (by kernel_rfl);have h4:Ab a' 4= .int .i64 n:=hf 4 (by kernel_rfl);have h5:Ab a' 5= .int .i64 (M:Int):=hf 5 (by kernel_rfl);have h6:Ab a' 6= .int .i64 (j:Int):=hf 6 (by kernel_rfl);have h7:Ab a' 7= .pointer (some ⟨g,0,none⟩):=hf 7 (by kernel_rfl);have h8:Ab a' 8= .agg #[.int .u32 t,.int .u8 r]:=hf 8 (by kernel_rfl);have h9:Ab a' 9= .agg #[.int .u32 t,.int .u8 r,.bool false,.slice none 0 0,.bool false,.slice none 0 0,.slice none 0 0]:=hf 9 (by kernel_rfl);have kb:Ab a' 10= .pointer (some ⟨g,0,none⟩):=hf 10 (by kernel_rfl);have ky:Ab a' 11= .int .i64 n:=hf 11 (by kernel_rfl);have jr:Ab a' 12= .int .i64 n:=hf 12 (by kernel_rfl);have kw:Ab a' 13= .bool rd:=hf 13 (by kernel_rfl);have jd:Ab a' 14= .pointer (some ⟨gx,2,none⟩):=hf 14 (by kernel_rfl);have rl:Ab a' 15= .int .i64 n:=hf 15 (by kernel_rfl);have nk:Ab a' 16= .bool kn:=hf 16 (by kernel_rfl);have rk:Ab a' 17= .pointer (some ⟨gx,4,none⟩):=hf 17 (by kernel_rfl);have rj:Ab a' 18= .pointer (some ⟨g,0,none⟩):=hf 18 (by kernel_rfl);have pe:Ab a' 19= .slice hA hn hc:=hf 19 (by kernel_rfl);have ou:Ab a' 20= .pointer (some ⟨gx,3,none⟩):=hf 20 (by kernel_rfl);have nj:Ab a' 21= .pointer (some ⟨g,0,none⟩):=hf 21 (by kernel_rfl);have pd:Ab a' 22= .slice sA sn sC:=hf 22 (by kernel_rfl);have ri:Ab a' 23= .pointer (some ⟨gx,5,none⟩):=hf 23 (by kernel_rfl);have uq:Ab a' 24= .pointer (some ⟨g,0,none⟩):=hf 24 (by kernel_rfl);have uo:Ab a' 25= .int .i64 (M:Int):=hf 25 (by kernel_rfl);have yd:Ab a' 39=undef:=hf 39 (by kernel_rfl);clear hG6 AI hS6 yc mz tc HT HS HG HF HY ZS;obtain⟨T,D⟩:=a';have hD:D= []:=cz;subst hD;obtain⟨f,hT,df⟩:∃ f:Nat->Value,T=((List.range 40).map f).toArray/\Ab ⟨T, []⟩=f:=⟨_,Bm T 40 ay,rfl⟩;rw [df] at h0 h1 h2 h3 h4 h5 h6 h7 h8 h9 kb ky jr kw jd rl nk rk rj pe ou nj pd ri uq uo yd;clear df ay hf h cz;simp only [List.range,List.range.loop,List.map] at hT;subst hT;rw [h0,h1,h2,h3,h4,h5,h6,h7,h8,h9,kb,ky,jr,kw,jd,rl,nk,rk,rj,pe,ou,nj,pd,ri,uq,uo,yd];clear h0 h1 h2 h3 h4 h5 h6 h7 h8 h9 kb ky jr kw jd rl nk rk rj pe ou nj pd ri uq uo yd;go_wp2_with fail;go_roundw
    case rel=>
     refine⟨j+1,A2,c2,l++ [x == 1],s2,by omega,by go_num,Aa ?_,fh,dx,GF,GC,uu,iz,fa,pz⟩;rw [List.length_append,Hl.out];rfl
    case measure=>simp [intOf];omega
  ·have z0:¬ (j:Int) < M:=by omega
   obtain rfl:j=M:=by omega
   have HQ:=Aa (show (⟨t,r,rd,kn,HH,SS,l⟩:WP)=P/\sj=s9 by
    have hx:=HX.out
    rw [<-HB.out,Nat.sub_self] at hx
    simp only [Hw,Prod.mk.injEq] at hx
    exact hx)
   obtain⟨x0,x1,x2,x3,x4,x5,x6⟩:=HF.out.cells;obtain⟨y0,y1,y2,y3,y4,y5,y6⟩:=HY.out.cells;have F0:=HY.out;have f0:=F0.fr 0;have F1:=F0.set0 (.int .u32 t);have f1:=F1.fr 1;have F2:=F1.set1 (.int .u8 r);have f2:=F2.fr 2;have F3:=F2.set2 (.bool rd);have f3:=F3.fr 3;have F4:=F3.set3 (.slice hA hn hc);have f4:=F4.fr 4;have F5:=F4.set4 (.bool kn);have f5:=F5.fr 5;have F6:=F5.set5 (.slice sA sn sC);have f6:=F6.fr 6;have dg:=Aa (F6.set6 (.slice gA j gc));have kz:=Aa (((((((mz.out.other ct.out 0 (.int .u32 t)).other ct.out 1 (.int .u8 r)).other ct.out 2 (.bool rd)).other ct.out 3 (.slice hA hn hc)).other ct.out 4 (.bool kn)).other ct.out 5 (.slice sA sn sC)).other ct.out 6 (.slice gA j gc));have an:=Nat.le_of_eq km.out.symm;have kp:=Aa (((((((tc.out.setNew an fs.out 0 (.int .u32 t)).setNew an fs.out 1 (.int .u8 r)).setNew an fs.out 2 (.bool rd)).setNew an fs.out 3 (.slice hA hn hc)).setNew an fs.out 4 (.bool kn)).setNew an fs.out 5 (.slice sA sn sC)).setNew an fs.out 6 (.slice gA j gc));have KC:=Aa (((((((HT.out.setO F0 (by decide) (by decide) 0 (.int .u32 t)).setO F1 (by decide) (by decide) 1 (.int .u8 r)).setO F2 (by decide) (by decide) 2 (.bool rd)).setO F3 (by decide) (by decide) 3 (.slice hA hn hc)).setO F4 (by decide) (by decide) 4 (.bool kn)).setO F5 (by decide) (by decide) 5 (.slice sA sn sC)).setO F6 (by decide) (by decide) 6 (.slice gA j gc));have DG:=Aa (((((((HS.out.setO F0 (by decide) (by decide) 0 (.int .u32 t)).setO F1 (by decide) (by decide) 1 (.int .u8 r)).setO F2 (by decide) (by decide) 2 (.bool rd)).setO F3 (by decide) (by decide) 3 (.slice hA hn hc)).setO F4 (by decide) (by decide) 4 (.bool kn)).setO F5 (by decide) (by decide) 5 (.slice sA sn sC)).setO F6 (by decide) (by decide) 6 (.slice gA j gc));have ph:=Aa (Bl (Bl (Bl (Bl (Bl (Bl (Bl HG.out F0 (by decide) 0 (.int .u32 t)) F1 (by decide) 1 (.int .u8 r)) F2 (by decide) 2 (.bool rd)) F3 (by decide) 3 (.slice hA hn hc)) F4 (by decide) 4 (.bool kn)) F5 (by decide) 5 (.slice sA sn sC)) F6 (by decide) 6 (.slice gA j gc));clear HB HX HF mz tc HT HS HG F0 F1 F2 F3 F4 F5 F6 an HY;go_wp2_with fail;generalize NK:((((((wr.setCell ⟨gy,0,none⟩ (.int .u32 t)).setCell ⟨gy,1,none⟩ (.int .u8 r)).setCell ⟨gy,2,none⟩ (.bool rd)).setCell ⟨gy,3,none⟩ (.slice hA hn hc)).setCell ⟨gy,4,none⟩ (.bool kn)).setCell ⟨gy,5,none⟩ (.slice sA sn sC)).setCell ⟨gy,6,none⟩ (.slice gA j gc)=WW at dg kz kp KC DG ph |-;obtain⟨v0,v1,v2,v3,v4,v5,v6⟩:=dg.out.cells;refine bodyPost_ret (v:=wsv t r rd kn (.slice hA hn hc) (.slice sA sn sC) (.slice gA j gc)) (by simp [results,Tryz.results140,go_sem,v0,v1,v2,v3,v4,v5,v6]) rfl ?_;refine⟨⟨t,r,rd,kn,hA,hc,h,sA,sC,s,gA,gc,l⟩,?_,?_,⟨KC.out,DG.out,by rw [Hl.out];exact ph.out⟩,?_,by rw [<-HQ.out.2];exact kz.out,kp.out⟩
   ·unfold Ay.val;simp only;rw [<-Ehn.out,<-Esn.out,Hl.out]
   ·rw [<-HQ.out.1,<-Hh.out.1,<-Hs.out.1];rfl
   ·exact⟨t0,by show t < 4294967296;omega,r0,by show r<=255;omega,Hh.out.2.1,Hs.out.2.1,by have:=Hh.out.2.2;show h.length < _;omega,by have:=Hs.out.2.2;show s.length < _;omega,by have:=Hl.out;show l.length < _;omega⟩
end Go.Proofs.YtmkpfdcnikgokaaGreat
namespace Go.Proofs.YtmkpfdcnikgokaaGreat
def Ll (b:List UInt8):Nat->Nat->Option (List Int×Nat)
 | 0,a=>some ([],a)
 | m+1,a=>(Eb b a 0 1073741824).bind fun x=>(Ll b m x.2).map fun q=>(x.1 :: q.1,q.2)
theorem Jj {b:List UInt8}:∀ (m a:Nat) (L M:List Int) (a':Nat),a<=b.length->b.take a=Ap L->Ll b m a=some (M,a')->b.take a'=Ap (L++M)/\a<=a'/\a'<=b.length/\M.length=m/\∀ x∈M,0<=x/\x<=1073741824
 | 0,a,L,M,a',ha,hL,h=>by
   simp only [Ll,Option.some.injEq,Prod.mk.injEq] at h;obtain⟨rfl,rfl⟩:=h;exact⟨by simpa using hL,Nat.le_refl _,ha,rfl,fun x hx=>(by cases hx)⟩
 | m+1,a,L,M,a',ha,hL,h=>by
   simp only [Ll,Option.bind_eq_some_iff,Option.map_eq_some_iff] at h;obtain⟨⟨x,a1⟩,hx,⟨q,a2⟩,hq,he⟩:=h;simp only [Prod.mk.injEq] at hq he;obtain⟨rfl,rfl⟩:=he;obtain⟨h1,h2,-,-,h5,-,-⟩:=Em hx;obtain⟨t1,l1⟩:=Dh hx ha hL;obtain⟨g1,g2,g3,g4,g5⟩:=Jj m a1 _ q a2 l1 t1 hq;refine⟨by rw [g1];simp,by omega,g3,by simp [g4],fun y hy=>?_⟩;rcases List.mem_cons.1 hy with rfl | hy
   ·exact⟨h1,h2⟩
   ·exact g5 y hy
theorem Oe {b rest:List UInt8}:∀ (M L M':List Int),(∀ x∈M,0<=x/\x<=1073741824)->b=Ap (L++(M++M'))++rest->Ll b M.length (Ap L).length=some (M,(Ap (L++M)).length)
 | [],L,M',_,_=>by simp [Ll]
 | x :: M,L,M',h,hb=>by
   have hx:=h x List.mem_cons_self;have e1:=Gf (L:=L) (n:=x) (M:=M++M') (lo:=0) (hi:=1073741824) (rest:=rest) (b:=b) (by rw [hb];simp) hx.1 hx.1 hx.2 (by omega);have e2:=Oe (b:=b) (rest:=rest) M (L++ [x]) M' (fun y hy=>h y (List.mem_cons_of_mem _ hy)) (by rw [hb];simp);simp only [List.length_cons,Ll,e1,Option.bind_some,e2,Option.map_some];simp
theorem Q8:∀ (p:List Rn) (was:Int),(As was p).length=3 * p.length
 | [],_=>rfl
 | x :: p,was=>by simp [As,Q8 p];omega
def Cd:Int->List Int->List Rn
 | was,d :: r :: m :: L=>(was+d,r,m) :: Cd (was+d+m - 1) L
 | _,_=> []
def D3:Int->List Int->Prop
 | was,d :: r :: m :: L=>1<=d/\1<=m/\m<=4096/\r<=255/\was+d+m - 1<=1073741824/\D3 (was+d+m - 1) L
 | _,_=>True
instance Adg:∀ (was:Int) (L:List Int),Decidable (D3 was L)
 | was,d :: r :: m :: L=>by
   have:=Adg (was+d+m - 1) L;unfold D3;infer_instance
 | _, []=> .isTrue trivial
 | _, [_]=> .isTrue trivial
 | _, [_,_]=> .isTrue trivial
def Dl (k:Int):Nat:=if k=1 then 1 else if k=2 then 0 else 2
def Ck (k:Int) (L X:List Int):Int×Int×Int×List Rn×Int:=
 (k,(if 3<=k then B4 0 (Cd 0 L)+X.getD 0 0 else B4 0 (Cd 0 L)),(if 3<=k then X.getD 1 0 % 256 else ((Cd 0 L).getLastD (0,0,0)).2.1),Cd 0 L,(if k=1 then X.getD 0 0 else 0))
def Ij (b:List UInt8):Option Rd:=
 (Ll b 2 0).bind fun h=>if h.1.getD 0 0 < 1\/4 < h.1.getD 0 0\/h.1.getD 1 0 < 1\/64 < h.1.getD 1 0 then none else
   (Ll (b.drop h.2) (3 * h.1.getD 1 0).toNat 0).bind fun l=>(Ll (b.drop (h.2+l.2)) (Dl (h.1.getD 0 0)) 0).bind fun x=>
     if D3 0 l.1 then
      (let o:=Ck (h.1.getD 0 0) l.1 x.1
       if Dz o.1 o.2.1 o.2.2.1 o.2.2.2.1 o.2.2.2.2/\Je o.1 o.2.1 o.2.2.1 o.2.2.2.1 o.2.2.2.2=b.take (h.2+l.2+x.2) then some (o.1,o.2.1,o.2.2.1,o.2.2.2.1,o.2.2.2.2,h.2+l.2+x.2) else none)
     else none
theorem Nt:∀ (p:List Rn) (was:Int),Cd was (As was p)=p
 | [],_=>rfl
 | x :: p,was=>by
   simp only [As,Cd];rw [show was+(x.1 - was)=x.1 by omega,Nt p]
theorem Rh:∀ (p:List Rn) (was:Int),Jy was p->D3 was (As was p)
 | [],_,_=>trivial
 | x :: p,was,h=>by
   obtain⟨h1,h2,h3,h4,h5,h6,h7,h8⟩:=h;simp only [As,D3];rw [show was+(x.1 - was)=x.1 by omega];exact⟨h1,h5,h6,by omega,h7,Rh p _ h8⟩
theorem St:∀ (L:List Int) (was:Int),0<=was->(∀ x∈L,0<=x)->D3 was L->∀ x∈Cd was L,Gl x
 | was,w,h0,hL,hf=>by
   match was,hL,hf with
   | d :: r :: m :: L,hL,hf=>
     obtain⟨h1,h2,h3,h4,h5,h6⟩:=hf;have hr:=hL r (by simp);intro x hx;simp only [Cd,List.mem_cons] at hx;rcases hx with rfl | hx
     ·exact⟨by simp only;omega,by simp only;omega,by simp only;omega,by simp only;omega,by simp only;omega,by simp only;omega⟩
     ·exact St L (w+d+m - 1) (by omega) (fun y hy=>hL y (by simp [hy])) h6 x hx
   | [],_,_=>intro x hx;simp [Cd] at hx
   | [_],_,_=>intro x hx;simp [Cd] at hx
   | [_,_],_,_=>intro x hx;simp [Cd] at hx
theorem Za {p:List Rn} (hp:E9 p):Bw p=(B4 0 p,(p.getLastD (0,0,0)).2.1):=by
 have ak:p≠ []:=fun e=>by rw [e] at hp;have:=hp.1;simp at this
 obtain⟨q,x,rfl⟩:∃ q x,p=q++ [x]:=⟨p.dropLast,p.getLast ak,(List.dropLast_concat_getLast ak).symm⟩;rw [Ig q x hp,Ir];simp [B4,R2]
theorem Ac6 {b:List UInt8} {k t r:Int} {p:List Rn} {z:Int} (rest:List UInt8) (hb:b=Je k t r p z++rest) (h:Dz k t r p z) (ho:∀ x∈p,Gl x) (NT:0<=r):Ij b=some (k,t,r,p,z,(Je k t r p z).length):=by
 have hp:=h.2.1;have hg:=Kg hp ho;have hl:=Za hp;have h1:=hp.1;have h2:=hp.2.1;obtain⟨hi1,hi2,hi3⟩:=h.1;have hw:=Ja hp 0;have pm:=Ev hp;have hk:1<=k/\k<=4:=by
  have:=h.2.2;unfold Cl at this;omega
 have BP:Je k t r p z=Ap [k,(p.length:Int)]++(Ap (As 0 p)++Ap (Bb k t r (B4 0 p) z)):=by
  rw [<-Au,<-Au];rfl
 have htail:∀ x∈Bb k t r (B4 0 p) z,0<=x/\x<=1073741824:=by
  intro a ha;unfold Bb at ha;rcases h.2.2 with⟨g1,-,g3⟩ | ⟨g1,-,-⟩ | ⟨g1,-,g3⟩
  ·rw [if_pos g1] at ha;simp only [List.mem_singleton] at ha;subst ha;have:=g3.1;have:=g3.2.1;omega
  ·rw [if_neg (by omega),if_pos g1] at ha;cases ha
  ·rw [if_neg (by omega),if_neg (by omega)] at ha;simp only [List.mem_cons,List.not_mem_nil,or_false] at ha;omega
 have e1:=Oe (b:=b) (rest:=rest) [k,(p.length:Int)] [] (As 0 p++Bb k t r (B4 0 p) z) (by intro x hx;simp only [List.mem_cons,List.not_mem_nil,or_false] at hx;omega) (by rw [hb];rfl);have UT:Ll b 2 0=some ([k,(p.length:Int)],(Ap [k,(p.length:Int)]).length):=e1;have d1:b.drop (Ap [k,(p.length:Int)]).length=Ap ([]++(As 0 p++Bb k t r (B4 0 p) z))++rest:=by
  rw [hb,BP,List.append_assoc,List.drop_left,List.nil_append,Au]
 have e2:=Oe (rest:=rest) (As 0 p) [] (Bb k t r (B4 0 p) z) (Nk p 0 hg) d1;have cn:(As 0 p).length=(3 * (p.length:Int)).toNat:=by rw [Q8];omega
 rw [cn] at e2;have US:Ll (b.drop (Ap [k,(p.length:Int)]).length) (3 * (p.length:Int)).toNat 0=some (As 0 p,(Ap (As 0 p)).length):=e2;have d2:b.drop ((Ap [k,(p.length:Int)]).length+(Ap (As 0 p)).length)=Ap ([]++(Bb k t r (B4 0 p) z++ []))++rest:=by
  rw [<-List.drop_drop,d1,List.nil_append,Au,List.append_assoc,List.drop_left];simp
 have e3:=Oe (rest:=rest) (Bb k t r (B4 0 p) z) [] [] htail d2;have kv:(Bb k t r (B4 0 p) z).length=Dl k:=by
  unfold Bb Dl;split
  ·rfl
  ·split <;> rfl
 rw [kv] at e3;have e3':Ll (b.drop ((Ap [k,(p.length:Int)]).length+(Ap (As 0 p)).length)) (Dl k) 0=some (Bb k t r (B4 0 p) z,(Ap (Bb k t r (B4 0 p) z)).length):=e3;have hn:(Ap [k,(p.length:Int)]).length+(Ap (As 0 p)).length+(Ap (Bb k t r (B4 0 p) z)).length=(Je k t r p z).length:=by
  rw [BP,List.length_append,List.length_append];omega
 have hwh:Ck k (As 0 p) (Bb k t r (B4 0 p) z)=(k,t,r,p,z):=by
  unfold Ck;rw [Nt];rcases h.2.2 with⟨rfl,g2,g3⟩ | ⟨rfl,g2,rfl⟩ | ⟨g1,rfl,g3⟩
  ·rw [hl] at g2;simp only [Prod.mk.injEq] at g2;have q2:=g2.2;rw [List.getLastD_eq_getLast?] at q2;simp [Bb,g2.1,q2]
  ·rw [hl] at g2;simp only [Prod.mk.injEq] at g2;have q2:=g2.2;rw [List.getLastD_eq_getLast?] at q2;simp [g2.1,q2]
  ·have ui:3<=k:=by omega
   have htn:Bb k t r (B4 0 p) 0= [t - B4 0 p,r]:=by unfold Bb;rw [if_neg (by omega),if_neg (by omega)]
   rw [htn,if_pos ui,if_pos ui,if_neg (by omega)];simp only [List.getD_cons_zero,List.getD_cons_succ,Prod.mk.injEq,true_and,and_true];omega
 have hf:=Rh p 0 hg;unfold Ij;rw [UT];simp only [Option.bind_some,List.getD_cons_zero,List.getD_cons_succ];rw [if_neg (by omega),US];simp only [Option.bind_some];rw [e3'];simp only [Option.bind_some];rw [if_pos hf,hwh];simp only;rw [hn,if_pos ⟨h,by rw [hb,List.take_left]⟩]
theorem Ac8 (b:List UInt8) (pm:∀ k t r p z n,Bz b=some (k,t,r,p,z,n)->0<=r):Ij b=Bz b:=by
 cases hg:Bz b with
 | some o=>
   obtain⟨k,t,r,p,z,n⟩:=o;obtain⟨h1,h2,h3,h4,-,-⟩:=Ki hg;have hn:(Je k t r p z).length=n:=by rw [<-h2,List.length_take];omega
   have:=Ac6 (b:=b) (b.drop n) (by rw [<-h2,List.take_append_drop]) h1 h4 (pm k t r p z n hg);rw [this,hn]
 | none=>
   cases hq:Ij b with
   | none=>rfl
   | some o=>
     exfalso;simp only [Ij,Option.bind_eq_some_iff] at hq;obtain⟨⟨H,a1⟩,hH,hq⟩:=hq;simp only at hq;split at hq
     ·cases hq
     rename_i hc
     simp only [Option.bind_eq_some_iff] at hq;obtain⟨⟨L,a2⟩,hL,⟨X,a3⟩,hX,hq⟩:=hq;simp only at hL hX hq;split at hq
     ·rename_i hf
      split at hq
      ·rename_i hm
       obtain⟨hm,tz⟩:=hm;obtain⟨i1,i2,i3,-,-⟩:=Jj 2 0 [] H a1 (Nat.zero_le _) (by simp [Ap]) hH;obtain⟨j1,j2,j3,j4,j5⟩:=Jj _ 0 [] L a2 (Nat.zero_le _) (by simp [Ap]) hL;obtain⟨l1,l2,l3,l4,l5⟩:=Jj _ 0 [] X a3 (Nat.zero_le _) (by simp [Ap]) hX;rw [List.length_drop] at j3 l3;have ax:=St L 0 (Int.le_refl _) (fun x hx=>(j5 x hx).1) hf;have NT:0<=(Ck (H.getD 0 0) L X).2.2.1:=by
        unfold Ck;simp only;split
        ·omega
        ·have ak:Cd 0 L≠ []:=fun e=>by have:=hm.2.1.1;simp [Ck,e] at this
         have GM:(Cd 0 L).getLastD (0,0,0)∈Cd 0 L:=by
          rw [List.getLastD_eq_getLast?,List.getLast?_eq_some_getLast ak];exact List.getLast_mem ak
         have:=ax _ GM;unfold Gl at this;omega
       have e:=T8 (b.drop (a1+a2+a3)) hm ax NT;rw [tz,List.take_append_drop,hg] at e;cases e
      ·cases hq
     ·cases hq
end Go.Proofs.YtmkpfdcnikgokaaGreat
