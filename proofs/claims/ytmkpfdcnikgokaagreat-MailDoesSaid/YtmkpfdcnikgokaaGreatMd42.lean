/-
  Texts of this claim, put together: RdRead3, SpanRef. What each theorem asks stands in its statement.
-/
import Derived.Test.YtmkpfdcnikgokaaGreatMd5
import Derived.Test.YtmkpfdcnikgokaaGreatMd6
import Derived.Test.YtmkpfdcnikgokaaGreatMd41
set_option linter.unusedVariables false
set_option linter.unusedSimpArgs false
set_option maxRecDepth 100000
set_option maxHeartbeats 25600000
namespace Go.Proofs.YtmkpfdcnikgokaaGreat
open Go.RowKit
theorem Ym {bg:List WP} {k:Nat} {P:WP} {st s2:ES} (h0:st.2=false) (h:rdW st=(P,s2)):Ls bg (k+1) st=Ls (bg++ [P]) k s2:=by
 simp only [Ls,h0,h,Bool.false_eq_true,if_false]
theorem Yl {bg:List WP} {k:Nat} {st:ES} (hk:0 < k) (h:st.2=true):Ls bg k st=(bg,st):=by
 cases k with
 | zero=>omega
 | succ n=>simp only [Ls,h,if_true]
def Afu (gx g:Nat) (V:Value):List (Option (Nat×Value)):=
 [some (60,.pointer (some ⟨gx,6,none⟩)),some (61,V),some (62,.pointer (some ⟨g,0,none⟩)),none,none,none,some (66,.pointer (some ⟨gx,6,none⟩)),none]
def Ov:List (Option Nat):= [some 60,some 61,some 62,none,none,none,some 66,none]
theorem Wg (g:Nat) (st s1:ES) (w:World) (h:RY w g st) (h1:An 6 st=(3,s1)):
 Calls Tryz.prog 104 #[.pointer (some ⟨g,0,none⟩)] w fun e w'=>Nq w w' g e st:=by
 obtain⟨II,s2,h9⟩:∃ a b,On s1=(a,b):=⟨_,_,rfl⟩;have H2:=Aa h9;clear h9;obtain⟨x,s3,h9⟩:∃ a b,An 65 s2=(a,b):=⟨_,_,rfl⟩;have H3:=Aa h9;clear h9;obtain⟨i0,cr,cb,cu,cq⟩:=info_parts Oz;have ai:=h.lt;have kj:=Aa ai;have fs:=Aa (Nat.le_of_lt ai);have H1:=Aa h1;obtain⟨w1,au,F1,af,ac⟩:=Am w (.int .u8 0) (.int .u32 0) (.int .u8 0) (.int .i64 0) (.slice none 0 0) (.slice none 0 0) (.slice none 0 0);have qd:=Aa (h.below ac);have p9:=Aa (Ah.below ac (Nat.le_of_lt ai));obtain⟨gy,fe⟩:∃ q,q=w.heap.size:=⟨_,rfl⟩;have km:=Aa fe;have ct:=Aa (show g < gy by omega);have fl:=Aa (show gy≠g by omega);rw [<-fe] at F1;have ut:=Aa F1;have rn:=Aa (show gy < w1.heap.size by rw [fe];exact af);have dn:=Aa au;clear h1 F1 au af ac h ai fe;go_enter Tryz.func104,Tryz.ntmps104;go_wp2_with fail;rw [dn.out,<-km.out];clear dn;refine (Fd g 6 st w1 qd.out 3 s1 H1.out (by decide)).mono ?_;rintro e w2 ⟨rfl,j9,dy,-,-⟩;obtain⟨w3,b8,F3,fo,ag⟩:=Am w2 (.int .u8 3) (.int .u32 0) (.int .u8 0) (.int .i64 0) (.slice none 0 0) (.slice none 0 0) (.slice none 0 0);have gd:=Aa (j9.below ag);have im:=Aa ((p9.out.trans dy).trans (Ah.below ag (Nat.le_of_lt j9.lt)));have p7:=Aa ((ut.out.only dy fl.out).below ag);obtain⟨gx,an⟩:∃ q,q=w2.heap.size:=⟨_,rfl⟩;have n8:=Aa (show gy < gx by rw [an];exact Nat.lt_of_lt_of_le rn.out dy.1.size);have Hg:=Aa (show g < gx by have:=ct.out;have:=n8.out;omega);have dh:=Aa (show gx≠g by have:=Hg.out;omega);have zu:=Aa (show gy≠gx by have:=n8.out;omega);have me:=Aa (show w.heap.size<=gx by have:=n8.out;rw [<-km.out];omega);have zo:=Aa b8;obtain⟨k0,k1,k2,k3,k4,k5,k6⟩:=F3.cells;rw [<-b8] at k0 k1 k2 k3 k4 k5 k6;clear b8;rw [<-an] at F3;have bz:=Aa F3;have av:=Aa an;clear F3 fo ag j9 dy qd p9 ut rn;go_wp2_with fail;rw [zo.out,<-av.out];clear k0 k1 k2 k3 k4 k5 k6 an;refine (Mi g s1 w3 gd.out II s2 H2.out).mono ?_;rintro e w5 ⟨iA,ic,i,rfl,hi,hT,ax,AG,hE,ho⟩;have VG:=Aa (hT.less im.out.1.size);have Hi:=Aa (And.intro hi (And.intro ax AG));obtain⟨ni,us⟩:∃ q,q=List.length (α:=Aq) i:=⟨_,rfl⟩;have By:=Aa us;rw [<-us];clear hi hT ax AG us;have jt:=Aa hE;have cl:=Aa (bz.out.only ho dh.out);have rp:=Aa (p7.out.only ho fl.out);have jm:=Aa (im.out.trans ho);clear hE ho gd bz p7 im;obtain⟨y0,y1,y2,y3,y4,y5,y6⟩:=cl.out.cells;have f0:=(cl.out).fr 4;obtain⟨w7,cc⟩:∃ q,(w5).setCell ⟨gx,4,none⟩ (.slice iA ni ic)=q:=⟨_,rfl⟩;have dg:Hid (MB w7 gx (.int .u8 3) (.int .u32 0) (.int .u8 0) (.int .i64 0) (.slice iA ni ic) (.slice none 0 0) (.slice none 0 0)):=Aa (by rw [<-cc];exact (cl.out).set4 (.slice iA ni ic));have kz:Hid (RY w7 g _):=Aa (by rw [<-cc];exact (jt.out).other Hg.out 4 (.slice iA ni ic));have kp:Hid (Ah g w w7):=Aa (by rw [<-cc];exact (jm.out).setNew me.out fs.out 4 (.slice iA ni ic));have BW:Hid (MB w7 gy (.int .u8 0) (.int .u32 0) (.int .u8 0) (.int .i64 0) (.slice none 0 0) (.slice none 0 0) (.slice none 0 0)):=Aa (by rw [<-cc];exact (rp.out).other zu.out 4 (.slice iA ni ic));have RG:Hid (Da w7 w.heap.size iA ic i):=Aa (by rw [<-cc];exact (VG.out).setO (cl.out) (by decide) (by decide) 4 (.slice iA ni ic));obtain⟨z0,z1,z2,z3,z4,z5,z6⟩:=dg.out.cells;clear cl jt jm rp VG;go_wp2_with fail;clear cc y0 y1 y2 y3 y4 y5 y6 f0 z0 z1 z2 z3 z4 z5 z6;refine (Fd g 65 s2 w7 kz.out x s3 H3.out (by decide)).mono ?_;rintro e w8 ⟨rfl,hE,ho,x0,x1⟩;have AX:=Aa (And.intro x0 x1);clear x0 x1;have qy:=Aa hE;have dp:=Aa (dg.out.only ho dh.out);have KA:=Aa (BW.out.only ho fl.out);have jj:=Aa (kp.out.trans ho);have RF:=Aa (RG.out.at kj.out ho);clear hE ho kz dg BW kp RG;obtain⟨M,hM⟩:=Int.eq_ofNat_of_zero_le AX.out.1;subst hM;have zM:M<=65:=by have:=AX.out.2;omega
 obtain⟨y0,y1,y2,y3,y4,y5,y6⟩:=dp.out.cells;go_wp2_with fail;clear y0 y1 y2 y3 y4 y5 y6
 go_loopw [5] (fun ii wr=>∃ (j:Nat) (gA:Option Addr) (gc:Nat) (L:List Ay) (sj:ES),j<=M/\ii= .int .i64 (j:Int)/\Hid (L.length=j)/\Hid (Ls (L.map Ay.wp) (M - j) sj=Ls [] M s3)/\Hid (∀ y∈L,N5 y)/\Hid (MB wr gx (.int .u8 3) (.int .u32 0) (.int .u8 0) (.int .i64 0) (.slice iA ni ic) (.slice none 0 0) (.slice gA j gc))/\Hid (Lh wr w.heap.size gA j gc L)/\Hid (Da wr w.heap.size iA ic i)/\Hid (RY wr g sj)/\Hid (Ah g w wr)/\Hid (MB wr gy (.int .u8 0) (.int .u32 0) (.int .u8 0) (.int .i64 0) (.slice none 0 0) (.slice none 0 0) (.slice none 0 0))) (fun ii _=>M - (intOf ii).toNat)
 case atStart=>exact⟨0,none,0, [],s3,by omega,rfl,Aa rfl,Aa rfl,Aa (fun y hy=>by cases hy),dp,Aa ⟨World.ownsRow_nil _ _ _ _,fun y hy=>by cases hy⟩,RF,qy,jj,KA⟩
 case round=>
  obtain⟨j,gA,gc,L,sj,hj,rfl,Hl,HB,HW,HF,QW,HI,mz,tc,HY⟩:=hrel;clear qy dp jj KA RF;have r1:=mz.out.cell1;obtain⟨sb,hsb⟩:∃ q,q=sj.2:=⟨_,rfl⟩;have Hsb:=Aa hsb;rw [<-hsb] at r1;clear hsb;by_cases uj:j < M/\sb=false
  ·obtain⟨ai,rfl⟩:=uj;have z0:(j:Int) < M:=by omega
   have eu:=HB;obtain⟨P,s9,hx⟩:∃ x s,rdW sj=(x,s):=⟨_,_,rfl⟩;rw [show M - j=(M - (j+1))+1 by omega,Ym Hsb.out.symm hx] at eu;have fh:=Aa eu.out;have Hx:=Aa hx;clear HB eu hx;go_wp2_with fail;clear r1
   refine Bc (fun done ρ W=>LI (Afu gx g (.slice gA j gc)) (fun _=>True) done ρ W/\AJ 1 99 3 4 5 7 63 64 65 (fun W=>Ah g w W) (fun W=>RY W g sj) (fun W=>RY W g s9) (fun W=>Lh W w.heap.size gA j gc L/\Da W w.heap.size iA ic i/\MB W gy (.int .u8 0) (.int .u32 0) (.int .u8 0) (.int .i64 0) (.slice none 0 0) (.slice none 0 0) (.slice none 0 0))
    (fun W=>MB W gx (.int .u8 3) (.int .u32 0) (.int .u8 0) (.int .i64 0) (.slice iA ni ic) (.slice none 0 0) (.slice gA j gc)) (fun v W=>∃ x:Ay,v=x.val/\x.wp=P/\OW W w.heap.size x/\N5 x) (fun _ q W=>∃ x:Ay,x.wp=P/\OW W w.heap.size x/\N5 x/\W.heap[q]?=some (.cells x.cells.toArray 79 (0,0)))
    (fun v W=>∃ A2 c2 x,v= .slice A2 (j+1) c2/\x.wp=P/\N5 x/\Lh W w.heap.size A2 (j+1) c2 (L++ [x])/\Da W w.heap.size iA ic i/\MB W gy (.int .u8 0) (.int .u32 0) (.int .u8 0) (.int .i64 0) (.slice none 0 0) (.slice none 0 0) (.slice none 0 0))
    (fun v W=>MB W gx (.int .u8 3) (.int .u32 0) (.int .u8 0) (.int .i64 0) (.slice iA ni ic) (.slice none 0 0) v) done ρ W) (by kernel_rfl) 84 (by rfl) (by kernel_rfl) ?_ ?_ ?_
   ·exact⟨LI.start _ trivial,AJ.start _ (tc.out.trans (Ah.below (Below.refl _ _).drew (Nat.le_of_lt mz.out.lt))) (mz.out.below (Below.refl _ _).drew) ⟨QW.out.below (Below.refl _ _).drew,HI.out.below (Below.refl _ _).drew,HY.out.below (Below.refl _ _).drew⟩ (HF.out.below (Below.refl _ _).drew)⟩
   ·refine⟨?_,?_,?_,?_,?_,?_,?_,?_,trivial⟩
    ·
     intro done ρ W hn hf hd h;have q2:ρ 3= .pointer (some ⟨gx,0,none⟩):=hf 3 (by kernel_rfl);clear hf;refine Bd rfl fun R hR=>?_;go_simp;exact hR _ _ ⟨h.1.put Ov rfl (by decide) 0 60 _ rfl trivial,h.2.plain 0 60 _ (by decide) (by decide) (by decide) (by decide) (by decide) (by decide) (by decide) (fun e=>(by cases e))⟩
    ·
     intro done ρ W hn hf hd h;have q60:=h.1.get 0 60 _ rfl (hd 0 (by kernel_rfl))
     have fp:=h.2.b0 (by
      cases hx:done 7 with
      | false=>rfl
      | true=>rw [h.2.zl (h.2.zs hx)] at hn;cases hn)
     obtain⟨y0,y1,y2,y3,y4,y5,y6⟩:=MB.cells fp;clear hf;refine Bd rfl fun R hR=>?_;go_simp;exact hR _ _ ⟨h.1.put Ov rfl (by decide) 1 61 _ rfl trivial,h.2.plain 1 61 _ (by decide) (by decide) (by decide) (by decide) (by decide) (by decide) (by decide) (fun e=>(by cases e))⟩
    ·
     intro done ρ W hn hf hd h;have q5:ρ 0= .pointer (some ⟨g,0,none⟩):=hf 0 (by kernel_rfl);clear hf;refine Bd rfl fun R hR=>?_;go_simp;exact hR _ _ ⟨h.1.put Ov rfl (by decide) 2 62 _ rfl trivial,h.2.plain 2 62 _ (by decide) (by decide) (by decide) (by decide) (by decide) (by decide) (by decide) (fun e=>(by cases e))⟩
    ·
     intro done ρ W hn hf hd h;have q62:=h.1.get 2 62 _ rfl (hd 2 (by kernel_rfl));clear hf;have h0:=h.2.o0 (h.2.noa (h.2.nor hn));have fp:=h.2.b0 (h.2.nos (h.2.noa (h.2.nor hn)));have ht:=h.2.t;refine Bd rfl fun R hR=>?_;go_simp;exact (Aem g sj W (h.2.e0 hn) P s9 Hx.out).mono fun e W' ⟨x,he,ue,FN,uf,hE,ho⟩=>⟨_,he,hR _ _ ⟨h.1.skip Ov rfl 3 63 _ rfl rfl trivial,h.2.call hn (by decide) (ht.trans ho) hE ⟨h0.1.at kj.out ho,h0.2.1.at kj.out ho,MB.only h0.2.2 ho fl.out⟩ (MB.only fp ho dh.out) ⟨x,rfl,ue,FN.less ht.1.size,uf⟩⟩⟩
    ·
     intro done ρ W hn hf hd h;clear hf;have hc:=hd 3 (by kernel_rfl);have na:=h.2.noa hn;have h0:=h.2.o0 na;have fp:=h.2.b0 (h.2.nos na);have ht:=h.2.t;obtain⟨⟨x,k63,ue,FN,uf⟩,-⟩:=h.2.x1 hc na;have k63b:=Aa k63;simp only [Ay.val] at k63;refine Bd rfl fun R hR=>?_;go_simp;have hb:=Bf W (.cells x.cells.toArray 79);exact hR _ _ ⟨h.1.skip Ov rfl 4 64 _ rfl rfl trivial,h.2.row hn hc (by decide) (ht.trans (Ah.below hb (Nat.le_of_lt (h.2.e1 hc).lt))) ((h.2.e1 hc).below hb) ⟨h0.1.below hb,h0.2.1.below hb,h0.2.2.below hb⟩ (MB.below fp hb) ⟨x,k63b.out,ue,FN.below hb,uf⟩ ⟨x,ue,FN.below hb,uf,heap_alloc_new _ _⟩⟩
    ·
     intro done ρ W hn hf hd h;have q61:=h.1.get 1 61 _ rfl (hd 1 (by kernel_rfl));clear hf;have hr:=hd 4 (by kernel_rfl);have h0:=h.2.o0 hn;have fp:=h.2.b0 (h.2.nos hn);have ht:=h.2.t;obtain⟨-,jf⟩:=h.2.x1 (h.2.zr hr) hn;obtain⟨q,k1,x,ue,FN,uf,k2⟩:=jf hr;refine .inl ⟨rfl,Bt fun R hR=>?_⟩;have FO:RD W W.heap.size 7 (some ⟨q,0,none⟩) 1 x.cells:=by
      refine⟨rfl,fun _=>⟨q,0,rfl,(Array.getElem?_eq_some_iff.1 k2).1,fun i u hu=>?_⟩⟩;rw [Nat.zero_add,cell_of_row _ _ _ _ _ _ k2,<-Array.getElem?_toList];exact hu
     obtain⟨v',w',je,ah,ez,mx⟩:=Dg (P:=Tryz.prog) W w.heap.size 49 49 79 i0 (.agg #[.int .u32 0,.int .u8 0,.bool false,.slice none 0 0,.bool false,.slice none 0 0,.slice none 0 0]) 7 96 Tryz.underlying49 cr cb cu cq rfl (by decide) _ j (Jw L) h0.1.1 W.heap.size (some ⟨q,0,none⟩) 1 1 x.cells FO (Ps x) (by omega) (by decide) ht.1.size;obtain⟨A2,c2,rfl,-,-,-⟩:=Ao ah;rw [Pa] at ah
     exact E7 (.tmp 61) (.tmp 64) 49 rfl _ _ q61 k1 _ w' je (hR _ _ ⟨h.1.skip Ov rfl 5 65 _ rfl rfl trivial,h.2.app hn hr (hd 1 (by kernel_rfl)) (by decide) (ht.more ez fs.out) ((h.2.e1 (h.2.zr hr)).belowB ez kj.out) ⟨A2,c2,x,rfl,ue,uf,⟨ah,fun y hy=>by
      rcases List.mem_append.1 hy with k | k
      ·exact (h0.1.2 y k).kept mx
      ·rw [List.mem_singleton.1 k];exact FN.kept mx⟩,h0.2.1.kept (by decide) (by decide) mx,mx gy _ h0.2.2 (fun bh e=>by simp at e)⟩ (mx gx _ fp (fun bh e=>by simp at e))⟩)
    ·
     intro done ρ W hn hf hd h;have q2:ρ 3= .pointer (some ⟨gx,0,none⟩):=hf 3 (by kernel_rfl);clear hf;refine Bd rfl fun R hR=>?_;go_simp;exact hR _ _ ⟨h.1.put Ov rfl (by decide) 6 66 _ rfl trivial,h.2.plain 6 66 _ (by decide) (by decide) (by decide) (by decide) (by decide) (by decide) (by decide) (fun e=>(by cases e))⟩
    ·
     intro done ρ W hn hf hd h;have q66:=h.1.get 6 66 _ rfl (hd 6 (by kernel_rfl));clear hf;have ha:=hd 5 (by kernel_rfl);have ht:=h.2.t;obtain⟨A2,c2,x,ZQ,ue,uf,ho,UE,hY1⟩:=h.2.a1 ha;have fp:=h.2.b0 hn;have hE:=h.2.e1 (h.2.zr (h.2.za ha));obtain⟨y0,y1,y2,y3,y4,y5,y6⟩:=MB.cells fp;have f6:=MB.fr fp 6;refine Bd rfl fun R hR=>?_;go_simp;refine hR _ _ ⟨h.1.world 7 _ rfl trivial,h.2.store ha (by decide) (ht.setNew me.out fs.out 6 _) (hE.other Hg.out 6 _) ⟨A2,c2,x,ZQ,ue,uf,ho.setM fp 6 _,UE.setO fp (by decide) (by decide) 6 _,hY1.other zu.out 6 _⟩ ?_⟩;show MB _ gx _ _ _ _ _ _ (ρ 65);rw [ZQ];exact MB.set6 fp _
   ·intro a' w6 cz ay hf h;obtain⟨A6,c6,x,ZQ,ue,uf,If,AI,hY6⟩:=h.2.a1 (by kernel_rfl);have yc:=h.2.b1 (by kernel_rfl);rw [ZQ] at yc;have iz:=Aa (h.2.e1 (by kernel_rfl));have fa:=Aa h.2.t;have HW6:=Aa If;have GC:=Aa AI;have pz:=Aa hY6;have bj:=Aa yc;have Hxx:=Aa (And.intro ue uf);have h0:Ab a' 0= .pointer (some ⟨g,0,none⟩):=hf 0 (by kernel_rfl);have h1:Ab a' 1=undef:=hf 1 (by kernel_rfl);have h2:Ab a' 2= .pointer (some ⟨gy,0,none⟩):=hf 2 (by kernel_rfl);have h3:Ab a' 3= .pointer (some ⟨gx,0,none⟩):=hf 3 (by kernel_rfl);have h4:Ab a' 4= .int .i64 (M:Int):=hf 4 (by kernel_rfl);have h5:Ab a' 5= .int .i64 (j:Int):=hf 5 (by kernel_rfl);have h6:Ab a' 6= .pointer (some ⟨g,0,none⟩):=hf 6 (by kernel_rfl);have h7:Ab a' 7= .int .i64 3:=hf 7 (by kernel_rfl);have h8:Ab a' 8= .int .u8 3:=hf 8 (by kernel_rfl);have h9:Ab a' 9= .agg #[.int .u8 3,.int .u32 0,.int .u8 0,.int .i64 0,.slice none 0 0,.slice none 0 0,.slice none 0 0]:=hf 9 (by kernel_rfl);have kb:Ab a' 10= .pointer (some ⟨gx,0,none⟩):=hf 10 (by kernel_rfl);have ky:Ab a' 11= .int .u8 3:=hf 11 (by kernel_rfl);have jr:Ab a' 12= .bool false:=hf 12 (by kernel_rfl);have kw:Ab a' 13= .bool false:=hf 13 (by kernel_rfl);have jd:Ab a' 14= .pointer (some ⟨gx,0,none⟩):=hf 14 (by kernel_rfl);have rl:Ab a' 15= .int .u8 3:=hf 15 (by kernel_rfl);have nk:Ab a' 16= .bool false:=hf 16 (by kernel_rfl);have rk:Ab a' 17= .bool false:=hf 17 (by kernel_rfl);have rj:Ab a' 18=undef:=hf 18 (by kernel_rfl);have pe:Ab a' 19=undef:=hf 19 (by kernel_rfl);have ou:Ab a' 20=undef:=hf 20 (by kernel_rfl);have nj:Ab a' 21= .pointer (some ⟨gx,0,none⟩):=hf 21 (by kernel_rfl);have pd:Ab a' 22= .int .u8 3:=hf 22 (by kernel_rfl);have ri:Ab a' 23= .bool false:=hf 23 (by kernel_rfl);have uq:Ab a' 24=undef:=hf 24 (by kernel_rfl);have uo:Ab a' 25=undef:=hf 25 (by kernel_rfl);have un:Ab a' 26=undef:=hf 26 (by kernel_rfl);have yn:Ab a' 27= .pointer (some ⟨gx,0,none⟩):=hf 27 (by kernel_rfl);have ym:Ab a' 28= .int .u8 3:=hf 28 (by kernel_rfl);have yk:Ab a' 29= .bool false:=hf 29 (by kernel_rfl);have yj:Ab a' 30= .bool false:=hf 30 (by kernel_rfl);have yi:Ab a' 31= .pointer (some ⟨gx,0,none⟩):=hf 31 (by kernel_rfl);have yh:Ab a' 32= .int .u8 3:=hf 32 (by kernel_rfl);have yg:Ab a' 33= .bool true:=hf 33 (by kernel_rfl);have um:Ab a' 34= .bool true:=hf 34 (by kernel_rfl);have ul:Ab a' 35= .bool true:=hf 35 (by kernel_rfl);have yf:Ab a' 36=undef:=hf 36 (by kernel_rfl);have ye:Ab a' 37=undef:=hf 37 (by kernel_rfl);have DC:Ab a' 38=undef:=hf 38 (by kernel_rfl);have yd:Ab a' 39= .bool true:=hf 39 (by kernel_rfl);have DB:Ab a' 40= .pointer (some ⟨g,0,none⟩):=hf 40 (by kernel_rfl);have DA:Ab a' 41= .slice iA ni ic:=hf 41 (by kernel_rfl);have CZ:Ab a' 42= .pointer (some ⟨gx,4,none⟩):=hf 42 (by kernel_rfl);have CY:Ab a' 43= .pointer (some ⟨gx,0,none⟩):=hf 43 (by kernel_rfl);have CX:Ab a' 44= .int .u8 3:=hf 44 (by kernel_rfl);have CW:Ab a' 45= .bool true:=hf 45 (by kernel_rfl);have CV:Ab a' 46= .pointer (some ⟨g,0,none⟩):=hf 46 (by kernel_rfl);have CU:Ab a' 47= .int .i64 (M:Int):=hf 47 (by kernel_rfl);have UP:Ab a' 67=undef:=hf 67 (by kernel_rfl);have UO:Ab a' 68=undef:=hf 68 (by kernel_rfl);have CR:Ab a' 69=undef:=hf 69 (by kernel_rfl);have ET:Ab a' 70=undef:=hf 70 (by kernel_rfl);have UN:Ab a' 71=undef:=hf 71 (by kernel_rfl);have UM:Ab a' 72=undef:=hf 72 (by kernel_rfl);have JD:Ab a' 73=undef:=hf 73 (by kernel_rfl);have JC:Ab a' 74=undef:=hf 74 (by kernel_rfl);have JB:Ab a' 75=undef:=hf 75 (by kernel_rfl);have UL:Ab a' 76=undef:=hf 76 (by kernel_rfl);have UK:Ab a' 77=undef:=hf 77 (by kernel_rfl);have UJ:Ab a' 78=undef:=hf 78 (by kernel_rfl);have UI:Ab a' 79=undef:=hf 79 (by kernel_rfl);have QO:Ab a' 80=undef:=hf 80 (by kernel_rfl);have UH:Ab a' 81=undef:=hf 81 (by kernel_rfl);have UG:Ab a' 82=undef:=hf 82 (by kernel_rfl);have UF:Ab a' 83=undef:=hf 83 (by kernel_rfl);clear If AI yc hY6 mz tc QW HI HF HY ZQ ue uf;obtain⟨T,D⟩:=a';have hD:D= []:=cz;subst hD;obtain⟨f,hT,df⟩:∃ f:Nat->Value,T=((List.range 84).map f).toArray/\Ab ⟨T, []⟩=f:=⟨_,Bm T 84 ay,rfl⟩;rw [df] at h0 h1 h2 h3 h4 h5 h6 h7 h8 h9 kb ky jr kw jd rl nk rk rj pe ou nj pd ri uq uo un yn ym yk yj yi yh yg um ul yf ye DC yd DB DA CZ CY CX CW CV CU UP UO CR ET UN UM JD JC JB UL UK UJ UI QO UH UG UF;clear df ay hf h cz;simp only [List.range,List.range.loop,List.map] at hT;subst hT;rw [h0,h1,h2,h3,h4,h5,h6,h7,h8,h9,kb,ky,jr,kw,jd,rl,nk,rk,rj,pe,ou,nj,pd,ri,uq,uo,un,yn,ym,yk,yj,yi,yh,yg,um,ul,yf,ye,DC,yd,DB,DA,CZ,CY,CX,CW,CV,CU,UP,UO,CR,ET,UN,UM,JD,JC,JB,UL,UK,UJ,UI,QO,UH,UG,UF];clear h0 h1 h2 h3 h4 h5 h6 h7 h8 h9 kb ky jr kw jd rl nk rk rj pe ou nj pd ri uq uo un yn ym yk yj yi yh yg um ul yf ye DC yd DB DA CZ CY CX CW CV CU UP UO CR ET UN UM JD JC JB UL UK UJ UI QO UH UG UF;go_wp2_with fail;go_roundw
    case rel=>
     refine⟨j+1,A6,c6,L++ [x],s9,by omega,by go_num,Aa ?_,Aa ?_,Aa ?_,bj,HW6,GC,iz,fa,pz⟩
     ·rw [List.length_append,Hl.out];rfl
     ·rw [List.map_append,List.map_cons,List.map_nil,Hxx.out.1];exact fh.out
     ·intro y hy;rcases List.mem_append.1 hy with k | k
      ·exact HW.out y k
      ·rw [List.mem_singleton.1 k];exact Hxx.out.2
    case measure=>simp [intOf];omega
  ·have yq:Hid (Ls [] M s3=(L.map Ay.wp,sj)):=Aa (by
    rw [<-HB.out]
    by_cases NZ:j=M
    ·rw [NZ,Nat.sub_self];rfl
    ·exact Yl (by omega) (by rw [<-Hsb.out];cases sb with | true=>rfl | false=>exact absurd ⟨by omega,rfl⟩ uj))
   obtain⟨sf,NS⟩:∃ q,q=sj:=⟨_,rfl⟩;rw [<-NS] at yq mz;clear NS;have SZ:=Aa (And.intro zM hj);have Ha:=Aa (show ((j:Int) < M->sb=true) by intro h9;cases sb with | true=>rfl | false=>exact absurd ⟨by omega,rfl⟩ uj);clear HB zM hj;rcases Bool.eq_false_or_eq_true sb with rfl | rfl
   ·clear uj Hsb;by_cases z0:(j:Int) < M
    ·skip
     have eg:=HF;have ud:=mz;have n9:=tc;have tn:=HY;have KB:=QW;have RC:=HI;clear HF mz tc HY QW HI;obtain⟨z0,z1,z2,z3,z4,z5,z6⟩:=eg.out.cells;obtain⟨u0,u1,u2,u3,u4,u5,u6⟩:=tn.out.cells;obtain⟨g0,g1,g2,g3,g4,g5,g6,FZ,EZ,OZ⟩:=Mc (.int .u8 3) (.int .u32 0) (.int .u8 0) (.int .i64 0) (.slice iA ni ic) (.slice none 0 0) (.slice gA j gc) tn.out ud.out n9.out ct.out (Nat.le_of_eq km.out.symm) fs.out;have da:=Aa FZ;have rs:=Aa EZ;have rq:=Aa OZ;have QV:=Aa (Sj (.int .u8 3) (.int .u32 0) (.int .u8 0) (.int .i64 0) (.slice iA ni ic) (.slice none 0 0) (.slice gA j gc) tn.out KB.out);have FF:=Aa (Mk (.int .u8 3) (.int .u32 0) (.int .u8 0) (.int .i64 0) (.slice iA ni ic) (.slice none 0 0) (.slice gA j gc) tn.out RC.out);clear FZ EZ OZ eg ud n9 tn KB RC;go_wp2_with fail;generalize NK:((((((wr.setCell ⟨gy,0,none⟩ (.int .u8 3)).setCell ⟨gy,1,none⟩ (.int .u32 0)).setCell ⟨gy,2,none⟩ (.int .u8 0)).setCell ⟨gy,3,none⟩ (.int .i64 0)).setCell ⟨gy,4,none⟩ (.slice iA ni ic)).setCell ⟨gy,5,none⟩ (.slice none 0 0)).setCell ⟨gy,6,none⟩ (.slice gA j gc)=WW at da rs rq QV FF |-;obtain⟨v0,v1,v2,v3,v4,v5,v6⟩:=da.out.cells;refine bodyPost_ret (v:=Ci 3 0 0 0 (.slice iA ni ic) (.slice none 0 0) (.slice gA j gc)) (by simp [results,Tryz.results104,go_sem,v0,v1,v2,v3,v4,v5,v6]) rfl ?_;have HM:=Aa (show Ee st=_ from Cg H1.out (if_neg (by decide)) (if_neg (by decide)) ((if_pos (by decide)).trans H2.out) (show M4 3 s2=(L.map Ay.wp,sf) by unfold M4;rw [if_pos rfl,H3.out];exact yq.out) (if_neg (by decide)));refine⟨⟨3,0,0,0,iA,ic,i,none,0, [],gA,gc,L⟩,?_,by rw [HM.out];show MP.mk _ _ _ _ _ _ _=_;rw [<-Hi.out.1];rfl,⟨FF.out,OO.nil _ _,(by have h9:=QV.out;rw [<-Hl.out] at h9;exact h9)⟩,⟨⟨Int.le_refl 0,(by show (0:Int) < 4294967296;decide),Int.le_refl 0,(by show (0:Int)<=255;decide)⟩,⟨(fun y hy=>Hi.out.2.1 y hy),fun y hy=>(by cases hy),fun y hy=>HW.out y hy⟩,(by have:=Hi.out.2.2;show i.length < 1073741824;omega),(by show (0:Nat) < 1073741824;decide),(by show L.length < 1073741824;have h1:=Hl.out;have h2:=SZ.out;omega)⟩,by rw [HM.out];exact rs.out,rq.out⟩;rw [By.out,<-Hl.out];rfl
    ·skip
     have eg:=HF;have ud:=mz;have n9:=tc;have tn:=HY;have KB:=QW;have RC:=HI;clear HF mz tc HY QW HI;obtain⟨z0,z1,z2,z3,z4,z5,z6⟩:=eg.out.cells;obtain⟨u0,u1,u2,u3,u4,u5,u6⟩:=tn.out.cells;obtain⟨g0,g1,g2,g3,g4,g5,g6,FZ,EZ,OZ⟩:=Mc (.int .u8 3) (.int .u32 0) (.int .u8 0) (.int .i64 0) (.slice iA ni ic) (.slice none 0 0) (.slice gA j gc) tn.out ud.out n9.out ct.out (Nat.le_of_eq km.out.symm) fs.out;have da:=Aa FZ;have rs:=Aa EZ;have rq:=Aa OZ;have QV:=Aa (Sj (.int .u8 3) (.int .u32 0) (.int .u8 0) (.int .i64 0) (.slice iA ni ic) (.slice none 0 0) (.slice gA j gc) tn.out KB.out);have FF:=Aa (Mk (.int .u8 3) (.int .u32 0) (.int .u8 0) (.int .i64 0) (.slice iA ni ic) (.slice none 0 0) (.slice gA j gc) tn.out RC.out);clear FZ EZ OZ eg ud n9 tn KB RC;go_wp2_with fail;generalize NK:((((((wr.setCell ⟨gy,0,none⟩ (.int .u8 3)).setCell ⟨gy,1,none⟩ (.int .u32 0)).setCell ⟨gy,2,none⟩ (.int .u8 0)).setCell ⟨gy,3,none⟩ (.int .i64 0)).setCell ⟨gy,4,none⟩ (.slice iA ni ic)).setCell ⟨gy,5,none⟩ (.slice none 0 0)).setCell ⟨gy,6,none⟩ (.slice gA j gc)=WW at da rs rq QV FF |-;obtain⟨v0,v1,v2,v3,v4,v5,v6⟩:=da.out.cells;refine bodyPost_ret (v:=Ci 3 0 0 0 (.slice iA ni ic) (.slice none 0 0) (.slice gA j gc)) (by simp [results,Tryz.results104,go_sem,v0,v1,v2,v3,v4,v5,v6]) rfl ?_;have HM:=Aa (show Ee st=_ from Cg H1.out (if_neg (by decide)) (if_neg (by decide)) ((if_pos (by decide)).trans H2.out) (show M4 3 s2=(L.map Ay.wp,sf) by unfold M4;rw [if_pos rfl,H3.out];exact yq.out) (if_neg (by decide)));refine⟨⟨3,0,0,0,iA,ic,i,none,0, [],gA,gc,L⟩,?_,by rw [HM.out];show MP.mk _ _ _ _ _ _ _=_;rw [<-Hi.out.1];rfl,⟨FF.out,OO.nil _ _,(by have h9:=QV.out;rw [<-Hl.out] at h9;exact h9)⟩,⟨⟨Int.le_refl 0,(by show (0:Int) < 4294967296;decide),Int.le_refl 0,(by show (0:Int)<=255;decide)⟩,⟨(fun y hy=>Hi.out.2.1 y hy),fun y hy=>(by cases hy),fun y hy=>HW.out y hy⟩,(by have:=Hi.out.2.2;show i.length < 1073741824;omega),(by show (0:Nat) < 1073741824;decide),(by show L.length < 1073741824;have h1:=Hl.out;have h2:=SZ.out;omega)⟩,by rw [HM.out];exact rs.out,rq.out⟩;rw [By.out,<-Hl.out];rfl
   ·have z0:¬ (j:Int) < M:=fun h9=>by have:=Ha.out h9;cases this
    clear uj Hsb;have eg:=HF;have ud:=mz;have n9:=tc;have tn:=HY;have KB:=QW;have RC:=HI;clear HF mz tc HY QW HI;obtain⟨z0,z1,z2,z3,z4,z5,z6⟩:=eg.out.cells;obtain⟨u0,u1,u2,u3,u4,u5,u6⟩:=tn.out.cells;obtain⟨g0,g1,g2,g3,g4,g5,g6,FZ,EZ,OZ⟩:=Mc (.int .u8 3) (.int .u32 0) (.int .u8 0) (.int .i64 0) (.slice iA ni ic) (.slice none 0 0) (.slice gA j gc) tn.out ud.out n9.out ct.out (Nat.le_of_eq km.out.symm) fs.out;have da:=Aa FZ;have rs:=Aa EZ;have rq:=Aa OZ;have QV:=Aa (Sj (.int .u8 3) (.int .u32 0) (.int .u8 0) (.int .i64 0) (.slice iA ni ic) (.slice none 0 0) (.slice gA j gc) tn.out KB.out);have FF:=Aa (Mk (.int .u8 3) (.int .u32 0) (.int .u8 0) (.int .i64 0) (.slice iA ni ic) (.slice none 0 0) (.slice gA j gc) tn.out RC.out);clear FZ EZ OZ eg ud n9 tn KB RC;go_wp2_with fail;generalize NK:((((((wr.setCell ⟨gy,0,none⟩ (.int .u8 3)).setCell ⟨gy,1,none⟩ (.int .u32 0)).setCell ⟨gy,2,none⟩ (.int .u8 0)).setCell ⟨gy,3,none⟩ (.int .i64 0)).setCell ⟨gy,4,none⟩ (.slice iA ni ic)).setCell ⟨gy,5,none⟩ (.slice none 0 0)).setCell ⟨gy,6,none⟩ (.slice gA j gc)=WW at da rs rq QV FF |-;obtain⟨v0,v1,v2,v3,v4,v5,v6⟩:=da.out.cells;refine bodyPost_ret (v:=Ci 3 0 0 0 (.slice iA ni ic) (.slice none 0 0) (.slice gA j gc)) (by simp [results,Tryz.results104,go_sem,v0,v1,v2,v3,v4,v5,v6]) rfl ?_;have HM:=Aa (show Ee st=_ from Cg H1.out (if_neg (by decide)) (if_neg (by decide)) ((if_pos (by decide)).trans H2.out) (show M4 3 s2=(L.map Ay.wp,sf) by unfold M4;rw [if_pos rfl,H3.out];exact yq.out) (if_neg (by decide)));refine⟨⟨3,0,0,0,iA,ic,i,none,0, [],gA,gc,L⟩,?_,by rw [HM.out];show MP.mk _ _ _ _ _ _ _=_;rw [<-Hi.out.1];rfl,⟨FF.out,OO.nil _ _,(by have h9:=QV.out;rw [<-Hl.out] at h9;exact h9)⟩,⟨⟨Int.le_refl 0,(by show (0:Int) < 4294967296;decide),Int.le_refl 0,(by show (0:Int)<=255;decide)⟩,⟨(fun y hy=>Hi.out.2.1 y hy),fun y hy=>(by cases hy),fun y hy=>HW.out y hy⟩,(by have:=Hi.out.2.2;show i.length < 1073741824;omega),(by show (0:Nat) < 1073741824;decide),(by show L.length < 1073741824;have h1:=Hl.out;have h2:=SZ.out;omega)⟩,by rw [HM.out];exact rs.out,rq.out⟩;rw [By.out,<-Hl.out];rfl
theorem Aen (g:Nat) (st:ES) (w:World) (h:RY w g st):Calls Tryz.prog 104 #[.pointer (some ⟨g,0,none⟩)] w fun e w'=>Nq w w' g e st:=by
 obtain⟨k,s1,h1⟩:∃ a b,An 6 st=(a,b):=⟨_,_,rfl⟩;have h2:=Mt 6 st (by decide);rw [h1] at h2;obtain⟨h3,h4⟩:0<=k/\k<=6:=h2;rcases (show k=0\/k=1\/k=2\/k=3\/k=4\/k=5\/k=6 by omega) with rfl | rfl | rfl | rfl | rfl | rfl | rfl
 ·exact Wf g st s1 w h h1
 ·exact Wi g st s1 w h h1
 ·exact Yj g st s1 w h h1
 ·exact Wg g st s1 w h h1
 ·exact Wh g st s1 w h h1
 ·exact P7 g st s1 w h h1
 ·exact Ux g st s1 w h h1
theorem V7 (A:Option Addr) (n c:Nat) (l:List Sp) (w:World) (hr:RS w w.heap.size A l) (hn:l.length=n) (ax:∀ x∈l,Zr x) (AF:n < 1073741824):
 Calls Tryz.prog 162 #[.slice A n c] w fun e w'=>e= .returned (.bool (decide (Ii l)))/\Below w.heap.size w w':=by
 have js:=Aa ax;have Hn:=Aa hn;have HR:=Aa hr;clear ax hn hr;go_enter Tryz.func162,Tryz.ntmps162;go_wp2_with fail
 go_loopw [3] (fun i wr=>∃ (j:Nat) (v p:Int),j<=n/\i= .int .i64 (j:Int)/\1<=v/\v<=1073741826/\Hid (Cc 1 l↔Cc v (l.drop j))/\Hid (j=0/\v=1\/0 < j/\v=p+2/\∀ h:j - 1 < l.length,l[j - 1].2=p)/\Below w.heap.size w wr) (fun i _=>n - (intOf i).toNat)
 case atStart=>exact⟨0,1,0,by omega,rfl,by omega,by omega,Aa Iff.rfl,Aa (.inl ⟨rfl,rfl⟩),Below.refl _ _⟩
 case round=>
  obtain⟨j,v,p,hj,rfl,QC,ZY,HC,HV,hb⟩:=hrel;by_cases ai:j < n
  ·have ap:j < l.length:=by rw [Hn.out];exact ai
   have z0:(j:Int) < n:=by omega
   have zj:(0:Int)<=j:=by omega
   obtain⟨bb,bo,rfl,hB,fg⟩:=RS.cell (RD.below HR.out hb) (by omega);have eb:=Nat.lt_of_lt_of_le hB hb.size;clear hB;obtain⟨d0,d1⟩:=fg j ap;obtain⟨x,hx⟩:∃ x,l[j]=x:=⟨_,rfl⟩;rw [hx] at d0 d1;have jb:=js.out x (by rw [<-hx];exact List.getElem_mem ap);have ti:l.drop j=x :: l.drop (j+1):=by rw [<-hx];exact List.drop_eq_getElem_cons ap
   have m8:=HC;rw [ti] at m8;obtain⟨q1,q2,q3,q4⟩:=jb;obtain⟨x1,jz⟩:∃ a,x.1=a:=⟨_,rfl⟩;obtain⟨x2,l8⟩:∃ a,x.2=a:=⟨_,rfl⟩;have ow:Hid (Cc 1 l↔v<=x1/\x1<=x2/\x2<=1073741824/\Cc (x2+2) (l.drop (j+1))):=Aa (by rw [<-jz,<-l8];exact m8.out);have HN:=Aa (show ∀ h:j+1 - 1 < l.length,l[j+1 - 1].2=x2 from fun h=>by simp only [Nat.add_sub_cancel];rw [hx,l8]);rw [jz] at d0 q1 q2;rw [l8] at d1 q3 q4;clear hx ti HC m8 jz l8;by_cases c1:x1 < 1
   ·have HE:=Aa (show decide (Ii l)=false from decide_eq_false (fun h=>by have:=(ow.out.1 h.2).1;omega));clear fg;go_wp2_with fail;refine Aj (by kernel_rfl) (by kernel_rfl) ?_
    repeat (
     refine WQ.step (fun K hK=>?_)
     go_simp
     refine hK _ ?_
     clear hK K)
    refine WQ.nil ?_;intro u;have fw:=Ad hb (Af _ u);go_wp2_with fail;go_ret;exact⟨Ae HE.out.symm,fw⟩
   by_cases c2:x2 < x1
   ·have HE:=Aa (show decide (Ii l)=false from decide_eq_false (fun h=>by have:=(ow.out.1 h.2).2.1;omega));clear fg;go_wp2_with fail;refine Aj (by kernel_rfl) (by kernel_rfl) ?_
    repeat (
     refine WQ.step (fun K hK=>?_)
     go_simp
     refine hK _ ?_
     clear hK K)
    refine WQ.nil ?_;intro u;have fw:=Ad hb (Af _ u);go_wp2_with fail;go_ret;exact⟨Ae HE.out.symm,fw⟩
   by_cases c3:(1073741824:Int) < x2
   ·have HE:=Aa (show decide (Ii l)=false from decide_eq_false (fun h=>by have:=(ow.out.1 h.2).2.2.1;omega));clear fg;go_wp2_with fail;refine Aj (by kernel_rfl) (by kernel_rfl) ?_
    repeat (
     refine WQ.step (fun K hK=>?_)
     go_simp
     refine hK _ ?_
     clear hK K)
    refine WQ.nil ?_;intro u;have fw:=Ad hb (Af _ u);go_wp2_with fail;go_ret;exact⟨Ae HE.out.symm,fw⟩
   by_cases hj0:j=0
   ·subst hj0;have KL:=Aa (show Cc 1 l↔Cc (x2+2) (l.drop (0+1)) from⟨fun h=>(ow.out.1 h).2.2.2,fun h=>ow.out.2 ⟨by have:=HV.out;omega,by omega,by omega,h⟩⟩);simp only [Nat.zero_mul,Nat.add_zero] at d0 d1;clear fg;go_wp2_with fail;refine Aj (by kernel_rfl) (by kernel_rfl) ?_
    repeat (
     refine WQ.step (fun K hK=>?_)
     go_simp
     refine hK _ ?_
     clear hK K)
    refine WQ.nil ?_;intro u;have fw:=Ad hb (Af _ u);go_wp2_with fail;go_roundw
    case rel=>exact⟨0+1,x2+2,x2,by omega,by go_num,by omega,by omega,KL,Aa (.inr ⟨by omega,rfl,HN.out⟩),fw⟩
    case measure=>simp [intOf];omega
   ·obtain⟨-,e1⟩:=fg (j - 1) (by omega);have hvp:v=p+2:=by have:=HV.out;omega
    have hp:l[j - 1].2=p:=by
     rcases HV.out with h | h
     ·omega
     ·exact h.2.2 _
    rw [hp] at e1;clear fg hp;have z5:(0:Int) < j:=by omega
    have z9:0 < j:=by omega
    have z6:(0:Int)<=(j:Int) - 1:=by omega
    have z7:(j:Int) - 1 < n:=by omega
    have z8:((j:Int) - 1).toNat=j - 1:=by omega
    have z10:(1:Int)<=j:=by omega
    have zw:IntKind.i64.wrap ((j:Int) - 1)=(j:Int) - 1:=IntWalk.i64_in _ (by omega);have zx:IntKind.i64.wrap x1=x1:=IntWalk.i64_in _ (by omega);have zp:IntKind.i64.wrap p=p:=IntWalk.i64_in _ (by omega);have zq:IntKind.i64.wrap (p+2)=p+2:=IntWalk.i64_in _ (by omega);by_cases c4:x1 < p+2
    ·have HE:=Aa (show decide (Ii l)=false from decide_eq_false (fun h=>by have:=(ow.out.1 h.2).1;omega));go_wp2_with fail;refine Aj (by kernel_rfl) (by kernel_rfl) ?_
     repeat (
      refine WQ.step (fun K hK=>?_)
      go_simp
      refine hK _ ?_
      clear hK K)
     refine WQ.nil ?_;intro u;have fw:=Ad hb (Af _ u);go_wp2_with fail;go_ret;exact⟨Ae HE.out.symm,fw⟩
    ·have KL:=Aa (show Cc 1 l↔Cc (x2+2) (l.drop (j+1)) from⟨fun h=>(ow.out.1 h).2.2.2,fun h=>ow.out.2 ⟨by omega,by omega,by omega,h⟩⟩);clear hvp;go_wp2_with fail;refine Aj (by kernel_rfl) (by kernel_rfl) ?_
     repeat (
      refine WQ.step (fun K hK=>?_)
      go_simp
      refine hK _ ?_
      clear hK K)
     refine WQ.nil ?_;intro u;have fw:=Ad hb (Af _ u);go_wp2_with fail;go_roundw
     case rel=>exact⟨j+1,x2+2,x2,by omega,by go_num,by omega,by omega,KL,Aa (.inr ⟨by omega,rfl,HN.out⟩),fw⟩
     case measure=>simp [intOf];omega
  ·have z0:¬ (j:Int) < n:=by omega
   have HE:=Aa (show decide ((n:Int)<=1024)=decide (Ii l) from decide_eq_decide.2 ⟨fun h=>⟨by rw [Hn.out];omega,HC.out.2 (by rw [List.drop_eq_nil_of_le (by rw [Hn.out];omega)];trivial)⟩,fun h=>by have:=h.1;rw [Hn.out] at this;omega⟩);go_wp2_with fail;go_ret;exact⟨Ae HE.out,hb⟩
theorem Um (A:Option Addr) (n c:Nat) (l:List Sp) (w:World) (hr:RS w w.heap.size A l) (hn:l.length=n) (ax:∀ x∈l,Zr x) (hm:Ii l):
 Calls Tryz.prog 163 #[.slice A n c] w fun e w'=>e= .returned (.int .i64 (Dy l))/\Below w.heap.size w w':=by
 have HM:=Aa hm.2;have AF:n<=1024:=by rw [<-hn];exact hm.1
 have Hn:=Aa hn;have HR:=Aa hr;have js:=Aa ax;clear hm hr hn ax;go_enter Tryz.func163,Tryz.ntmps163;go_wp2_with fail
 go_loopw [3,4] (fun s i wr=>∃ j:Nat,j<=n/\i= .int .i64 (j:Int)/\s= .int .i64 (Dy (l.take j))/\Below w.heap.size w wr) (fun _ i _=>n - (intOf i).toNat)
 case atStart=>exact⟨0,by omega,rfl,rfl,Below.refl _ _⟩
 case round=>
  obtain⟨j,hj,rfl,rfl,hb⟩:=hrel;by_cases ai:j < n
  ·have ap:j < l.length:=by rw [Hn.out];exact ai
   have z0:(j:Int) < n:=by omega
   have zj:(0:Int)<=j:=by omega
   obtain⟨bb,bo,rfl,hB,fg⟩:=RS.cell (RD.below HR.out hb) (by omega);have eb:=Nat.lt_of_lt_of_le hB hb.size;clear hB;obtain⟨d0,d1⟩:=fg j ap;obtain⟨k1,k2,k3⟩:=Jb l 1 j ap HM.out;obtain⟨x,hx⟩:∃ x,l[j]=x:=⟨_,rfl⟩;have jb:=js.out x (by rw [<-hx];exact List.getElem_mem ap);rw [hx] at d0 d1 k1 k2 k3;have Ht:=Aa (show Dy (l.take (j+1))=Dy (l.take j)+(x.2 - x.1+1) by rw [List.take_succ_eq_append_getElem ap,hx,Qs]);have hs:=Oc (l.take j) 1 (by omega) (Ky l 1 j HM.out);have cd:Dy (l.take j)<=1073741825:=by
    by_cases h:l.take j= []
    ·rw [h];simp [Dy]
    ·have:=hs.2 h;omega
   have af:=hs.1;obtain⟨TT,IX⟩:∃ t,t=Dy (l.take j):=⟨_,rfl⟩;rw [<-IX] at af cd Ht |-;obtain⟨x1,jz⟩:∃ a,x.1=a:=⟨_,rfl⟩;obtain⟨x2,l8⟩:∃ a,x.2=a:=⟨_,rfl⟩;obtain⟨q1,q2,q3,q4⟩:=jb;rw [jz] at d0 k1 k3 Ht;rw [l8] at d1 k1 k2 Ht;rw [jz] at q1 q2;clear fg hx jz l8 hs IX q3 q4;have zs:IntKind.u32.wrap (x2 - x1)=x2 - x1:=IntWalk.u32_in _ (by omega);have z1:IntKind.i64.wrap (x2 - x1)=x2 - x1:=IntWalk.i64_in _ (by omega);have z2:IntKind.i64.wrap (x2 - x1+1)=x2 - x1+1:=IntWalk.i64_in _ (by omega);have z3:IntKind.i64.wrap (TT+(x2 - x1+1))=TT+(x2 - x1+1):=IntWalk.i64_in _ (by omega);go_wp2_with fail;refine Aj (by kernel_rfl) (by kernel_rfl) ?_
   repeat (
    refine WQ.step (fun K hK=>?_)
    go_simp
    refine hK _ ?_
    clear hK K)
   refine WQ.nil ?_;intro u;have fw:=Ad hb (Af _ u);go_wp2_with fail;go_roundw
   case rel=>exact⟨j+1,by omega,by go_num,by rw [Ht.out],fw⟩
   case measure=>simp [intOf];omega
  ·have z0:¬ (j:Int) < n:=by omega
   rw [List.take_of_length_le (by rw [Hn.out];omega)];go_wp2_with fail;go_ret;exact⟨rfl,hb⟩
end Go.Proofs.YtmkpfdcnikgokaaGreat
