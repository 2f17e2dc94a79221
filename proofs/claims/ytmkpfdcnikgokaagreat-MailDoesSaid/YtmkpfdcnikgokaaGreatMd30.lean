/-
  Texts of this claim, put together: MailRef2, Chain, PlaceRefMay, StepAppend, PlaceRefIds. What each theorem asks stands in its statement.
-/
import Derived.Deep.RegionHeld3
import Derived.Test.YtmkpfdcnikgokaaGreatMd2
import Derived.Test.YtmkpfdcnikgokaaGreatMd3
import Derived.Test.YtmkpfdcnikgokaaGreatMd4
import Derived.Test.YtmkpfdcnikgokaaGreatMd5
import Derived.Test.YtmkpfdcnikgokaaGreatMd9
import Derived.Test.YtmkpfdcnikgokaaGreatMd28
import Derived.Test.YtmkpfdcnikgokaaGreatMd29
set_option linter.unusedVariables false
set_option linter.unusedSimpArgs false
set_option maxRecDepth 100000
set_option maxHeartbeats 25600000
namespace Go.Proofs.YtmkpfdcnikgokaaGreat
open Go.RowKit
instance:DecidableEq MP:=fun x y=>decidable_of_iff (x.k=y.k/\x.t=y.t/\x.r=y.r/\x.ix=y.ix/\x.I=y.I/\x.O=y.O/\x.W=y.W) (by
 obtain⟨k,t,r,ix,I,O,W⟩:=x;obtain⟨k',t',r',vs,I',O',W'⟩:=y
 simp only [MP.mk.injEq])
theorem Mp (x y:Av) (w:World) (hx:RM w w.heap.size x) (hy:RM w w.heap.size y) (ox:Gm x) (oy:Gm y):
 Calls Tryz.prog 26 #[x.val,y.val] w fun e w'=>e= .returned (.bool (decide (x.mp=y.mp)))/\Below w.heap.size w w':=by
 obtain⟨k,t,r,ix,iA,ic,i,oA,oc,o,sA,sc,s⟩:=x;obtain⟨k',t',r',vs,ef,ee,i',ji,jh,o',dz,ec,s'⟩:=y;obtain⟨w1,au,F1,af,ac⟩:=Am w (.int .u8 k) (.int .u32 t) (.int .u8 r) (.int .i64 ix) (.slice iA i.length ic) (.slice oA o.length oc) (.slice sA s.length sc);obtain⟨w2,fc,F2,cd,ae⟩:=Am w1 (.int .u8 k') (.int .u32 t') (.int .u8 r') (.int .i64 vs) (.slice ef i'.length ee) (.slice ji o'.length jh) (.slice dz s'.length ec);have al:=Ad ac ae;have az:=Aa (F1.below ae);have db:=Aa F2;have HB:=Aa al;obtain⟨a0,a1,a2,a3,a4,a5,a6⟩:=az.out.cells;obtain⟨b0,b1,b2,b3,b4,b5,b6⟩:=F2.cells;have lo:∀ x∈o,x.p.length < 8796093022208:=fun x hx=>by have:=(ox.2.1.2.1 x hx).2.2.2;omega
 have lo':∀ x∈o',x.p.length < 8796093022208:=fun x hx=>by have:=(oy.2.1.2.1 x hx).2.2.2;omega
 have P:=Aa (fun W (hb:Below w2.heap.size w2 W)=>Nf iA ef ic ee i.length i'.length i i' W ((hx.1.below (Ad al hb)).more (Ad al hb).size) ((hy.1.below (Ad al hb)).more (Ad al hb).size) rfl rfl ox.2.2.1 ox.2.1.1);have Q:=Aa (fun W (hb:Below w2.heap.size w2 W)=>Ta oA ji o.length o'.length oc jh o o' W ((hx.2.1.below (Ad al hb)).more (Ad al hb).size) ((hy.2.1.below (Ad al hb)).more (Ad al hb).size) rfl rfl lo lo' ox.2.2.2.1);have S:=Aa (fun W (hb:Below w2.heap.size w2 W)=>Vy sA dz sc ec s.length s'.length s s' W ((hx.2.2.below (Ad al hb)).more (Ad al hb).size) ((hy.2.2.below (Ad al hb)).more (Ad al hb).size) rfl rfl ox.2.2.2.2 ox.2.1.2.2);obtain⟨q1,h1⟩:∃ q,decide (i.map Aq.pt=i'.map Aq.pt)=q:=⟨_,rfl⟩;obtain⟨q2,h2⟩:∃ q,decide (o.map Bj.op=o'.map Bj.op)=q:=⟨_,rfl⟩;obtain⟨q3,h3⟩:∃ q,decide (s.map Ay.wp=s'.map Ay.wp)=q:=⟨_,rfl⟩;rw [h1] at P;rw [h2] at Q;rw [h3] at S;obtain⟨en,xx⟩:∃ q,decide (Av.mp ⟨k,t,r,ix,iA,ic,i,oA,oc,o,sA,sc,s⟩=Av.mp ⟨k',t',r',vs,ef,ee,i',ji,jh,o',dz,ec,s'⟩)=q:=⟨_,rfl⟩;rw [xx]
 have HD:Hid (en=true↔k=k'/\t=t'/\r=r'/\ix=vs/\q1=true/\q2=true/\q3=true):=Aa (by
  rw [<-xx,<-h1,<-h2,<-h3,decide_eq_true_iff,decide_eq_true_iff,decide_eq_true_iff,decide_eq_true_iff]
  simp only [Av.mp,MP.mk.injEq])
 have NO:=Aa (show ∀ (P:Prop),(en=true->P)->¬ P->en=false from fun P h1 h2=>by
  cases he:en
  ·rfl
  ·exact absurd (h1 he) h2)
 clear xx h1 h2 h3 hx hy ox oy lo lo' F1 F2 ac ae al;by_cases c0:k=k';rotate_left
 ·have hE:=Aa (NO.out _ (fun h=>(HD.out.1 h).1) c0);show Calls Tryz.prog 26 #[Ci k t r ix (.slice iA i.length ic) (.slice oA o.length oc) (.slice sA s.length sc),Ci k' t' r' vs (.slice ef i'.length ee) (.slice ji o'.length jh) (.slice dz s'.length ec)] w _;go_enter Tryz.func26,Tryz.ntmps26;go_wp2_with fail;go_ret;exact⟨by rw [hE.out];rfl,HB.out⟩
 subst c0;by_cases c1:t=t';rotate_left
 ·have hE:=Aa (NO.out _ (fun h=>(HD.out.1 h).2.1) c1);show Calls Tryz.prog 26 #[Ci k t r ix (.slice iA i.length ic) (.slice oA o.length oc) (.slice sA s.length sc),Ci k t' r' vs (.slice ef i'.length ee) (.slice ji o'.length jh) (.slice dz s'.length ec)] w _;go_enter Tryz.func26,Tryz.ntmps26;go_wp2_with fail;go_ret;exact⟨by rw [hE.out];rfl,HB.out⟩
 subst c1;by_cases c2:r=r';rotate_left
 ·have hE:=Aa (NO.out _ (fun h=>(HD.out.1 h).2.2.1) c2);show Calls Tryz.prog 26 #[Ci k t r ix (.slice iA i.length ic) (.slice oA o.length oc) (.slice sA s.length sc),Ci k t r' vs (.slice ef i'.length ee) (.slice ji o'.length jh) (.slice dz s'.length ec)] w _;go_enter Tryz.func26,Tryz.ntmps26;go_wp2_with fail;go_ret;exact⟨by rw [hE.out];rfl,HB.out⟩
 subst c2;by_cases c3:ix=vs;rotate_left
 ·have hE:=Aa (NO.out _ (fun h=>(HD.out.1 h).2.2.2.1) c3);show Calls Tryz.prog 26 #[Ci k t r ix (.slice iA i.length ic) (.slice oA o.length oc) (.slice sA s.length sc),Ci k t r vs (.slice ef i'.length ee) (.slice ji o'.length jh) (.slice dz s'.length ec)] w _;go_enter Tryz.func26,Tryz.ntmps26;go_wp2_with fail;go_ret;exact⟨by rw [hE.out];rfl,HB.out⟩
 subst c3
 cases q1 with
 | false=>
   have hE:=Aa (NO.out _ (fun h=>(HD.out.1 h).2.2.2.2.1) (by decide));show Calls Tryz.prog 26 #[Ci k t r ix (.slice iA i.length ic) (.slice oA o.length oc) (.slice sA s.length sc),Ci k t r ix (.slice ef i'.length ee) (.slice ji o'.length jh) (.slice dz s'.length ec)] w _;go_enter Tryz.func26,Tryz.ntmps26;go_wp2_with fail;refine (P.out w2 (Below.refl _ _)).mono ?_;rintro e w3 ⟨rfl,ag⟩;clear a0 a1 a2 a3 a4 a5 a6 b0 b1 b2 b3 b4 b5 b6;go_wp2_with fail;go_ret;exact⟨by rw [hE.out];rfl,Ad HB.out ag⟩
 | true=>
 cases q2 with
 | false=>
   have hE:=Aa (NO.out _ (fun h=>(HD.out.1 h).2.2.2.2.2.1) (by decide));show Calls Tryz.prog 26 #[Ci k t r ix (.slice iA i.length ic) (.slice oA o.length oc) (.slice sA s.length sc),Ci k t r ix (.slice ef i'.length ee) (.slice ji o'.length jh) (.slice dz s'.length ec)] w _;go_enter Tryz.func26,Tryz.ntmps26;go_wp2_with fail;refine (P.out w2 (Below.refl _ _)).mono ?_;rintro e w3 ⟨rfl,ag⟩;clear a0 a1 a2 a3 a4 a5 a6 b0 b1 b2 b3 b4 b5 b6;obtain⟨a0,a1,a2,a3,a4,a5,a6⟩:=(az.out.below ag).cells;obtain⟨b0,b1,b2,b3,b4,b5,b6⟩:=(db.out.below ag).cells;go_wp2_with fail;refine (Q.out w3 ag).mono ?_;rintro e w4 ⟨rfl,aw⟩;clear a0 a1 a2 a3 a4 a5 a6 b0 b1 b2 b3 b4 b5 b6;go_wp2_with fail;go_ret;exact⟨by rw [hE.out];rfl,Ad HB.out (Ad ag aw)⟩
 | true=>
   have hE:=Aa (show en=q3 by
    cases q3
    ·exact NO.out _ (fun h=>(HD.out.1 h).2.2.2.2.2.2) (by decide)
    ·exact HD.out.2 ⟨rfl,rfl,rfl,rfl,rfl,rfl,rfl⟩)
   show Calls Tryz.prog 26 #[Ci k t r ix (.slice iA i.length ic) (.slice oA o.length oc) (.slice sA s.length sc),Ci k t r ix (.slice ef i'.length ee) (.slice ji o'.length jh) (.slice dz s'.length ec)] w _;go_enter Tryz.func26,Tryz.ntmps26;go_wp2_with fail;refine (P.out w2 (Below.refl _ _)).mono ?_;rintro e w3 ⟨rfl,ag⟩;clear a0 a1 a2 a3 a4 a5 a6 b0 b1 b2 b3 b4 b5 b6;obtain⟨a0,a1,a2,a3,a4,a5,a6⟩:=(az.out.below ag).cells;obtain⟨b0,b1,b2,b3,b4,b5,b6⟩:=(db.out.below ag).cells;go_wp2_with fail;refine (Q.out w3 ag).mono ?_;rintro e w4 ⟨rfl,aw⟩;have PA:=Ad ag aw;clear a0 a1 a2 a3 a4 a5 a6 b0 b1 b2 b3 b4 b5 b6;obtain⟨a0,a1,a2,a3,a4,a5,a6⟩:=(az.out.below PA).cells;obtain⟨b0,b1,b2,b3,b4,b5,b6⟩:=(db.out.below PA).cells;go_wp2_with fail;refine (S.out w4 PA).mono ?_;rintro e w5 ⟨rfl,bq⟩;clear a0 a1 a2 a3 a4 a5 a6 b0 b1 b2 b3 b4 b5 b6;go_wp2_with fail;go_ret;exact⟨by rw [hE.out];rfl,Ad HB.out (Ad PA bq)⟩
def Ae7 (n:Nat) (L:List Aq) (v:Value):Prop:=∃ g,v= .bool g/\(g=false->n<=300/\∀ x∈L,x.s.length<=300)
theorem Kp (A:Option Addr) (n c:Nat) (L:List Aq) (w:World) (hr:RT w w.heap.size A L) (hn:L.length=n) (ax:∀ x∈L,x.s.length<=17592186044416):
 Calls Tryz.prog 44 #[.slice A n c] w fun e w'=>∃ v,e= .returned v/\Ae7 n L v/\Below w.heap.size w w':=by
 have js:=Aa ax;have Hn:=Aa hn;have HR:=Aa hr;clear ax hn hr;go_enter Tryz.func44,Tryz.ntmps44;go_wp2_with fail
 go_loopw [3,4] (fun s i wr=>∃ (j:Nat) (sv:Int),j<=n/\(j:Int)<=300/\i= .int .i64 (j:Int)/\s= .int .i64 sv/\0<=sv/\sv<=300/\Hid (∀ x∈L.take j,x.s.length<=300)/\Below w.heap.size w wr) (fun _ i _=>n - (intOf i).toNat)
 case atStart=>exact⟨0,0,by omega,by omega,rfl,rfl,by omega,by omega,Aa (fun x hx=>by cases hx),Below.refl _ _⟩
 case round=>
  obtain⟨j,sv,hj,hj3,rfl,rfl,hs0,af,hP,hb⟩:=hrel;by_cases ai:j < n
  ·have z0:(j:Int) < n:=by omega
   by_cases z3:(j:Int) < 300
   ·have ap:j < L.length:=by rw [Hn.out];exact ai
    have zj:(0:Int)<=j:=by omega
    obtain⟨bb,bo,rfl,hB,hC⟩:=RT.cell (HR.out.below hb) (by omega);obtain⟨x,hx⟩:∃ x,L[j]=x:=⟨_,rfl⟩;obtain⟨d0,d1⟩:=hC j ap;rw [hx] at d0 d1;have ba:x∈L:=by rw [<-hx];exact List.getElem_mem ap
    have hx9:=js.out x ba;have jk:=Aa (show L.take (j+1)=L.take j++ [x] by rw [List.take_succ_eq_append_getElem ap,hx]);have hadd:IntKind.i64.wrap (sv+(x.s.length:Int))=sv+(x.s.length:Int):=IntWalk.i64_in _ (by omega);clear hC hx ba;by_cases hg:(300:Int) < sv+(x.s.length:Int)
    ·go_wp2_with fail;go_ret;exact⟨_,rfl,⟨true,rfl,fun h=>(Bool.noConfusion h)⟩,hb⟩
    ·go_wp2_with fail;go_roundw
     case rel=>
      refine⟨j+1,sv+(x.s.length:Int),by omega,by omega,by go_num,rfl,by omega,by omega,Aa ?_,hb⟩;rw [jk.out];intro u hu;rcases List.mem_append.1 hu with h | h
      ·exact hP.out u h
      ·simp only [List.mem_singleton] at h;subst h;omega
     case measure=>simp [intOf];omega
   ·have hj9:j=300:=by omega
    have cn:(300:Int) < n:=by omega
    go_wp2_with fail;go_ret;exact⟨_,rfl,⟨true,by simp,fun h=>(Bool.noConfusion h)⟩,hb⟩
  ·have CJ:j=n:=by omega
   have z0:¬ (j:Int) < n:=by omega
   have IL:L.take j=L:=List.take_of_length_le (by rw [Hn.out];omega);rw [IL] at hP;have cn:¬ (300:Int) < n:=by omega
   clear IL;go_wp2_with fail;go_ret;exact⟨_,rfl,⟨false,by simp,fun _=>⟨by omega,hP.out⟩⟩,hb⟩
def Ab8 (x:Av):Prop:=(∀ y∈x.i,y.s.length<=17592186044416)/\(∀ y∈x.o,∀ z∈y.p,Gl z)/\∀ y∈x.s,(∀ z∈y.h,z.s.length<=17592186044416)/\∀ z∈y.s,z.s.length<=17592186044416
def Ka (x:Av):Prop:=(x.i.length<=300/\∀ y∈x.i,y.s.length<=300)/\(x.o.length<=80/\∀ y∈x.o,y.p.length<=100)/\x.s.length<=80/\∀ y∈x.s,(y.h.length<=300/\∀ z∈y.h,z.s.length<=300)/\(y.s.length<=300/\∀ z∈y.s,z.s.length<=300)/\y.g.length<=300
def Ac4 (x:Av) (v:Value):Prop:=∃ g,v= .bool g/\(g=false->Ka x)
theorem P4 (x:Av) (w:World) (hx:RM w w.heap.size x) (ox:Ab8 x):
 Calls Tryz.prog 19 #[x.val] w fun e w'=>∃ v,e= .returned v/\Ac4 x v/\Below w.heap.size w w':=by
 obtain⟨k,t,r,ix,iA,ic,i,oA,oc,o,sA,sc,s⟩:=x;obtain⟨w1,au,F1,af,ac⟩:=Am w (.int .u8 k) (.int .u32 t) (.int .u8 r) (.int .i64 ix) (.slice iA i.length ic) (.slice oA o.length oc) (.slice sA s.length sc);have az:=Aa F1;obtain⟨a0,a1,a2,a3,a4,a5,a6⟩:=F1.cells;obtain⟨gx,an⟩:∃ q,q=w.heap.size:=⟨_,rfl⟩;have av:=Aa an;rw [<-an] at az;have eu:=Aa ac;have dn:=Aa au;have HX:=Aa hx;have yo:=Aa ox;have hP:=Aa (Kp iA i.length ic i w1 ((hx.1.below ac).more ac.size) rfl ox.1);have hQ:=Aa (fun W (hb:Below w1.heap.size w1 W)=>Zb oA o.length oc 80 o W ((hx.2.1.below (Ad ac hb)).more (Ad ac hb).size) rfl ox.2.1);have kt:gx < w1.heap.size:=by rw [an];exact af
 clear hx ox F1 au ac af an;show Calls Tryz.prog 19 #[Ci k t r ix (.slice iA i.length ic) (.slice oA o.length oc) (.slice sA s.length sc)] w _;go_enter Tryz.func19,Tryz.ntmps19;go_wp2_with fail;rw [dn.out,<-av.out];refine hP.out.mono ?_;rintro e w2 ⟨v,rfl,⟨g,rfl,hg⟩,ae⟩;clear a0 a1 a2 a3 a4 a5 a6;obtain⟨a0,a1,a2,a3,a4,a5,a6⟩:=(az.out.below ae).cells;have db:=Aa (az.out.below ae);have fh:=Aa (Ad eu.out ae)
 cases g with
 | true=>
   clear hg;go_wp2_with fail;go_ret;exact⟨_,rfl,⟨true,rfl,fun h=>(Bool.noConfusion h)⟩,fh.out⟩
 | false=>
 have Hg1:=Aa (hg rfl);clear hg;go_wp2_with fail;refine (hQ.out w2 ae).mono ?_;rintro e w3 ⟨v,rfl,⟨g,rfl,hg⟩,ag⟩;clear a0 a1 a2 a3 a4 a5 a6;obtain⟨a0,a1,a2,a3,a4,a5,a6⟩:=(db.out.below ag).cells;have bz:=Aa (db.out.below ag);have dk:=Aa (Ad fh.out ag);have fo:gx < w3.heap.size:=by have:=ae.size;have:=ag.size;omega
 clear ae ag db fh hP hQ
 cases g with
 | true=>
   clear hg;go_wp2_with fail;go_ret;exact⟨_,rfl,⟨true,rfl,fun h=>(Bool.noConfusion h)⟩,dk.out⟩
 | false=>
 have Hg2:=Aa (hg rfl);clear hg;by_cases QO:(80:Int) < (s.length:Int)
 ·go_wp2_with fail;go_ret;exact⟨_,rfl,⟨true,rfl,fun h=>(Bool.noConfusion h)⟩,dk.out⟩
 go_wp2_with fail
 go_loopw [3] (fun i0 wr=>∃ j:Nat,j<=s.length/\i0= .int .i64 (j:Int)/\Hid (∀ y∈s.take j,(y.h.length<=300/\∀ z∈y.h,z.s.length<=300)/\(y.s.length<=300/\∀ z∈y.s,z.s.length<=300)/\y.g.length<=300)/\Hid (Below w3.heap.size w3 wr)) (fun i0 _=>s.length - (intOf i0).toNat)
 case atStart=>exact⟨0,by omega,rfl,Aa (fun y hy=>by cases hy),Aa (Below.refl _ _)⟩
 case round=>
  obtain⟨j,hj,rfl,HS,Hbr⟩:=hrel;clear a0 a1 a2 a3 a4 a5 a6;obtain⟨a0,a1,a2,a3,a4,a5,a6⟩:=(bz.out.below Hbr.out).cells;have HBr:=Aa (Ad dk.out Hbr.out);by_cases ai:j < s.length
  ·have z0:(j:Int) < s.length:=by omega
   have zj:(0:Int)<=j:=by omega
   have HXr:=Aa ((HX.out.below HBr.out).more HBr.out.size);obtain⟨bb,bo,rfl,hB,hC⟩:=RW.cell HXr.out.2.2 (show 0 < s.length by omega);obtain⟨d0,d1,d2,d3,d4,d5,d6⟩:=hC j ai;obtain⟨x,hx⟩:∃ x,s[j]=x:=⟨_,rfl⟩;rw [hx] at d0 d1 d2 d3 d4 d5 d6;have ba:x∈s:=by rw [<-hx];exact List.getElem_mem ai
   have QQ:=Aa (HXr.out.2.2.2 x ba);have NN:=Aa (yo.out.2.2 x ba);have jk:=Aa (show s.take (j+1)=s.take j++ [x] by rw [List.take_succ_eq_append_getElem ai,hx]);have P1:=Aa (Kp x.hA x.h.length x.hc x.h wr QQ.out.1 rfl NN.out.1);have P2:=Aa (fun W (hb:Below wr.heap.size wr W)=>Kp x.sA x.s.length x.sc x.s W ((QQ.out.2.1.below hb).more hb.size) rfl NN.out.2);have QN:bb < wr.heap.size:=hB;clear hC hx ba HXr;go_wp2_with fail;refine P1.out.mono ?_;rintro e w4 ⟨v,rfl,⟨g,rfl,hg⟩,aw⟩;clear a0 a1 a2 a3 a4 a5 a6;have ca:=Aa ((bz.out.below Hbr.out).below aw);obtain⟨a0,a1,a2,a3,a4,a5,a6⟩:=ca.out.cells;replace d5:=Ac aw QN d5;replace d6:=Ac aw QN d6;have ed:=Aa (Ad HBr.out aw)
   cases g with
   | true=>
     clear hg;go_wp2_with fail;go_ret;exact⟨_,rfl,⟨true,rfl,fun h=>(Bool.noConfusion h)⟩,ed.out⟩
   | false=>
   have Hg3:=Aa (hg rfl);clear hg d0 d1 d2 d3 d4;go_wp2_with fail;refine (P2.out w4 aw).mono ?_;rintro e w5 ⟨v,rfl,⟨g,rfl,hg⟩,bq⟩;clear a0 a1 a2 a3 a4 a5 a6;obtain⟨a0,a1,a2,a3,a4,a5,a6⟩:=(ca.out.below bq).cells;replace d6:=Ac bq (Nat.lt_of_lt_of_le QN aw.size) d6;have ja:=Aa (Ad ed.out bq);have Hbr5:=Aa (Ad Hbr.out (Ad aw bq));clear d5
   cases g with
   | true=>
     clear hg;go_wp2_with fail;go_ret;exact⟨_,rfl,⟨true,rfl,fun h=>(Bool.noConfusion h)⟩,ja.out⟩
   | false=>
   have Hg4:=Aa (hg rfl);clear hg;by_cases h300:(300:Int) < (x.g.length:Int)
   ·go_wp2_with fail;go_ret;exact⟨_,rfl,⟨true,rfl,fun h=>(Bool.noConfusion h)⟩,ja.out⟩
   ·have h300':x.g.length<=300:=by omega
    go_wp2_with fail;go_roundw
    case rel=>
     refine⟨j+1,by omega,by go_num,Aa ?_,Hbr5⟩;rw [jk.out];intro u hu;rcases List.mem_append.1 hu with h | h
     ·exact HS.out u h
     ·simp only [List.mem_singleton] at h;subst h;exact⟨Hg3.out,Hg4.out,h300'⟩
    case measure=>simp [intOf];omega
  ·obtain rfl:j=s.length:=by omega
   have z0:¬ (s.length:Int) < s.length:=by omega
   have h80':s.length<=80:=by omega
   have pr:=Aa (show Ka ⟨k,t,r,ix,iA,ic,i,oA,oc,o,sA,sc,s⟩ from⟨Hg1.out,⟨by have:=Hg2.out.1;simp only;omega,Hg2.out.2 (by have:=Hg2.out.1;omega)⟩,h80',by have:=HS.out;rw [List.take_of_length_le (Nat.le_refl _)] at this;exact this⟩);go_wp2_with fail;go_ret;exact⟨_,rfl,⟨false,rfl,fun _=>pr.out⟩,HBr.out⟩
def Ik (w:World) (aa:Nat) (v:Value) (l:List UInt8):Prop:=∃ A c,v= .slice A l.length c/\w.ownsRow aa 5 1 v l.length (Cw l)
theorem Ik.row {w:World} {aa:Nat} {v:Value} {l:List UInt8} (h:Ik w aa v l):w.ownsRow aa 5 1 v l.length (Cw l):=by
 obtain⟨A,c,-,h⟩:=h;exact h
theorem Ik.of {w:World} {aa:Nat} {v:Value} {l:List UInt8} (h:w.ownsRow aa 5 1 v l.length (Cw l)):Ik w aa v l:=by
 have h':=h;obtain⟨A,c,e,-,-,-⟩:=Ao h';exact⟨A,c,e,h⟩
theorem Ik.nil (w:World) (aa:Nat):Ik w aa (.slice none 0 0) []:=⟨none,0,rfl,World.ownsRow_nil _ _ _ _⟩
theorem Ik.below {w w':World} {aa:Nat} {v:Value} {l:List UInt8} (h:Ik w aa v l) (hb:Below w.heap.size w w'):Ik w' aa v l:=by
 obtain⟨A,c,e,h⟩:=h;exact⟨A,c,e,Ai h hb (Nat.le_refl _)⟩
theorem Ik.less {w:World} {aa base':Nat} {v:Value} {l:List UInt8} (h:Ik w aa v l) (hb:base'<=aa):Ik w base' v l:=by
 obtain⟨A,c,e,h⟩:=h;exact⟨A,c,e,I4 h hb⟩
theorem Eo {w w':World} {B b off:Nat} {v:Value} (hb:Below B w w') (hB:b < B) (h:w.cell? ⟨b,off,none⟩=some v):w'.cell? ⟨b,off,none⟩=some v:=(hb.cell (p:=⟨b,off,none⟩) hB).trans h
def Gu (aa:Nat) (w:World) (l:List UInt8) (e:Ending) (w':World):Prop:=∃ v,e= .returned v/\Ik w' aa v l/\Below aa w w'/\Dm w w'
theorem Gu.mk {aa:Nat} {w w':World} {l:List UInt8} {v:Value} (hr:Ik w' aa v l) (hb:Below aa w w') (hk:Dm w w'):Gu aa w l (.returned v) w':=by
 unfold Gu;exact⟨v,rfl,hr,hb,hk⟩
structure CH (w0:World) (aa:Nat) (L:List (Option (Nat×Value))) (i0 i1 s1 i2 s2 i3 s3:Nat) (v0 u0:Value) (l0 l1 l2:List UInt8) (done:Nat->Bool) (ρ:Nat->Value) (w:World):Prop where
 b:Below aa w0 w
 k:Dm w0 w
 l:∀ i s v,(L[i]?).join=some (s,v)->done i=true->ρ s=v
 c0:done i1=false->Ik w aa v0 l0
 c1:done i1=true->done i2=false->Ik w aa (ρ s1) l1
 c2:done i2=true->Ik w aa (ρ s2) l2
 c3:done i3=true->Ik w aa (ρ s3) l2
 s:done i3=false->ρ s3=u0
 z0:done i1=true->done i0=true
 z:done i2=true->done i1=true
 z3:done i3=true->done i2=true
structure CB (S:List (Option Nat)) (i0 i1 s1 i2 s2 i3 s3:Nat):Prop where
 o:Aaa S=true
 a1:∀ o∈S,o≠some s1
 a2:∀ o∈S,o≠some s2
 a3:∀ o∈S,o≠some s3
 n:s1≠s2/\s1≠s3/\s2≠s3/\i1≠i2/\i1≠i3/\i2≠i3/\i0≠i1/\i0≠i2/\i0≠i3
 j1:(S[i1]?).join=none
 j2:(S[i2]?).join=none
 j3:(S[i3]?).join=none
section
variable {w0:World} {aa:Nat} {L:List (Option (Nat×Value))} {i0 i1 s1 i2 s2 i3 s3:Nat} {v0 u0:Value} {l0 l1 l2:List UInt8} {done:Nat->Bool} {ρ:Nat->Value} {w:World}
theorem CH.start (hb:Below aa w0 w) (hk:Dm w0 w) (h:Ik w aa v0 l0) (hs:ρ s3=u0):CH w0 aa L i0 i1 s1 i2 s2 i3 s3 v0 u0 l0 l1 l2 (fun _=>false) ρ w:=
 ⟨hb,hk,fun _ _ _ _ h=>(by cases h),fun _=>h,fun h=>(by cases h),fun h=>(by cases h),fun h=>(by cases h),fun _=>hs,fun h=>(by cases h),fun h=>(by cases h),fun h=>(by cases h)⟩
theorem CH.get (h:CH w0 aa L i0 i1 s1 i2 s2 i3 s3 v0 u0 l0 l1 l2 done ρ w) (i s:Nat) (v:Value) (hi:(L[i]?).join=some (s,v)) (hd:done i=true):ρ s=v:=h.l i s v hi hd
theorem CH.first (h:CH w0 aa L i0 i1 s1 i2 s2 i3 s3 v0 u0 l0 l1 l2 done ρ w) (hn:done i0=false):ρ s3=u0:=by
 refine h.s ?_
 cases h3:done i3 with
 | false=>rfl
 | true=>rw [h.z0 (h.z (h.z3 h3))] at hn;cases hn
theorem Sv (S:List (Option Nat)) (hS:L.map (Option.map Prod.fst)=S) {k s:Nat} {u:Value} (hk:(L[k]?).join=some (s,u)):(S[k]?).join=some s/\k < S.length/\some s∈S:=by
 rw [<-hS,List.getElem?_map,List.length_map]
 cases hx:L[k]? with
 | none=>rw [hx] at hk;cases hk
 | some o=>
   rw [hx] at hk;have ho:o=some (s,u):=by simpa [Option.join] using hk
   subst ho;exact⟨rfl,(List.getElem?_eq_some_iff.1 hx).1,List.mem_map.2 ⟨_,List.mem_of_getElem? hx,rfl⟩⟩
theorem Vb {i j:Nat} (h:j≠i):Bo done i j=done j:=by simp [Bo,h]
theorem CH.plain (h:CH w0 aa L i0 i1 s1 i2 s2 i3 s3 v0 u0 l0 l1 l2 done ρ w) (S:List (Option Nat)) (hS:L.map (Option.map Prod.fst)=S) (hB:CB S i0 i1 s1 i2 s2 i3 s3) (i d:Nat) (v:Value) (hi:(L[i]?).join=some (d,v)):
 CH w0 aa L i0 i1 s1 i2 s2 i3 s3 v0 u0 l0 l1 l2 (Bo done i) (Bn ρ (some d) v) w:=by
 obtain⟨hO,a1,a2,a3,-,j1,j2,j3⟩:=hB;obtain⟨e1,e2,e3⟩:=Sv S hS hi;have d1:s1≠d:=fun e=>a1 _ e3 (by rw [e]);have d2:s2≠d:=fun e=>a2 _ e3 (by rw [e]);have d3:s3≠d:=fun e=>a3 _ e3 (by rw [e]);have u1:Bo done i i1=done i1:=Vb fun e=>by rw [e,e1] at j1;cases j1
 have u2:Bo done i i2=done i2:=Vb fun e=>by rw [e,e1] at j2;cases j2
 have u3:Bo done i i3=done i3:=Vb fun e=>by rw [e,e1] at j3;cases j3
 have LIh:LI L (fun _=>True) done ρ w:=⟨trivial,h.l⟩;refine⟨h.b,h.k,(LI.put (w':=w) LIh S hS hO i d v hi trivial).2,?_,?_,?_,?_,?_,?_,?_,?_⟩
 ·rw [u1];exact h.c0
 ·rw [u1,u2];simp only [Bn,d1,if_false];exact h.c1
 ·rw [u2];simp only [Bn,d2,if_false];exact h.c2
 ·rw [u3];simp only [Bn,d3,if_false];exact h.c3
 ·rw [u3];simp only [Bn,d3,if_false];exact h.s
 ·rw [u1];exact fun k=>by have:=h.z0 k;simp [Bo,this]
 ·rw [u1,u2];exact h.z
 ·rw [u3,u2];exact h.z3
theorem Sw (h:CH w0 aa L i0 i1 s1 i2 s2 i3 s3 v0 u0 l0 l1 l2 done ρ w) (S:List (Option Nat)) (hS:L.map (Option.map Prod.fst)=S) {i d:Nat} {v:Value} (hi:(S[i]?).join=none) (hd:∀ o∈S,o≠some d):∀ j s u,(L[j]?).join=some (s,u)->Bo done i j=true->Bn ρ (some d) v s=u:=by
 intro j s u hj hdn;obtain⟨e1,-,e3⟩:=Sv S hS hj;have we:j≠i:=fun e=>by rw [<-e,e1] at hi;cases hi
 have TU:s≠d:=fun e=>hd _ e3 (by rw [e]);simp only [Bn,TU,if_false];refine h.l j s u hj ?_;simpa [Bo,we] using hdn
theorem CH.call1 (h:CH w0 aa L i0 i1 s1 i2 s2 i3 s3 v0 u0 l0 l1 l2 done ρ w) (S:List (Option Nat)) (hS:L.map (Option.map Prod.fst)=S) (hB:CB S i0 i1 s1 i2 s2 i3 s3) (hn:done i1=false) (h0:done i0=true) {v:Value} {w':World} (hr:Ik w' aa v l1) (hb:Below aa w w') (hk:Dm w w'):
 CH w0 aa L i0 i1 s1 i2 s2 i3 s3 v0 u0 l0 l1 l2 (Bo done i1) (Bn ρ (some s1) v) w':=by
 obtain⟨hO,a1,a2,a3,⟨-,n13,-,i12,i13,-,i01,-,-⟩,j1,j2,j3⟩:=hB;have n2:done i2=false:=by
  cases hx:done i2 with
  | false=>rfl
  | true=>rw [h.z hx] at hn;cases hn
 have n3:done i3=false:=by
  cases hx:done i3 with
  | false=>rfl
  | true=>rw [h.z3 hx] at n2;cases n2
 have u1:Bo done i1 i1=true:=by simp [Bo]
 have u2:Bo done i1 i2=false:=by rw [Vb i12.symm];exact n2
 have u3:Bo done i1 i3=false:=by rw [Vb i13.symm];exact n3
 refine⟨h.b.trans hb,h.k.trans hk,Sw h S hS j1 a1,?_,?_,?_,?_,?_,?_,?_,?_⟩
 ·rw [u1];exact fun e=>by cases e
 ·exact fun _ _=>by simpa [Bn] using hr
 ·rw [u2];exact fun e=>by cases e
 ·rw [u3];exact fun e=>by cases e
 ·exact fun _=>by simp only [Bn,n13.symm,if_false];exact h.s n3
 ·exact fun _=>by simp [Bo,h0]
 ·rw [u2];exact fun e=>by cases e
 ·rw [u3];exact fun e=>by cases e
theorem CH.call2 (h:CH w0 aa L i0 i1 s1 i2 s2 i3 s3 v0 u0 l0 l1 l2 done ρ w) (S:List (Option Nat)) (hS:L.map (Option.map Prod.fst)=S) (hB:CB S i0 i1 s1 i2 s2 i3 s3) (hn:done i2=false) (h1:done i1=true) {v:Value} {w':World} (hr:Ik w' aa v l2) (hb:Below aa w w') (hk:Dm w w'):
 CH w0 aa L i0 i1 s1 i2 s2 i3 s3 v0 u0 l0 l1 l2 (Bo done i2) (Bn ρ (some s2) v) w':=by
 obtain⟨hO,a1,a2,a3,⟨n12,-,n23,i12,-,i23,-,i02,-⟩,j1,j2,j3⟩:=hB;have n3:done i3=false:=by
  cases hx:done i3 with
  | false=>rfl
  | true=>rw [h.z3 hx] at hn;cases hn
 have u1:Bo done i2 i1=true:=by simp [Bo,h1]
 have u2:Bo done i2 i2=true:=by simp [Bo]
 have u3:Bo done i2 i3=false:=by rw [Vb i23.symm];exact n3
 refine⟨h.b.trans hb,h.k.trans hk,Sw h S hS j2 a2,?_,?_,?_,?_,?_,?_,?_,?_⟩
 ·rw [u1];exact fun e=>by cases e
 ·rw [u2];exact fun _ e=>by cases e
 ·exact fun _=>by simpa [Bn] using hr
 ·rw [u3];exact fun e=>by cases e
 ·exact fun _=>by simp only [Bn,n23.symm,if_false];exact h.s n3
 ·exact fun _=>by simp [Bo,h.z0 h1]
 ·exact fun _=>u1
 ·rw [u3];exact fun e=>by cases e
theorem CH.lay (h:CH w0 aa L i0 i1 s1 i2 s2 i3 s3 v0 u0 l0 l1 l2 done ρ w) (S:List (Option Nat)) (hS:L.map (Option.map Prod.fst)=S) (hB:CB S i0 i1 s1 i2 s2 i3 s3) (h2:done i2=true) {v:Value} (hv:v=ρ s2):
 CH w0 aa L i0 i1 s1 i2 s2 i3 s3 v0 u0 l0 l1 l2 (Bo done i3) (Bn ρ (some s3) v) w:=by
 obtain⟨hO,a1,a2,a3,⟨n12,n13,n23,i12,i13,i23,-,-,i03⟩,j1,j2,j3⟩:=hB;have u1:Bo done i3 i1=true:=by simp [Bo,h.z h2]
 have u2:Bo done i3 i2=true:=by simp [Bo,h2]
 have u3:Bo done i3 i3=true:=by simp [Bo]
 refine⟨h.b,h.k,Sw h S hS j3 a3,?_,?_,?_,?_,?_,?_,?_,?_⟩
 ·rw [u1];exact fun e=>by cases e
 ·rw [u2];exact fun _ e=>by cases e
 ·exact fun _=>by simp only [Bn,n23,if_false];exact h.c2 h2
 ·exact fun _=>by rw [hv];simpa [Bn] using h.c2 h2
 ·rw [u3];exact fun e=>by cases e
 ·exact fun _=>by simp [Bo,h.z0 (h.z h2)]
 ·exact fun _=>u1
 ·exact fun _=>u2
end
theorem Uy (A:Option Addr) (n c:Nat) (p:List Rn) (w:World) (hr:RR w w.heap.size A p) (hn:p.length=n) (ax:∀ x∈p,Gl x):
 Calls Tryz.prog 158 #[.slice A n c] w fun e w'=>e= .returned (.bool (decide (E9 p)))/\Below w.heap.size w w':=by
 subst hn;have js:=Aa ax;clear ax;by_cases h1:(p.length:Int) < 1
 ·have hf:=Aa (show decide (E9 p)=false from decide_eq_false (fun h=>by have:=h.1;omega));go_enter Tryz.func158,Tryz.ntmps158;go_wp2_with fail;go_ret;exact⟨Ae hf.out.symm,Below.refl _ _⟩
 by_cases h2:(64:Int) < (p.length:Int)
 ·have hf:=Aa (show decide (E9 p)=false from decide_eq_false (fun h=>by have:=h.2.1;omega));go_enter Tryz.func158,Tryz.ntmps158;go_wp2_with fail;go_ret;exact⟨Ae hf.out.symm,Below.refl _ _⟩
 go_enter Tryz.func158,Tryz.ntmps158;go_wp2_with fail
 go_loopw [3] (fun i wr=>∃ (k:Nat),k<=p.length/\i= .int .i64 (k:Int)/\Hid (C9 (p.take k))/\Below w.heap.size w wr) (fun i _=>p.length - (intOf i).toNat)
 case atStart=>exact⟨0,by omega,rfl,Aa trivial,Below.refl _ _⟩
 case round=>
  obtain⟨k,hk,rfl,IW,hb⟩:=hrel;by_cases ai:k < p.length
  ·obtain⟨b0,o0,rfl,py,er⟩:=RR.cell (RD.below hr hb) (by omega);obtain⟨d0,d1,d2⟩:=er k ai;have z0:(k:Int) < p.length:=by omega
   obtain⟨t,ht⟩:∃ t,t=p[k].1:=⟨_,rfl⟩;obtain⟨r,gf⟩:∃ r,r=p[k].2.1:=⟨_,rfl⟩;obtain⟨m,hm⟩:∃ m,m=p[k].2.2:=⟨_,rfl⟩;rw [<-ht] at d0;rw [<-gf] at d1;rw [<-hm] at d2;have xy:p[k]=(t,r,m):=by rw [ht,gf,hm]
   have GL:=js.out p[k] (List.getElem_mem ai);rw [xy] at GL;have WT:=Aa GL;have ww:=Pv ai;rw [xy] at ww;have r5:=Aa ww;obtain⟨t0,t1,r0,r1,n0,n1⟩:=GL;simp only at t0 t1 r0 r1 n0 n1;clear ht gf hm ww;by_cases ho:J6 (t,r,m)
   ·have hd:=Aa (decide_eq_true ho);have Ho:=Aa ho;clear ho;by_cases EM:k=0
    ·subst EM;have tq:=Aa (r5.out.2 ⟨IW.out,Ho.out,fun h=>absurd h (by decide)⟩);clear er;simp only [Nat.zero_mul,Nat.add_zero] at d0 d1 d2;go_wp2_with fail;refine (L0 t r m _ WT.out).mono ?_;rintro e w2 ⟨rfl,ae⟩;rw [hd.out];go_wp2_with fail
     go_quiet (fail)
     go_wp2_with fail;go_roundw
     case rel=>exact⟨0+1,by omega,by go_num,tq,Bk (Ad hb ae) _⟩
     case measure=>simp [intOf];omega
    ·obtain⟨x0,x1,x2⟩:=er (k - 1) (by omega);obtain⟨a,ha⟩:∃ a,a=(p[k - 1]'(by omega)).1:=⟨_,rfl⟩;obtain⟨b,de⟩:∃ b,b=(p[k - 1]'(by omega)).2.1:=⟨_,rfl⟩;obtain⟨d,UB⟩:∃ d,d=(p[k - 1]'(by omega)).2.2:=⟨_,rfl⟩;rw [<-ha] at x0;rw [<-de] at x1;rw [<-UB] at x2;have WA:p[k - 1]'(by omega)=(a,b,d):=by rw [ha,de,UB]
     have GM:(p[k - 1]'(by omega))∈p.take k:=by
      have:=List.getElem_mem (l:=p.take k) (n:=k - 1) (by rw [List.length_take];omega);rwa [List.getElem_take] at this
     have SH:=Eh IW.out _ GM;rw [WA] at SH;obtain⟨q1,q2,q3,q4,q5,q6⟩:=SH;simp only at q1 q2 q3 q4 q5 q6;have mu:=Aa (show (∀ h:0 < k,Lm (p[k - 1]'(by omega)) (t,r,m))↔(a+d - 1 < t/\¬ (r=b/\t=a+d - 1+1)) from⟨fun h=>by have:=h (by omega);rw [WA] at this;exact this,fun h _=>by rw [WA];exact h⟩);have E:=Aa (fun w=>Aah a b d w (by omega) q2 q4 q5);clear ha de UB GM er;have z5:(0:Int) < k:=by omega
     have z9:0 < k:=by omega
     have z6:(0:Int)<=(k:Int) - 1:=by omega
     have z7:(k:Int) - 1 < p.length:=by omega
     have z8:((k:Int) - 1).toNat=k - 1:=by omega
     have z10:(1:Int)<=k:=by omega
     have z11:(k:Int)<=p.length:=by omega
     have zw:IntKind.i64.wrap ((k:Int) - 1)=(k:Int) - 1:=IntWalk.i64_in _ (by omega);go_wp2_with fail;refine (L0 t r m _ WT.out).mono ?_;rintro e w2 ⟨rfl,ae⟩;rw [hd.out];have al:=Ad hb ae;have eb:=Nat.lt_of_lt_of_le py hb.size;replace d0:=Ac ae eb d0;replace d1:=Ac ae eb d1;replace d2:=Ac ae eb d2;replace x0:=Ac ae eb x0;replace x1:=Ac ae eb x1;replace x2:=Ac ae eb x2;replace eb:=Nat.lt_of_lt_of_le eb ae.size;have zw2:IntKind.i64.wrap (a+d - 1+1)=a+d - 1+1:=IntWalk.i64_in _ (by omega);have zw4:IntKind.i64.wrap t=t:=IntWalk.i64_in _ (by omega);have zw3:IntKind.i64.wrap (a+d)=a+d:=IntWalk.i64_in _ (by omega);have NB:(t<=a+d - 1)\/(¬ t<=a+d - 1/\¬ r=b)\/(¬ t<=a+d - 1/\(r == b)=true/\(t == a+d)=false)\/(¬ t<=a+d - 1/\(r == b)=true/\(t == a+d)=true):=by
      simp only [beq_iff_eq,beq_eq_false_iff_ne,ne_eq];omega
     rcases NB with s1 | ⟨s1,s2⟩ | ⟨s1,s2,s3⟩ | ⟨s1,s2,s3⟩
     ·skip
      have hf:=Aa (show decide (E9 p)=false from decide_eq_false (fun h=>by have:=mu.out.1 (r5.out.1 (Ju h.2.2.1 (k+1))).2.2;omega));go_wp2_with fail;refine Aj (by kernel_rfl) (by kernel_rfl) ?_
      repeat (
       refine WQ.step (fun K hK=>?_)
       go_simp
       first
        | (refine hK _ ?_;clear hK K)
        | (apply Exists.intro
           refine⟨fun _=>?_,hK _ ?_⟩
           (go_at_call 184;with_reducible exact Al (Ag E _))
           clear hK K))
      refine WQ.nil ?_;intro u;have ag:=Ad al (Af w2 u);go_wp2_with fail;go_ret;exact⟨Ae hf.out.symm,ag⟩
     ·skip
      have tq:=Aa (r5.out.2 ⟨IW.out,Ho.out,mu.out.2 ⟨by omega,by omega⟩⟩);go_wp2_with fail;refine Aj (by kernel_rfl) (by kernel_rfl) ?_
      repeat (
       refine WQ.step (fun K hK=>?_)
       go_simp
       first
        | (refine hK _ ?_;clear hK K)
        | (apply Exists.intro
           refine⟨fun _=>?_,hK _ ?_⟩
           (go_at_call 184;with_reducible exact Al (Ag E _))
           clear hK K))
      refine WQ.nil ?_;intro u;have ag:=Ad al (Af w2 u);go_wp2_with fail;go_roundw
      case rel=>exact⟨k+1,by omega,by go_num,tq,ag⟩
      case measure=>simp [intOf];omega
     ·have s4:¬ t=a+d:=by simpa using s3
      have tq:=Aa (r5.out.2 ⟨IW.out,Ho.out,mu.out.2 ⟨by omega,by omega⟩⟩);go_wp2_with fail;refine Aj (by kernel_rfl) (by kernel_rfl) ?_
      repeat (
       refine WQ.step (fun K hK=>?_)
       go_simp
       first
        | (refine hK _ ?_;clear hK K)
        | (apply Exists.intro
           refine⟨fun _=>?_,hK _ ?_⟩
           (go_at_call 184;with_reducible exact Al (Ag E _))
           clear hK K))
      refine WQ.nil ?_;intro u;have ag:=Ad al (Af w2 u);go_wp2_with fail;go_roundw
      case rel=>exact⟨k+1,by omega,by go_num,tq,ag⟩
      case measure=>simp [intOf];omega
     ·have s4:t=a+d:=by simpa using s3
      have s5:r=b:=by simpa using s2
      have hf:=Aa (show decide (E9 p)=false from decide_eq_false (fun h=>by have:=mu.out.1 (r5.out.1 (Ju h.2.2.1 (k+1))).2.2;omega));clear s4 s5;go_wp2_with fail;refine Aj (by kernel_rfl) (by kernel_rfl) ?_
      repeat (
       refine WQ.step (fun K hK=>?_)
       go_simp
       first
        | (refine hK _ ?_;clear hK K)
        | (apply Exists.intro
           refine⟨fun _=>?_,hK _ ?_⟩
           (go_at_call 184;with_reducible exact Al (Ag E _))
           clear hK K))
      refine WQ.nil ?_;intro u;have ag:=Ad al (Af w2 u);go_wp2_with fail;go_ret;exact⟨Ae hf.out.symm,ag⟩
   ·have hd:=Aa (decide_eq_false ho);have hf:=Aa (show decide (E9 p)=false from decide_eq_false (fun h=>ho (r5.out.1 (Ju h.2.2.1 (k+1))).2.1));clear ho er;go_wp2_with fail;refine (L0 t r m _ WT.out).mono ?_;rintro e w2 ⟨rfl,ae⟩;rw [hd.out];go_wp2_with fail;go_ret;exact⟨Ae hf.out.symm,Ad hb ae⟩
  ·have hz:¬ (k:Int) < p.length:=by omega
   have NI:p.take k=p:=List.take_of_length_le (by omega);rw [NI] at IW;have hd:=Aa (show decide (E9 p)=decide (Ou p<=4096) from decide_eq_decide.2 ⟨fun h=>h.2.2.2,fun h=>⟨by omega,by omega,IW.out,h⟩⟩);clear NI;go_wp2_with fail;refine (Ut A _ c p wr ((RD.below hr hb).more hb.size) rfl (by omega) (fun x hx=>⟨by have:=(Eh IW.out x hx).2.2.2.1;omega,by have:=(Eh IW.out x hx).2.2.2.2.1;omega⟩)).mono ?_;rintro e w2 ⟨rfl,ae⟩;go_wp2_with fail;go_ret;exact⟨Ae hd.out.symm,Ad hb ae⟩
def RX (w:World) (size:Nat) (A:Option Addr) (n:Nat) (xs:List Value):Prop:=∃ B,B<=w.heap.size/\RD w B size A n xs
theorem Uw (A:Option Addr) (n c:Nat) (p:List Rn) (w:World) (hr:RR w w.heap.size A p) (hn:p.length=n) (hm:E9 p):
 Calls Tryz.prog 159 #[.slice A n c] w fun e w'=>e= .returned (.agg #[.int .u32 (Bw p).1,.int .u8 (Bw p).2])/\Below w.heap.size w w':=by
 subst hn;have cn:0 < p.length:=hm.1;have hl64:p.length<=64:=hm.2.1;obtain⟨b0,o0,rfl,py,er⟩:=RR.cell hr cn;obtain⟨d0,d1,d2⟩:=er (p.length - 1) (by omega);clear er;obtain⟨t,ht⟩:∃ t,t=(p[p.length - 1]'(by omega)).1:=⟨_,rfl⟩;obtain⟨r,gf⟩:∃ t,t=(p[p.length - 1]'(by omega)).2.1:=⟨_,rfl⟩;obtain⟨m,NV⟩:∃ t,t=(p[p.length - 1]'(by omega)).2.2:=⟨_,rfl⟩;rw [<-ht] at d0;rw [<-gf] at d1;rw [<-NV] at d2;have xy:p[p.length - 1]'(by omega)=(t,r,m):=by rw [ht,gf,NV]
 have fy:=Eh hm.2.2.1 _ (List.getElem_mem (h:=by omega):p[p.length - 1]'(by omega)∈p);rw [xy] at fy;obtain⟨e1,e2,e3,e4,e5,e6⟩:=fy;simp only at e1 e2 e3 e4 e5 e6;have dc:Bw p=(t+(m - 1),r):=by
  have hg:p.getLastD (0,0,0)=(t,r,m):=by
   rw [<-xy,List.getLastD_eq_getLast?,List.getLast?_eq_getElem?,List.getElem?_eq_getElem (by omega)];rfl
  unfold Bw;rw [if_pos hm,hg];simp only [R2];rw [show t+m - 1=t+(m - 1) by omega]
 rw [dc];have z0:(0:Int)<=(p.length:Int) - 1:=by omega
 have z1:(p.length:Int) - 1 < p.length:=by omega
 have z2:((p.length:Int) - 1).toNat=p.length - 1:=by omega
 clear ht gf NV xy hm dc;go_enter Tryz.func159,Tryz.ntmps159;go_wp2_with fail;exact bodyPost_ret (v:= .agg #[.int .u32 (t+(m - 1)),.int .u8 r]) (by simp [results,Tryz.results159,go_sem]) rfl ⟨rfl,(Bf _ _).trans ((Bf _ _).mono (by simp))⟩
end Go.Proofs.YtmkpfdcnikgokaaGreat
