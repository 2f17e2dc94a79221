/-
  Texts of this claim, put together: RefWish, ListRefAll. What each theorem asks stands in its statement.
-/
import Derived.Test.YtmkpfdcnikgokaaGreatMd7
import Derived.Test.YtmkpfdcnikgokaaGreatMd31
import Derived.Test.YtmkpfdcnikgokaaGreatMd32
set_option linter.unusedVariables false
set_option linter.unusedSimpArgs false
set_option maxRecDepth 100000
set_option maxHeartbeats 25600000
namespace Go.Proofs.YtmkpfdcnikgokaaGreat
open Go.RowKit
def wsV (v3:Value) (gx:Nat) (hA:Option Addr) (hc:Nat) (h:List Aq) (sA:Option Addr) (sc:Nat) (s:List Aq):List (Option (Nat×Value)):=
 [some (18,v3),some (19,.pointer (some ⟨gx,3,none⟩)),some (20,.slice hA h.length hc),none,some (22,.pointer (some ⟨gx,5,none⟩)),some (23,.slice sA s.length sc),none,none]
def wsS:List (Option Nat):= [some 18,some 19,some 20,none,some 22,some 23,none,none]
theorem Tj:CB wsS 0 3 21 6 24 7 0:=⟨by decide,by decide,by decide,by decide,by decide,rfl,rfl,rfl⟩
theorem Aft (aa:Nat) (v0:Value) (pre:List UInt8) (x:Ay) (w:World) (hp:Ik w aa v0 pre) (ao:aa<=w.heap.size) (hh:RT w aa x.hA x.h) (hs:RT w aa x.sA x.s) (hg:M3 w aa x.gA x.g) (ax:N5 x) (NY:x.kn=true->x.rd=false) (TW:Dj (x.h.map Aq.pt)) (TV:Dj (x.s.map Aq.pt)) (hgl:x.g.length<=128) (ay:pre.length<=400000000):
 Calls Tryz.prog 96 #[v0,x.val] w (Gu aa w (pre++Ap (H7 x.wp))):=by
 obtain⟨t,r,rd,kn,hA,hc,h,sA,sc,s,gA,gc,gl⟩:=x;obtain⟨o1,o2,o3,o4,o5,o6,o7,o8,o9⟩:=ax;simp only at hh hs hg o1 o2 o3 o4 o5 o6 o7 o8 o9 TW TV hgl NY;obtain⟨w1,au,F1,af,ac⟩:=Ct w (.int .u32 t) (.int .u8 r) (.bool rd) (.slice hA h.length hc) (.bool kn) (.slice sA s.length sc) (.slice gA gl.length gc);obtain⟨gx,an⟩:∃ q,q=w.heap.size:=⟨_,rfl⟩;have av:=Aa an;rw [<-an] at F1;have az:=Aa F1;have dn:=Aa au;have BY:=Aa (hp.below ac);have eu:=Aa (show Below aa w w1 from ac.mono ao);have HK1:=Aa (Dm.below ac);have cy:aa<=w1.heap.size:=Nat.le_trans ao ac.size;obtain⟨y0,y1,y2,y3,y4,y5,y6⟩:=F1.cells;have HH:=Aa hh;have HS:=Aa hs;have HG:=Aa hg;have YH:=Aa TW;have Hms:=Aa TV;have Hoh:=Aa o5;have Hos:=Aa o6;obtain⟨st,mu⟩:∃ q,q=U8 rd kn:=⟨_,rfl⟩;have Hwp:=Aa (show H7 (Ay.wp ⟨t,r,rd,kn,hA,hc,h,sA,sc,s,gA,gc,gl⟩)= [t,r,st]++Az (h.map Aq.pt)++Az (s.map Aq.pt)++Ff gl by rw [mu];rfl);obtain⟨N,hN⟩:∃ q,q=H7 (Ay.wp ⟨t,r,rd,kn,hA,hc,h,sA,sc,s,gA,gc,gl⟩):=⟨_,rfl⟩;rw [<-hN] at Hwp |-
 have key:Hid (rd=true/\kn=false/\st=1\/rd=false/\kn=true/\st=2\/rd=false/\kn=false/\st=0):=Aa (by
  rw [mu]
  cases rd <;> cases kn <;> simp [U8] at NY |-)
 have OL:=O4 rd kn;rw [<-mu] at OL;clear mu hN hh hs hg TW TV o5 o6 F1 au ac af hp an NY;show Calls Tryz.prog 96 #[v0,wsv t r rd kn (.slice hA h.length hc) (.slice sA s.length sc) (.slice gA gl.length gc)] w _;go_enter Tryz.func96,Tryz.ntmps96;have Key:=Aa (show rd=true/\kn=false/\(1:Int)=st\/rd=false/\kn=true/\(2:Int)=st\/rd=false/\kn=false/\(0:Int)=st by rcases key.out with⟨h1,h2,h3⟩ | ⟨h1,h2,h3⟩ | ⟨h1,h2,h3⟩ <;> simp [h1,h2,h3]);clear key;rcases Key.out with⟨rfl,rfl,mu⟩ | ⟨rfl,rfl,mu⟩ | ⟨rfl,rfl,mu⟩
 all_goals
  have UW:=Aa mu;clear Key mu;go_wp2_with fail;rw [dn.out,<-av.out];refine (Vm aa v0 pre t r w1 BY.out cy o1 (by omega) o3 (by omega) (by omega)).mono ?_;rintro e w2 ⟨v2,rfl,j7,ae,qh⟩;have ov:=Aa j7
  have oe:=Aa (show (pre++Ap [t,r]).length<=400000012 by
   rw [<-Jm]
   exact Ea (Ea (k:=400000006) ay o1 (by omega) (by omega)) o3 (by omega) (by omega))
  have db:=Aa (show WB w2 gx _ _ _ _ _ _ _ from qh gx _ az.out (fun bh e=>by simp at e));have fh:=Aa (eu.out.trans ae);have KJ:=Aa (HK1.out.trans qh);have cj:aa<=w2.heap.size:=Nat.le_trans cy ae.size;obtain⟨z0,z1,z2,z3,z4,z5,z6⟩:=db.out.cells;clear j7 ae qh BY eu HK1 az y0 y1 y2 y3 y4 y5 y6;go_wp2_with fail;rw [UW.out];refine (J1 aa v2 (pre++Ap [t,r]) st w2 ov.out cj (by omega) (by omega) (by have:=oe.out;omega)).mono ?_;rintro e w3 ⟨v3,rfl,FP,ag,ui⟩;obtain⟨p3,ys⟩:∃ q,q=pre++Ap [t,r]++nb (st:Int).toNat:=⟨_,rfl⟩;have Hp3:=Aa ys;have Hp2:=Aa (show (nb (st:Int).toNat)=Ap [st] by rw [Bv,Cf,List.append_nil]);have YI:=Aa (show p3.length<=400000018 by rw [ys];exact Ea oe.out (by omega) (by omega) (by omega));rw [<-ys] at FP;have qj:=Aa FP;have bz:=Aa (show WB w3 gx _ _ _ _ _ _ _ from ui gx _ db.out (fun bh e=>by simp at e));have dk:=Aa (fh.out.trans ag);have RA:=Aa (KJ.out.trans ui);have yw:aa<=w3.heap.size:=Nat.le_trans cj ag.size;have zf:p3.length<=500000000:=by have:=YI.out;omega
  have hl4:(p3++Ap (Az (h.map Aq.pt))).length<=500000000:=by
   rw [List.length_append];have:=Gx YH.out;have:=YI.out;omega
  obtain⟨p5,VQ⟩:∃ q,p3++Ap (Az (h.map Aq.pt))++Ap (Az (s.map Aq.pt))=q:=⟨_,rfl⟩;have Hp5:=Aa VQ
  have EX:=Aa (show p5.length<=400200018 by
   rw [<-VQ,List.length_append,List.length_append]
   have:=Gx YH.out
   have:=Gx Hms.out
   have:=YI.out
   omega)
  clear FP ys VQ ag ui ov fh KJ db cj z0 z1 z2 z3 z4 z5 z6;go_wp2_with fail;refine Bc (fun done ρ W=>CH w3 aa (wsV v3 gx hA hc h sA sc s) 0 3 21 6 24 7 0 v3 v3 p3 (p3++Ap (Az (h.map Aq.pt))) (p3++Ap (Az (h.map Aq.pt))++Ap (Az (s.map Aq.pt))) done ρ W) (by kernel_rfl) 46 rfl (by kernel_rfl) ?_ ?_ ?_
  ·exact CH.start (Below.refl _ _).drew (Dm.refl _) qj.out rfl
  ·refine⟨?_,?_,?_,?_,?_,?_,?_,?_,trivial⟩
   ·
    intro done ρ W hn hf hd nz;have q0:=nz.first hn;clear hf;refine Bd rfl fun R9 aj=>?_;go_simp;exact aj _ _ (nz.plain wsS rfl Tj 0 18 _ rfl)
   ·
    intro done ρ W hn hf hd nz;have qs3:ρ 3= .pointer (some ⟨gx,0,none⟩):=hf 3 (by kernel_rfl);clear hf;refine Bd rfl fun R9 aj=>?_;go_simp;exact aj _ _ (nz.plain wsS rfl Tj 1 19 _ rfl)
   ·
    intro done ρ W hn hf hd nz;have TG:=nz.get 1 19 _ rfl (hd 1 (by kernel_rfl));obtain⟨y0,y1,y2,y3,y4,y5,y6⟩:=(show WB W gx _ _ _ _ _ _ _ from nz.k gx _ bz.out (fun bh e=>by simp at e)).cells;clear hf;refine Bd rfl fun R9 aj=>?_;go_simp;exact aj _ _ (nz.plain wsS rfl Tj 2 20 _ rfl)
   ·
    intro done ρ W hn hf hd nz;have TH:=nz.get 0 18 _ rfl (hd 0 (by kernel_rfl));have TF:=nz.get 2 20 _ rfl (hd 2 (by kernel_rfl));have h0:=nz.c0 hn;have FU:=hd 0 (by kernel_rfl);clear hf;refine Bd rfl fun R9 aj=>?_;go_simp;refine (O6 aa v3 p3 hA h.length hc h W h0 (Nat.le_trans yw nz.b.size) (HH.out.below (dk.out.trans nz.b)) rfl Hoh.out YH.out zf).mono ?_;rintro e w' ⟨v',rfl,gf,de,mj⟩;exact⟨v',rfl,aj _ _ (nz.call1 wsS rfl Tj hn FU gf de mj)⟩
   ·
    intro done ρ W hn hf hd nz;have qs3:ρ 3= .pointer (some ⟨gx,0,none⟩):=hf 3 (by kernel_rfl);clear hf;refine Bd rfl fun R9 aj=>?_;go_simp;exact aj _ _ (nz.plain wsS rfl Tj 4 22 _ rfl)
   ·
    intro done ρ W hn hf hd nz;have XP:=nz.get 4 22 _ rfl (hd 4 (by kernel_rfl));obtain⟨y0,y1,y2,y3,y4,y5,y6⟩:=(show WB W gx _ _ _ _ _ _ _ from nz.k gx _ bz.out (fun bh e=>by simp at e)).cells;clear hf;refine Bd rfl fun R9 aj=>?_;go_simp;exact aj _ _ (nz.plain wsS rfl Tj 5 23 _ rfl)
   ·
    intro done ρ W hn hf hd nz;have TE:=nz.get 5 23 _ rfl (hd 5 (by kernel_rfl));have h1:=hd 3 (by kernel_rfl);have ik:=nz.c1 h1 hn;clear hf;refine Bd rfl fun R9 aj=>?_;go_simp;refine (O6 aa _ (p3++Ap (Az (h.map Aq.pt))) sA s.length sc s W ik (Nat.le_trans yw nz.b.size) (HS.out.below (dk.out.trans nz.b)) rfl Hos.out Hms.out hl4).mono ?_;rintro e w' ⟨v',rfl,gf,de,mj⟩;exact⟨v',rfl,aj _ _ (nz.call2 wsS rfl Tj hn h1 gf de mj)⟩
   ·
    intro done ρ W hn hf hd nz;have h2:=hd 6 (by kernel_rfl);clear hf;refine Bd rfl fun R9 aj=>?_;go_simp;exact aj _ _ (nz.lay wsS rfl Tj h2 rfl)
  ·intro a' w6 cz ay hf nz;have bf:Below aa w3 w6:=nz.b;have j8:=nz.k;have mc:=nz.c3 (by kernel_rfl);have h3:Ab a' 3= .pointer (some ⟨gx,0,none⟩):=hf 3 (by kernel_rfl);obtain⟨T,D⟩:=a';have hD:D= []:=cz;subst hD;obtain⟨f1,hT,df⟩:∃ f:Nat->Value,T=((List.range 46).map f).toArray/\Ab ⟨T, []⟩=f:=⟨_,Bm T 46 ay,rfl⟩;rw [df] at mc h3;clear df ay hf nz cz;simp only [List.range,List.range.loop,List.map] at hT;subst hT;rw [h3];clear h3;rw [Hp5.out] at mc;have p8:=Aa mc;have dx:=Aa (dk.out.trans bf);have FE:=Aa (RA.out.trans j8);have bj:=Aa (show WB w6 gx _ _ _ _ _ _ _ from j8 gx _ bz.out (fun bh e=>by simp at e));have k8:aa<=w6.heap.size:=Nat.le_trans yw bf.size;obtain⟨z0,z1,z2,z3,z4,z5,z6⟩:=bj.out.cells;clear mc bf j8 yw qj dk RA bz zf hl4;go_wp2_with fail;refine (J1 aa _ p5 (gl.length:Int) w6 p8.out k8 (by omega) (by omega) (by have:=EX.out;omega)).mono ?_;rintro e w7 ⟨v7,rfl,hp7,bu,hk7⟩;have e7:p5++nb (gl.length:Int).toNat=p5++Ap [(gl.length:Int)]:=by rw [Bv,Cf,List.append_nil]
   rw [e7] at hp7;have HP7:=Aa hp7
   have Hl7:=Aa (show (p5++Ap [(gl.length:Int)]).length<=400200024 by
    rw [<-e7]
    exact Ea EX.out (by omega) (by omega) (by omega))
   have qz:=Aa (dx.out.trans bu);have YM:=Aa (FE.out.trans hk7);have dg:=Aa (show WB w7 gx _ _ _ _ _ _ _ from hk7 gx _ bj.out (fun bh e=>by simp at e));clear hp7 bu hk7 e7 p8 dx FE bj k8 z0 z1 z2 z3 z4 z5 z6;go_wp2_with fail
   go_loopw [0,6] (fun v i wr=>∃ k:Nat,k<=gl.length/\i= .int .i64 (k:Int)/\Hid (Ik wr aa v (p5++Ap ((gl.length:Int) :: (gl.take k).map bn)))/\Hid ((p5++Ap ((gl.length:Int) :: (gl.take k).map bn)).length<=400200024+6 * k)/\Hid (Below aa w wr)/\Hid (Dm w wr)/\Hid (∃ B1 B2,WB wr gx (.int .u32 t) (.int .u8 r) (.bool B1) (.slice hA h.length hc) (.bool B2) (.slice sA s.length sc) (.slice gA gl.length gc))) (fun _ i _=>gl.length - (intOf i).toNat)
   case atStart=>exact⟨0,by omega,rfl,HP7,Hl7,qz,YM,Aa ⟨_,_,dg.out⟩⟩
   case round=>
    obtain⟨k,hk,rfl,vy,BU,HBk,DH,HFe⟩:=hrel;obtain⟨B1,B2,hFk⟩:=HFe.out;have YN:=Aa hFk;clear hFk HFe;clear HP7 YM Hl7 qz dg;obtain⟨pk,CE⟩:∃ q,q=p5++Ap ((gl.length:Int) :: (gl.take k).map bn):=⟨_,rfl⟩;have JV:=Aa CE;rw [<-CE] at vy BU;clear CE;obtain⟨z0,z1,z2,z3,z4,z5,z6⟩:=YN.out.cells;by_cases nf:k < gl.length
    ·have zz1:(k:Int) < gl.length:=by omega
     have zk:(0:Int)<=k:=by omega
     obtain⟨b2,o2,rfl,ER,x8⟩:=M3.cell (RD.below HG.out HBk.out) (by omega);have e0:=x8 k nf;obtain⟨y,hy⟩:∃ q,q=gl[k]:=⟨_,rfl⟩;rw [<-hy] at e0
     have qw:=Aa (show pk++nb (bn y).toNat=p5++Ap ((gl.length:Int) :: (gl.take (k+1)).map bn) by
      rw [List.take_succ_eq_append_getElem nf,<-hy,JV.out,List.append_assoc,show nb (bn y).toNat=Ap [bn y] by rw [Bv,Cf,List.append_nil],<-Au,List.map_append]
      rfl)
     have BV:=Aa (show (p5++Ap ((gl.length:Int) :: (gl.take (k+1)).map bn)).length<=400200024+6 * (k+1) by
      rw [<-qw.out]
      exact Ea BU.out (Ln y).1 (by have:=(Ln y).2;omega) (by omega))
     have hP:=Aa (fun (z:Int) (hz:z=bn y)=>J1 aa u0 pk z wr vy.out (Nat.le_trans ao HBk.out.size) (by rw [hz];exact (Ln y).1) (by rw [hz];have:=(Ln y).2;omega) (by have:=BU.out;omega));clear x8 hy vy;cases y
     ·go_wp2_with fail;refine (Ag hP 0 rfl).mono ?_;rintro e w8 ⟨v8,rfl,IQ,dj,oo⟩;have Hp8:=Aa (show Ik w8 aa v8 (p5++Ap ((gl.length:Int) :: (gl.take (k+1)).map bn)) by rw [<-qw.out];exact IQ);have lg:=Aa (HBk.out.trans dj);have YL:=Aa (DH.out.trans oo);have dp:=Aa (show WB w8 gx _ _ _ _ _ _ _ from oo gx _ YN.out (fun bh e=>by simp at e));clear IQ dj oo hP z0 z1 z2 z3 z4 z5 z6 e0;go_wp2_with fail;go_roundw
      case rel=>exact⟨k+1,by omega,by go_num,Hp8,BV,lg,YL,Aa ⟨_,_,dp.out⟩⟩
      case measure=>simp [intOf];omega
     ·go_wp2_with fail;refine (Ag hP 1 rfl).mono ?_;rintro e w8 ⟨v8,rfl,IQ,dj,oo⟩;have Hp8:=Aa (show Ik w8 aa v8 (p5++Ap ((gl.length:Int) :: (gl.take (k+1)).map bn)) by rw [<-qw.out];exact IQ);have lg:=Aa (HBk.out.trans dj);have YL:=Aa (DH.out.trans oo);have dp:=Aa (show WB w8 gx _ _ _ _ _ _ _ from oo gx _ YN.out (fun bh e=>by simp at e));clear IQ dj oo hP z0 z1 z2 z3 z4 z5 z6 e0;go_wp2_with fail;go_roundw
      case rel=>exact⟨k+1,by omega,by go_num,Hp8,BV,lg,YL,Aa ⟨_,_,dp.out⟩⟩
      case measure=>simp [intOf];omega
    ·obtain rfl:k=gl.length:=by omega
     have zz1:¬ (gl.length:Int) < gl.length:=by omega
     have pr:=Aa (show pk=pre++Ap N by
      rw [JV.out,Hwp.out,List.take_of_length_le (Nat.le_refl _),<-Hp5.out,Hp3.out,Hp2.out,show [t,r,st]= [t,r]++ [st] from rfl]
      simp only [Au,List.append_assoc,Ff])
     rw [pr.out] at vy;go_wp2_with fail;go_ret;exact Gu.mk vy.out HBk.out DH.out
theorem L1 (A:Option Addr) (n c:Nat) (L:List Bj) (w:World) (hr:RO w w.heap.size A L) (hn:L.length=n) (hl:n<=1024) (ax:∀ x∈L,Zs x) (hm:∀ x∈L,Fa x):
 Calls Tryz.prog 98 #[.slice A n c] w fun e w'=>∃ v,e= .returned v/\w'.ownsRow w.heap.size 5 1 v (B7 L).length (Cw (B7 L))/\Below w.heap.size w w':=by
 obtain⟨i0,cr,cb,cu,cq⟩:=info_parts Dq;have js:=Aa ax;have Hm:=Aa hm;have Hn:=Aa hn;have HR:=Aa hr;clear ax hn hr hm;go_enter Tryz.func98,Tryz.ntmps98;go_wp2_with fail;refine (Co (n:Int) w (by omega) (by omega)).mono ?_;rintro e w1 ⟨A1,c1,rfl,aq,ac⟩;have e0:nb (n:Int).toNat=Ap [(n:Int)]:=by simp [Ap]
 rw [e0] at aq |-;have SM:=Aa aq;clear aq e0;go_wp2_with fail
 go_loopw [3,4] (fun u i wr=>∃ j:Nat,j<=n/\i= .int .i64 (j:Int)/\Hid (wr.ownsRow w.heap.size 5 1 u (Ap [(n:Int)]++(L.take j).flatMap J5).length (Cw (Ap [(n:Int)]++(L.take j).flatMap J5)))/\Below w.heap.size w wr) (fun _ i _=>n - (intOf i).toNat)
 case atStart=>exact⟨0,by omega,rfl,Aa (by simpa using SM.out),ac⟩
 case round=>
  obtain⟨j,hj,rfl,ah,hb⟩:=hrel;clear SM ac;by_cases ai:j < n
  ·have ap:j < L.length:=by rw [Hn.out];exact ai
   have z0:(j:Int) < n:=by omega
   have zj:(0:Int)<=j:=by omega
   obtain⟨bb,bo,rfl,hB,hC⟩:=RO.cell (HR.out.below hb) (by omega);obtain⟨d0,d1,d2,d3,d4⟩:=hC j ap;obtain⟨x,hx⟩:∃ x,L[j]=x:=⟨_,rfl⟩;rw [hx] at d0 d1 d2 d3 d4;have ba:x∈L:=by rw [<-hx];exact List.getElem_mem ap
   have jb:=js.out x ba;have IS:=Hm.out x ba;have hP:=Aa (My x.k x.t x.r x.z x.A x.p.length x.c x.p wr (((HR.out.below hb).more hb.size).2 x ba) rfl jb.2.2.1 IS jb.2.1);have jk:=Aa (show L.take (j+1)=L.take j++ [x] by rw [List.take_succ_eq_append_getElem ap,hx]);obtain⟨bx,el⟩:∃ l,l=Je x.k x.t x.r x.p x.z:=⟨_,rfl⟩;obtain⟨pre,nq⟩:∃ l,l=Ap [(n:Int)]++(L.take j).flatMap J5:=⟨_,rfl⟩;have NN:=Aa (And.intro el nq);have ay:pre.length+bx.length<=1073741824:=by
    have h1:=Fj (L.take j) fun q hq=>⟨Hm.out q (List.mem_of_mem_take hq),js.out q (List.mem_of_mem_take hq)⟩;rw [List.length_take] at h1;have h2:bx.length<=1200:=by rw [el];exact Sh IS jb
    have h3:(Ap [(n:Int)]).length<=6:=Bu (L:= [(n:Int)]) (by intro a ha;simp only [List.mem_singleton] at ha;omega);rw [nq,List.length_append];omega
   rw [<-el] at hP;rw [<-nq] at ah;clear hC hx ba jb IS el nq;go_wp2_with fail;refine hP.out.mono ?_;rintro e w2 ⟨v2,rfl,cm,ae⟩;obtain⟨A2,c2,rfl,-,-,-⟩:=Ao cm;have eh:=Ai ah.out ae (Nat.le_refl _);have rz:=Ad hb ae;clear d0 d1 d2 d3 d4 ah;go_wp2_with (at_builtin;refine Ba _ rfl (.tmp 14) (.tmp 19) 23 rfl w.heap.size 5 i0 (.int .u8 0) 1 1 Tryz.underlying23 cr cb cu cq rfl (by decide) _ _ _ rfl eh w2.heap.size A2 _ c2 (Cw bx) rfl (RD.of_own cm) (Ce _) ay (by decide) rz.size ?_;intro v3 w3 dm ag);go_roundw
   case rel=>
    refine⟨j+1,by omega,by go_num,Aa ?_,rz.trans ag⟩;rw [jk.out,List.flatMap_append,List.flatMap_singleton,<-List.append_assoc,show J5 x=bx from NN.out.1.symm,<-NN.out.2,Bg,List.length_append];exact dm
   case measure=>simp [intOf];omega
  ·have z0:¬ (j:Int) < n:=by omega
   have IL:L.take j=L:=List.take_of_length_le (by rw [Hn.out];omega);rw [IL,show Ap [(n:Int)]++L.flatMap J5=B7 L by unfold B7;rw [Hn.out]] at ah;clear IL;go_wp2_with fail;go_ret;exact⟨_,rfl,ah.out,hb⟩
end Go.Proofs.YtmkpfdcnikgokaaGreat
