/-
  Texts of this claim, put together: RefBytes. What each theorem asks stands in its statement.
-/
import Derived.Test.YtmkpfdcnikgokaaGreatMd27
import Derived.Test.YtmkpfdcnikgokaaGreatMd33
set_option linter.unusedVariables false
set_option linter.unusedSimpArgs false
set_option maxRecDepth 100000
set_option maxHeartbeats 25600000
namespace Go.Proofs.YtmkpfdcnikgokaaGreat
open Go.RowKit
def Agi (v2:Value) (gx:Nat) (t r ix:Int) (iA sA:Option Addr) (ic sc:Nat) (i:List Aq) (s:List Ay):List (Option (Nat×Value)):=
 [some (19,v2),some (20,.pointer (some ⟨gx,4,none⟩)),some (21,.slice iA i.length ic),none,some (23,.pointer (some ⟨gx,6,none⟩)),some (24,.slice sA s.length sc),some (25,.int .i64 (s.length:Int)),none,none]
def Qe:List (Option Nat):= [some 19,some 20,some 21,none,some 23,some 24,some 25,none,none]
theorem Md:CB Qe 0 3 22 7 26 8 3:=⟨by decide,by decide,by decide,by decide,by decide,rfl,rfl,rfl⟩
def Agh (v2:Value) (gx:Nat) (t r ix:Int) (iA sA:Option Addr) (ic sc:Nat) (i:List Aq) (s:List Ay):List (Option (Nat×Value)):=
 [some (44,v2),some (45,.pointer (some ⟨gx,1,none⟩)),some (46,.agg #[.int .u32 t,.int .u8 r]),none,some (48,.pointer (some ⟨gx,4,none⟩)),some (49,.slice iA i.length ic),none,none]
def R5:List (Option Nat):= [some 44,some 45,some 46,none,some 48,some 49,none,none]
theorem Ns:CB R5 0 3 47 6 50 7 2:=⟨by decide,by decide,by decide,by decide,by decide,rfl,rfl,rfl⟩
def Agg (v2:Value) (gx:Nat) (t r ix:Int) (iA sA:Option Addr) (ic sc:Nat) (i:List Aq) (s:List Ay):List (Option (Nat×Value)):=
 [some (53,v2),some (54,.pointer (some ⟨gx,1,none⟩)),some (55,.agg #[.int .u32 t,.int .u8 r]),none,some (57,.pointer (some ⟨gx,3,none⟩)),some (58,.int .i64 ix),none,none]
def R4:List (Option Nat):= [some 53,some 54,some 55,none,some 57,some 58,none,none]
theorem Nr:CB R4 0 3 56 6 59 7 3:=⟨by decide,by decide,by decide,by decide,by decide,rfl,rfl,rfl⟩
theorem Kc (z:Int):nb z.toNat=Ap [z]:=by rw [Bv,Cf,List.append_nil]
theorem Aa1 (t r ix:Int) (iA oA sA:Option Addr) (ic oc sc:Nat) (i:List Aq) (o:List Bj) (s:List Ay) (w:World) (hx:RM w w.heap.size ⟨1,t,r,ix,iA,ic,i,oA,oc,o,sA,sc,s⟩) (ox:Gm ⟨1,t,r,ix,iA,ic,i,oA,oc,o,sA,sc,s⟩) (hm:B8 (Av.mp ⟨1,t,r,ix,iA,ic,i,oA,oc,o,sA,sc,s⟩)):
 Calls Tryz.prog 55 #[Av.val ⟨1,t,r,ix,iA,ic,i,oA,oc,o,sA,sc,s⟩] w (Gu w.heap.size w (Bi (Av.mp ⟨1,t,r,ix,iA,ic,i,oA,oc,o,sA,sc,s⟩))):=by
 obtain⟨w1,au,F1,af,ac⟩:=Am w (.int .u8 1) (.int .u32 t) (.int .u8 r) (.int .i64 ix) (.slice iA i.length ic) (.slice oA o.length oc) (.slice sA s.length sc);obtain⟨gx,an⟩:∃ q,q=w.heap.size:=⟨_,rfl⟩;have av:=Aa an;rw [<-an] at F1;have az:=Aa F1;obtain⟨y0,y1,y2,y3,y4,y5,y6⟩:=F1.cells;obtain⟨B,hB⟩:∃ q,q=w1.heap.size:=⟨_,rfl⟩;have VJ:=Aa hB;have xh:gx < B:=by rw [an,hB];exact af
 have qi:w.heap.size<=B:=by rw [<-an];omega
 have cy:B<=w1.heap.size:=by omega
 have mw:=K5 hm (by simp [Av.mp]);simp only [Av.mp] at mw;obtain⟨⟨q1,q2,q3,q4⟩,⟨ki,ko,ks⟩,-⟩:=ox;simp only at q1 q2 q3 q4 ki ko ks;have AP:=Aa ki;have AO:=Aa ko;have FA:=Aa ks;have BX:=Aa ((hx.below ac).more qi);have tv:=Aa (show ∀ x∈o,Fa x from fun x hx=>mw.2.2 _ (List.mem_map_of_mem hx));have sy:=Aa (show o.length<=1024 by have:=mw.2.1;rw [List.length_map] at this;omega)
 have JY:=Aa (show (B7 o).length<=1300000 by
  unfold B7
  rw [List.length_append]
  have h1:=Fj o (fun x hx=>⟨tv.out x hx,ko x hx⟩)
  have h2:=Bu (Ch ⟨by omega,by have:=sy.out;omega⟩:∀ z∈ [(o.length:Int)],0<=z/\z<=1099511627776)
  have h3:=sy.out
  simp only [List.length_cons,List.length_nil] at h2
  omega)
 have JZ:=Aa (show B7 o=J2 (o.map Bj.op) from La o);clear mw;have dn:=Aa au;have eu:=Aa ac;obtain⟨BB,jq⟩:∃ q,q=Bi (Av.mp ⟨1,t,r,ix,iA,ic,i,oA,oc,o,sA,sc,s⟩):=⟨_,rfl⟩;have uz:=Aa jq;rw [<-jq];clear hx hm F1 au ac af ki ko ks jq an hB;show Calls Tryz.prog 55 #[Ci 1 t r ix (.slice iA i.length ic) (.slice oA o.length oc) (.slice sA s.length sc)] w _;go_enter Tryz.func55,Tryz.ntmps55;go_wp2_with fail;rw [dn.out,<-av.out];refine (J1 B (.slice none 0 0) [] 1 w1 (Ik.nil _ _) cy (by decide) (by decide) (by decide)).mono ?_;rintro e w2 ⟨v2,rfl,j7,ae,qh⟩;rw [List.nil_append,Kc] at j7;have ov:=Aa j7;have db:=Aa (az.out.belowB ae xh);have fh:=Aa ae;have oe:=Aa (show (Ap [(1:Int)]).length<=6 from Bu (Ch ⟨by decide,by decide⟩));have cj:B<=w2.heap.size:=Nat.le_trans cy ae.size;have gm:(Ap [(1:Int)]).length<=500000000:=by have:=oe.out;omega
 clear j7 ae qh az y0 y1 y2 y3 y4 y5 y6;obtain⟨y0,y1,y2,y3,y4,y5,y6⟩:=db.out.cells;go_wp2_with fail;refine (L1 oA o.length oc o w2 ((BX.out.2.1.below fh.out).more cj) rfl sy.out AO.out tv.out).mono ?_;rintro e w7 ⟨v7,rfl,mi,bu⟩;obtain⟨A7,c7,rfl,-,-,-⟩:=Ao mi;have qz:=Aa (fh.out.trans (bu.mono cj));have qf:=(ov.out.below bu).row;have np:(Ap [(1:Int)]).length+(B7 o).length<=1073741824:=by
  have:=oe.out;have:=JY.out;omega
 have IV:B<=w7.heap.size:=Nat.le_trans cj bu.size;obtain⟨q,hq⟩:∃ q,q=Ap [(1:Int)]:=⟨_,rfl⟩;have Hq:=Aa hq;rw [<-hq] at qf np;obtain⟨i0,cr,cb,cu,cq⟩:=info_parts Dq;clear hq ov oe gm y0 y1 y2 y3 y4 y5 y6;go_wp2_with (at_builtin;refine Ar _ rfl (.tmp 60) (.tmp 63) 23 rfl B 5 i0 (.int .u8 0) 1 1 Tryz.underlying23 cr cb cu cq rfl (by decide) _ _ _ rfl qf w7.heap.size A7 (B7 o).length c7 (Cw (B7 o)) rfl (RD.of_own mi) (Ce _) np (by decide) IV ?_;intro v8 w8 gh dj oo;rw [<-Bg,<-List.length_append] at gh;have jj:=Aa gh;have lg:=Aa (qz.out.trans dj);clear gh dj oo);go_ret;have e9:BB=q++B7 o:=by
  rw [uz.out,Hq.out,JZ.out];rfl
 rw [e9];exact Gu.mk ((Ik.of jj.out).less qi) (eu.out.trans (lg.out.mono qi)) (Dm.below (eu.out.trans (lg.out.mono qi)))
theorem Aa0 (t r ix:Int) (iA oA sA:Option Addr) (ic oc sc:Nat) (i:List Aq) (o:List Bj) (s:List Ay) (w:World) (hx:RM w w.heap.size ⟨2,t,r,ix,iA,ic,i,oA,oc,o,sA,sc,s⟩) (ox:Gm ⟨2,t,r,ix,iA,ic,i,oA,oc,o,sA,sc,s⟩) (hm:B8 (Av.mp ⟨2,t,r,ix,iA,ic,i,oA,oc,o,sA,sc,s⟩)):
 Calls Tryz.prog 55 #[Av.val ⟨2,t,r,ix,iA,ic,i,oA,oc,o,sA,sc,s⟩] w (Gu w.heap.size w (Bi (Av.mp ⟨2,t,r,ix,iA,ic,i,oA,oc,o,sA,sc,s⟩))):=by
 obtain⟨w1,au,F1,af,ac⟩:=Am w (.int .u8 2) (.int .u32 t) (.int .u8 r) (.int .i64 ix) (.slice iA i.length ic) (.slice oA o.length oc) (.slice sA s.length sc);obtain⟨gx,an⟩:∃ q,q=w.heap.size:=⟨_,rfl⟩;have av:=Aa an;rw [<-an] at F1;have az:=Aa F1;obtain⟨y0,y1,y2,y3,y4,y5,y6⟩:=F1.cells;obtain⟨B,hB⟩:∃ q,q=w1.heap.size:=⟨_,rfl⟩;have VJ:=Aa hB;have xh:gx < B:=by rw [an,hB];exact af
 have qi:w.heap.size<=B:=by rw [<-an];omega
 have cy:B<=w1.heap.size:=by omega
 obtain⟨⟨q1,q2,q3,q4⟩,⟨ki,ko,ks⟩,-⟩:=ox;simp only at q1 q2 q3 q4 ki ko ks;have AP:=Aa ki;have AO:=Aa ko;have FA:=Aa ks;have BX:=Aa ((hx.below ac).more qi);have vw:=Aa (Io hm (by simp [Av.mp])).1;simp only [Av.mp] at vw;have dn:=Aa au;have eu:=Aa ac;obtain⟨BB,jq⟩:∃ q,q=Bi (Av.mp ⟨2,t,r,ix,iA,ic,i,oA,oc,o,sA,sc,s⟩):=⟨_,rfl⟩;have uz:=Aa jq;rw [<-jq];clear hx hm F1 au ac af ki ko ks jq an hB;show Calls Tryz.prog 55 #[Ci 2 t r ix (.slice iA i.length ic) (.slice oA o.length oc) (.slice sA s.length sc)] w _;go_enter Tryz.func55,Tryz.ntmps55;go_wp2_with fail;rw [dn.out,<-av.out];refine (J1 B (.slice none 0 0) [] 2 w1 (Ik.nil _ _) cy (by decide) (by decide) (by decide)).mono ?_;rintro e w2 ⟨v2,rfl,j7,ae,qh⟩;rw [List.nil_append,Kc] at j7;have ov:=Aa j7;have db:=Aa (az.out.belowB ae xh);have fh:=Aa ae;have oe:=Aa (show (Ap [(2:Int)]).length<=6 from Bu (Ch ⟨by decide,by decide⟩));have cj:B<=w2.heap.size:=Nat.le_trans cy ae.size;have gm:(Ap [(2:Int)]).length<=500000000:=by have:=oe.out;omega
 clear j7 ae qh az y0 y1 y2 y3 y4 y5 y6;obtain⟨y0,y1,y2,y3,y4,y5,y6⟩:=db.out.cells;go_wp2_with fail;refine (O6 B v2 (Ap [2]) iA i.length ic i w2 ov.out cj (BX.out.1.below fh.out) rfl AP.out vw.out gm).mono ?_;rintro e w3 ⟨v3,rfl,FP,ag,ui⟩;have qj:=Aa FP;have dk:=Aa (fh.out.trans ag);clear FP ag ui y0 y1 y2 y3 y4 y5 y6;go_wp2_with fail;go_ret;have e9:BB=Ap [2]++Ap (Az (i.map Aq.pt)):=uz.out;rw [e9];exact Gu.mk (qj.out.less qi) (eu.out.trans (dk.out.mono qi)) (Dm.below (eu.out.trans (dk.out.mono qi)))
theorem Aaz (t r ix:Int) (iA oA sA:Option Addr) (ic oc sc:Nat) (i:List Aq) (o:List Bj) (s:List Ay) (w:World) (hx:RM w w.heap.size ⟨3,t,r,ix,iA,ic,i,oA,oc,o,sA,sc,s⟩) (ox:Gm ⟨3,t,r,ix,iA,ic,i,oA,oc,o,sA,sc,s⟩) (hm:B8 (Av.mp ⟨3,t,r,ix,iA,ic,i,oA,oc,o,sA,sc,s⟩)):
 Calls Tryz.prog 55 #[Av.val ⟨3,t,r,ix,iA,ic,i,oA,oc,o,sA,sc,s⟩] w (Gu w.heap.size w (Bi (Av.mp ⟨3,t,r,ix,iA,ic,i,oA,oc,o,sA,sc,s⟩))):=by
 obtain⟨w1,au,F1,af,ac⟩:=Am w (.int .u8 3) (.int .u32 t) (.int .u8 r) (.int .i64 ix) (.slice iA i.length ic) (.slice oA o.length oc) (.slice sA s.length sc);obtain⟨gx,an⟩:∃ q,q=w.heap.size:=⟨_,rfl⟩;have av:=Aa an;rw [<-an] at F1;have az:=Aa F1;obtain⟨y0,y1,y2,y3,y4,y5,y6⟩:=F1.cells;obtain⟨B,hB⟩:∃ q,q=w1.heap.size:=⟨_,rfl⟩;have VJ:=Aa hB;have xh:gx < B:=by rw [an,hB];exact af
 have qi:w.heap.size<=B:=by rw [<-an];omega
 have cy:B<=w1.heap.size:=by omega
 have Hfw:=Aa (Nd (Kf hm rfl) (Aba ox).2.2.2);obtain⟨⟨q1,q2,q3,q4⟩,⟨ki,ko,ks⟩,-⟩:=ox;simp only at q1 q2 q3 q4 ki ko ks;have AP:=Aa ki;have AO:=Aa ko;have FA:=Aa ks;have BX:=Aa ((hx.below ac).more qi);have vw:=Aa (Io hm (by simp [Av.mp])).1;simp only [Av.mp] at vw;obtain⟨VN,hwa⟩:=I7 (Kf hm rfl);simp only [Av.mp,List.length_map] at VN;clear hwa;have dn:=Aa au;have eu:=Aa ac;obtain⟨BB,jq⟩:∃ q,q=Bi (Av.mp ⟨3,t,r,ix,iA,ic,i,oA,oc,o,sA,sc,s⟩):=⟨_,rfl⟩;have uz:=Aa jq;rw [<-jq];clear hx hm F1 au ac af ki ko ks jq an hB;show Calls Tryz.prog 55 #[Ci 3 t r ix (.slice iA i.length ic) (.slice oA o.length oc) (.slice sA s.length sc)] w _;go_enter Tryz.func55,Tryz.ntmps55;go_wp2_with fail;rw [dn.out,<-av.out];refine (J1 B (.slice none 0 0) [] 3 w1 (Ik.nil _ _) cy (by decide) (by decide) (by decide)).mono ?_;rintro e w2 ⟨v2,rfl,j7,ae,qh⟩;rw [List.nil_append,Kc] at j7;have ov:=Aa j7;have db:=Aa (az.out.belowB ae xh);have fh:=Aa ae;have oe:=Aa (show (Ap [(3:Int)]).length<=6 from Bu (Ch ⟨by decide,by decide⟩));have cj:B<=w2.heap.size:=Nat.le_trans cy ae.size;have gm:(Ap [(3:Int)]).length<=500000000:=by have:=oe.out;omega
 clear j7 ae qh az y0 y1 y2 y3 y4 y5 y6;obtain⟨y0,y1,y2,y3,y4,y5,y6⟩:=db.out.cells;have zf:(Ap [(3:Int)]++Ap (Az (i.map Aq.pt))).length<=500000000:=by
  rw [List.length_append];have:=Gx vw.out;have:=oe.out;omega
 obtain⟨p6,CG⟩:∃ q,Ap [(3:Int)]++Ap (Az (i.map Aq.pt))++nb (s.length:Int).toNat=q:=⟨_,rfl⟩;have Hp6:=Aa CG;obtain⟨ni,XY⟩:∃ q,i.length=q:=⟨_,rfl⟩;have Hni:=Aa XY;clear CG XY;go_wp2_with fail;clear y0 y1 y2 y3 y4 y5 y6;refine Bc (fun done ρ W=>CH w2 B (Agi v2 gx t r ix iA sA ic sc i s) 0 3 22 7 26 8 3 v2 v2 (Ap [3]) (Ap [3]++Ap (Az (i.map Aq.pt))) (Ap [3]++Ap (Az (i.map Aq.pt))++nb (s.length:Int).toNat) done ρ W) (by kernel_rfl) 65 rfl (by kernel_rfl) ?_ ?_ ?_
 ·exact CH.start (Below.refl _ _).drew (Dm.refl _) ov.out rfl
 ·refine⟨?_,?_,?_,?_,?_,?_,?_,?_,?_,trivial⟩
  ·
   intro done ρ W hn hf hd h;have q0:=h.first hn;clear hf;refine Bd rfl fun R9 aj=>?_;go_simp;exact aj _ _ (h.plain Qe rfl Md 0 19 _ rfl)
  ·
   intro done ρ W hn hf hd h;have TD:ρ 1= .pointer (some ⟨gx,0,none⟩):=hf 1 (by kernel_rfl);clear hf;refine Bd rfl fun R9 aj=>?_;go_simp;exact aj _ _ (h.plain Qe rfl Md 1 20 _ rfl)
  ·
   intro done ρ W hn hf hd h;have TG:=h.get 1 20 _ rfl (hd 1 (by kernel_rfl));obtain⟨y0,y1,y2,y3,y4,y5,y6⟩:=(db.out.belowB h.b xh).cells;clear hf;refine Bd rfl fun R9 aj=>?_;go_simp;exact aj _ _ (h.plain Qe rfl Md 2 21 _ rfl)
  ·
   intro done ρ W hn hf hd h;have TH:=h.get 0 19 _ rfl (hd 0 (by kernel_rfl));have TF:=h.get 2 21 _ rfl (hd 2 (by kernel_rfl));have h0:=h.c0 hn;have FU:=hd 0 (by kernel_rfl);clear hf;refine Bd rfl fun R9 aj=>?_;go_simp;refine (O6 B v2 (Ap [3]) iA i.length ic i W h0 (Nat.le_trans cj h.b.size) (BX.out.1.below (fh.out.trans h.b)) rfl AP.out vw.out gm).mono ?_;rintro e w' ⟨v',rfl,gf,de,mj⟩;exact⟨v',rfl,aj _ _ (h.call1 Qe rfl Md hn FU gf de mj)⟩
  ·
   intro done ρ W hn hf hd h;have TD:ρ 1= .pointer (some ⟨gx,0,none⟩):=hf 1 (by kernel_rfl);clear hf;refine Bd rfl fun R9 aj=>?_;go_simp;exact aj _ _ (h.plain Qe rfl Md 4 23 _ rfl)
  ·
   intro done ρ W hn hf hd h;have XP:=h.get 4 23 _ rfl (hd 4 (by kernel_rfl));obtain⟨y0,y1,y2,y3,y4,y5,y6⟩:=(db.out.belowB h.b xh).cells;clear hf;refine Bd rfl fun R9 aj=>?_;go_simp;exact aj _ _ (h.plain Qe rfl Md 5 24 _ rfl)
  ·
   intro done ρ W hn hf hd h;have TE:=h.get 5 24 _ rfl (hd 5 (by kernel_rfl));clear hf;refine Bd rfl fun R9 aj=>?_;go_simp;exact aj _ _ (h.plain Qe rfl Md 6 25 _ rfl)
  ·
   intro done ρ W hn hf hd h;have qd6:=h.get 6 25 _ rfl (hd 6 (by kernel_rfl));have h1:=hd 3 (by kernel_rfl);have ik:=h.c1 h1 hn;clear hf;refine Bd rfl fun R9 aj=>?_;go_simp;refine (J1 B _ (Ap [3]++Ap (Az (i.map Aq.pt))) (s.length:Int) W ik (Nat.le_trans cj h.b.size) (by omega) (by omega) (by omega)).mono ?_;rintro e w' ⟨v',rfl,gf,de,mj⟩;exact⟨v',rfl,aj _ _ (h.call2 Qe rfl Md hn h1 gf de mj)⟩
  ·
   intro done ρ W hn hf hd h;have h2:=hd 7 (by kernel_rfl);clear hf;refine Bd rfl fun R9 aj=>?_;go_simp;exact aj _ _ (h.lay Qe rfl Md h2 rfl)
 ·intro a' w6 cz ay hf h;have bf:Below B w2 w6:=h.b;have j8:=h.k;have mc:=h.c3 (by kernel_rfl);have h1:Ab a' 1= .pointer (some ⟨gx,0,none⟩):=hf 1 (by kernel_rfl);obtain⟨T,D⟩:=a';have hD:D= []:=cz;subst hD;obtain⟨f1,hT,df⟩:∃ f:Nat->Value,T=((List.range 65).map f).toArray/\Ab ⟨T, []⟩=f:=⟨_,Bm T 65 ay,rfl⟩;rw [df] at mc h1;clear df ay hf h cz;simp only [List.range,List.range.loop,List.map] at hT;subst hT;rw [h1];clear h1;rw [Hp6.out] at mc;have ux:=Aa mc;have dx:=Aa (fh.out.trans bf);have bj:=Aa (db.out.belowB bf xh)
  have BV:=Aa (show p6.length<=200000 by
   rw [<-Hp6.out]
   exact Ea (m:=100006) (by
    rw [List.length_append]
    have:=Gx vw.out
    have:=oe.out
    omega) (by omega) (by omega) (by omega))
  clear mc bf j8 ov fh db zf;go_wp2_with fail
  go_loopw [3,4] (fun v i wr=>∃ j:Nat,j<=s.length/\i= .int .i64 (j:Int)/\Hid (Ik wr B v (p6++((s.map Ay.wp).take j).flatMap L8))/\Hid ((p6++((s.map Ay.wp).take j).flatMap L8).length<=200000+210000 * j)/\Hid (Below B w1 wr)/\Hid (MB wr gx (.int .u8 3) (.int .u32 t) (.int .u8 r) (.int .i64 ix) (.slice iA ni ic) (.slice oA o.length oc) (.slice sA s.length sc))) (fun _ i _=>s.length - (intOf i).toNat)
  case atStart=>exact⟨0,by omega,rfl,by simpa using ux,Aa (by have:=BV.out;simp only [List.take_zero,List.flatMap_nil,List.append_nil];omega),dx,by rw [<-Hni.out];exact bj⟩
  case round=>
   obtain⟨j,hj,rfl,uw,EW,DK,HFj⟩:=hrel;clear ux dx bj;obtain⟨z0,z1,z2,z3,z4,z5,z6⟩:=HFj.out.cells;obtain⟨pj,CF⟩:∃ q,q=p6++((s.map Ay.wp).take j).flatMap L8:=⟨_,rfl⟩;have JW:=Aa CF;rw [<-CF] at uw EW;clear CF;by_cases ai:j < s.length
   ·have zz0:(j:Int) < s.length:=by omega
    have zzj:(0:Int)<=j:=by omega
    have UZ:=Aa (BX.out.2.2.below DK.out);obtain⟨bb,bo,rfl,FW,fg⟩:=RW.cell UZ.out (show 0 < s.length by omega);obtain⟨d0,d1,d2,d3,d4,d5,d6⟩:=fg j ai;obtain⟨x,hx⟩:∃ x,s[j]=x:=⟨_,rfl⟩;rw [hx] at d0 d1 d2 d3 d4 d5 d6;have ba:x∈s:=by rw [<-hx];exact List.getElem_mem ai
    have QJ:=Hfw.out x.wp (List.mem_map_of_mem ba);have og:=Aa (UZ.out.2 x ba)
    have qw:=Aa (show pj++L8 x.wp=p6++((s.map Ay.wp).take (j+1)).flatMap L8 by
     rw [List.take_succ_eq_append_getElem (by rw [List.length_map];exact ai),List.flatMap_append,List.getElem_map,hx,JW.out,List.append_assoc]
     simp)
    have Hln:=Aa (show (p6++((s.map Ay.wp).take (j+1)).flatMap L8).length<=200000+210000 * (j+1) by
     rw [<-qw.out]
     obtain⟨o1,o2,o3,o4,-⟩:=FA.out x ba
     have h1:=Z2 (x:=x.wp) ⟨o1,by show x.t<=1099511627776;omega⟩ ⟨o3,by show x.r<=1099511627776;omega⟩ QJ.2.2.2.2.2.1 QJ.2.2.2.2.2.2.1 QJ.2.2.2.2.2.2.2
     have h2:=EW.out
     rw [List.length_append]
     omega)
    have HW:=Aa (show Calls Tryz.prog 96 #[u3,wsv x.t x.r x.rd x.kn (.slice x.hA x.h.length x.hc) (.slice x.sA x.s.length x.sc) (.slice x.gA x.g.length x.gc)] wr _ from Aft B u3 pj x wr uw.out (Nat.le_trans cy DK.out.size) og.out.1 og.out.2.1 og.out.2.2 (FA.out x ba) QJ.2.2.2.2.1 QJ.2.2.2.2.2.1 QJ.2.2.2.2.2.2.1 QJ.2.2.2.2.2.2.2 (by have:=EW.out;omega));clear fg hx ba uw UZ og QJ;go_wp2_with fail;refine HW.out.mono ?_;rintro e w8 ⟨v8,rfl,IQ,dj,-⟩;have YK:=Aa (show Ik w8 B v8 (p6++((s.map Ay.wp).take (j+1)).flatMap L8) by rw [<-qw.out];exact IQ);have lg:=Aa (DK.out.trans dj);have dp:=Aa (HFj.out.belowB dj xh);clear IQ dj d0 d1 d2 d3 d4 d5 d6 z0 z1 z2 z3 z4 z5 z6 HW;go_wp2_with fail;go_roundw
    case rel=>exact⟨j+1,by omega,by go_num,YK,Hln,lg,dp⟩
    case measure=>simp [intOf];omega
   ·obtain rfl:j=s.length:=by omega
    have zz0:¬ (s.length:Int) < s.length:=by omega
    have e9:BB=pj:=by
     rw [uz.out,JW.out,<-Hp6.out,List.take_of_length_le (by rw [List.length_map];exact Nat.le_refl _),Kc];show _++Ap [((s.map Ay.wp).length:Int)]++_=_;rw [List.length_map];rfl
    have He9:=Aa e9;clear e9;go_wp2_with fail;go_ret;rw [He9.out];exact Gu.mk (uw.out.less qi) (eu.out.trans (DK.out.mono qi)) (Dm.below (eu.out.trans (DK.out.mono qi)))
theorem Aay (t r ix:Int) (iA oA sA:Option Addr) (ic oc sc:Nat) (i:List Aq) (o:List Bj) (s:List Ay) (w:World) (hx:RM w w.heap.size ⟨4,t,r,ix,iA,ic,i,oA,oc,o,sA,sc,s⟩) (ox:Gm ⟨4,t,r,ix,iA,ic,i,oA,oc,o,sA,sc,s⟩) (hm:B8 (Av.mp ⟨4,t,r,ix,iA,ic,i,oA,oc,o,sA,sc,s⟩)):
 Calls Tryz.prog 55 #[Av.val ⟨4,t,r,ix,iA,ic,i,oA,oc,o,sA,sc,s⟩] w (Gu w.heap.size w (Bi (Av.mp ⟨4,t,r,ix,iA,ic,i,oA,oc,o,sA,sc,s⟩))):=by
 obtain⟨w1,au,F1,af,ac⟩:=Am w (.int .u8 4) (.int .u32 t) (.int .u8 r) (.int .i64 ix) (.slice iA i.length ic) (.slice oA o.length oc) (.slice sA s.length sc);obtain⟨gx,an⟩:∃ q,q=w.heap.size:=⟨_,rfl⟩;have av:=Aa an;rw [<-an] at F1;have az:=Aa F1;obtain⟨y0,y1,y2,y3,y4,y5,y6⟩:=F1.cells;obtain⟨B,hB⟩:∃ q,q=w1.heap.size:=⟨_,rfl⟩;have VJ:=Aa hB;have xh:gx < B:=by rw [an,hB];exact af
 have qi:w.heap.size<=B:=by rw [<-an];omega
 have cy:B<=w1.heap.size:=by omega
 have mw:=K5 hm (by simp [Av.mp]);simp only [Av.mp] at mw;obtain⟨⟨q1,q2,q3,q4⟩,⟨ki,ko,ks⟩,-⟩:=ox;simp only at q1 q2 q3 q4 ki ko ks;have AP:=Aa ki;have AO:=Aa ko;have FA:=Aa ks;have BX:=Aa ((hx.below ac).more qi);have tv:=Aa (show ∀ x∈o,Fa x from fun x hx=>mw.2.2 _ (List.mem_map_of_mem hx));have sy:=Aa (show o.length<=1024 by have:=mw.2.1;rw [List.length_map] at this;omega)
 have JY:=Aa (show (B7 o).length<=1300000 by
  unfold B7
  rw [List.length_append]
  have h1:=Fj o (fun x hx=>⟨tv.out x hx,ko x hx⟩)
  have h2:=Bu (Ch ⟨by omega,by have:=sy.out;omega⟩:∀ z∈ [(o.length:Int)],0<=z/\z<=1099511627776)
  have h3:=sy.out
  simp only [List.length_cons,List.length_nil] at h2
  omega)
 have JZ:=Aa (show B7 o=J2 (o.map Bj.op) from La o);clear mw;have dn:=Aa au;have eu:=Aa ac;obtain⟨BB,jq⟩:∃ q,q=Bi (Av.mp ⟨4,t,r,ix,iA,ic,i,oA,oc,o,sA,sc,s⟩):=⟨_,rfl⟩;have uz:=Aa jq;rw [<-jq];clear hx hm F1 au ac af ki ko ks jq an hB;show Calls Tryz.prog 55 #[Ci 4 t r ix (.slice iA i.length ic) (.slice oA o.length oc) (.slice sA s.length sc)] w _;go_enter Tryz.func55,Tryz.ntmps55;go_wp2_with fail;rw [dn.out,<-av.out];refine (J1 B (.slice none 0 0) [] 4 w1 (Ik.nil _ _) cy (by decide) (by decide) (by decide)).mono ?_;rintro e w2 ⟨v2,rfl,j7,ae,qh⟩;rw [List.nil_append,Kc] at j7;have ov:=Aa j7;have db:=Aa (az.out.belowB ae xh);have fh:=Aa ae;have oe:=Aa (show (Ap [(4:Int)]).length<=6 from Bu (Ch ⟨by decide,by decide⟩));have cj:B<=w2.heap.size:=Nat.le_trans cy ae.size;have gm:(Ap [(4:Int)]).length<=500000000:=by have:=oe.out;omega
 clear j7 ae qh az y0 y1 y2 y3 y4 y5 y6;obtain⟨y0,y1,y2,y3,y4,y5,y6⟩:=db.out.cells;go_wp2_with fail;refine (L1 oA o.length oc o w2 ((BX.out.2.1.below fh.out).more cj) rfl sy.out AO.out tv.out).mono ?_;rintro e w7 ⟨v7,rfl,mi,bu⟩;obtain⟨A7,c7,rfl,-,-,-⟩:=Ao mi;have qz:=Aa (fh.out.trans (bu.mono cj));have qf:=(ov.out.below bu).row;have np:(Ap [(4:Int)]).length+(B7 o).length<=1073741824:=by
  have:=oe.out;have:=JY.out;omega
 have IV:B<=w7.heap.size:=Nat.le_trans cj bu.size;obtain⟨q,hq⟩:∃ q,q=Ap [(4:Int)]:=⟨_,rfl⟩;have Hq:=Aa hq;rw [<-hq] at qf np;obtain⟨i0,cr,cb,cu,cq⟩:=info_parts Dq;clear hq ov oe gm y0 y1 y2 y3 y4 y5 y6;go_wp2_with (at_builtin;refine Ar _ rfl (.tmp 60) (.tmp 63) 23 rfl B 5 i0 (.int .u8 0) 1 1 Tryz.underlying23 cr cb cu cq rfl (by decide) _ _ _ rfl qf w7.heap.size A7 (B7 o).length c7 (Cw (B7 o)) rfl (RD.of_own mi) (Ce _) np (by decide) IV ?_;intro v8 w8 gh dj oo;rw [<-Bg,<-List.length_append] at gh;have jj:=Aa gh;have lg:=Aa (qz.out.trans dj);clear gh dj oo);go_ret;have e9:BB=q++B7 o:=by
  rw [uz.out,Hq.out,JZ.out];rfl
 rw [e9];exact Gu.mk ((Ik.of jj.out).less qi) (eu.out.trans (lg.out.mono qi)) (Dm.below (eu.out.trans (lg.out.mono qi)))
theorem Aax (t r ix:Int) (iA oA sA:Option Addr) (ic oc sc:Nat) (i:List Aq) (o:List Bj) (s:List Ay) (w:World) (hx:RM w w.heap.size ⟨5,t,r,ix,iA,ic,i,oA,oc,o,sA,sc,s⟩) (ox:Gm ⟨5,t,r,ix,iA,ic,i,oA,oc,o,sA,sc,s⟩) (hm:B8 (Av.mp ⟨5,t,r,ix,iA,ic,i,oA,oc,o,sA,sc,s⟩)):
 Calls Tryz.prog 55 #[Av.val ⟨5,t,r,ix,iA,ic,i,oA,oc,o,sA,sc,s⟩] w (Gu w.heap.size w (Bi (Av.mp ⟨5,t,r,ix,iA,ic,i,oA,oc,o,sA,sc,s⟩))):=by
 obtain⟨w1,au,F1,af,ac⟩:=Am w (.int .u8 5) (.int .u32 t) (.int .u8 r) (.int .i64 ix) (.slice iA i.length ic) (.slice oA o.length oc) (.slice sA s.length sc);obtain⟨gx,an⟩:∃ q,q=w.heap.size:=⟨_,rfl⟩;have av:=Aa an;rw [<-an] at F1;have az:=Aa F1;obtain⟨y0,y1,y2,y3,y4,y5,y6⟩:=F1.cells;obtain⟨B,hB⟩:∃ q,q=w1.heap.size:=⟨_,rfl⟩;have VJ:=Aa hB;have xh:gx < B:=by rw [an,hB];exact af
 have qi:w.heap.size<=B:=by rw [<-an];omega
 have cy:B<=w1.heap.size:=by omega
 obtain⟨⟨q1,q2,q3,q4⟩,⟨ki,ko,ks⟩,-⟩:=ox;simp only at q1 q2 q3 q4 ki ko ks;have AP:=Aa ki;have AO:=Aa ko;have FA:=Aa ks;have BX:=Aa ((hx.below ac).more qi);have vw:=Aa (Io hm (by simp [Av.mp])).1;simp only [Av.mp] at vw;have dn:=Aa au;have eu:=Aa ac;obtain⟨BB,jq⟩:∃ q,q=Bi (Av.mp ⟨5,t,r,ix,iA,ic,i,oA,oc,o,sA,sc,s⟩):=⟨_,rfl⟩;have uz:=Aa jq;rw [<-jq];clear hx hm F1 au ac af ki ko ks jq an hB;show Calls Tryz.prog 55 #[Ci 5 t r ix (.slice iA i.length ic) (.slice oA o.length oc) (.slice sA s.length sc)] w _;go_enter Tryz.func55,Tryz.ntmps55;go_wp2_with fail;rw [dn.out,<-av.out];refine (J1 B (.slice none 0 0) [] 5 w1 (Ik.nil _ _) cy (by decide) (by decide) (by decide)).mono ?_;rintro e w2 ⟨v2,rfl,j7,ae,qh⟩;rw [List.nil_append,Kc] at j7;have ov:=Aa j7;have db:=Aa (az.out.belowB ae xh);have fh:=Aa ae;have oe:=Aa (show (Ap [(5:Int)]).length<=6 from Bu (Ch ⟨by decide,by decide⟩));have cj:B<=w2.heap.size:=Nat.le_trans cy ae.size;have gm:(Ap [(5:Int)]).length<=500000000:=by have:=oe.out;omega
 clear j7 ae qh az y0 y1 y2 y3 y4 y5 y6;obtain⟨y0,y1,y2,y3,y4,y5,y6⟩:=db.out.cells;have zf:(Ap [(5:Int)]++Ap [t,r]).length<=500000000:=by
  rw [<-Jm];have:=oe.out;exact Ea (Ea (k:=12) oe.out q1 (by omega) (by omega)) q3 (by omega) (by omega)
 go_wp2_with fail;refine Bc (fun done ρ W=>CH w2 B (Agh v2 gx t r ix iA sA ic sc i s) 0 3 47 6 50 7 2 v2 (.slice none 0 0) (Ap [5]) (Ap [5]++Ap [t,r]) (Ap [5]++Ap [t,r]++Ap (Az (i.map Aq.pt))) done ρ W) (by kernel_rfl) 65 rfl (by kernel_rfl) ?_ ?_ ?_
 ·exact CH.start (Below.refl _ _).drew (Dm.refl _) ov.out rfl
 ·refine⟨?_,?_,?_,?_,?_,?_,?_,?_,trivial⟩
  ·
   intro done ρ W hn hf hd h;have qs3:ρ 3=v2:=hf 3 (by kernel_rfl);clear hf;refine Bd rfl fun R9 aj=>?_;go_simp;exact aj _ _ (h.plain R5 rfl Ns 0 44 _ rfl)
  ·
   intro done ρ W hn hf hd h;have TD:ρ 1= .pointer (some ⟨gx,0,none⟩):=hf 1 (by kernel_rfl);clear hf;refine Bd rfl fun R9 aj=>?_;go_simp;exact aj _ _ (h.plain R5 rfl Ns 1 45 _ rfl)
  ·
   intro done ρ W hn hf hd h;have TG:=h.get 1 45 _ rfl (hd 1 (by kernel_rfl));obtain⟨y0,y1,y2,y3,y4,y5,y6⟩:=(db.out.belowB h.b xh).cells;clear hf;refine Bd rfl fun R9 aj=>?_;go_simp;exact aj _ _ (h.plain R5 rfl Ns 2 46 _ rfl)
  ·
   intro done ρ W hn hf hd h;have TH:=h.get 0 44 _ rfl (hd 0 (by kernel_rfl));have TF:=h.get 2 46 _ rfl (hd 2 (by kernel_rfl));have h0:=h.c0 hn;have FU:=hd 0 (by kernel_rfl);clear hf;refine Bd rfl fun R9 aj=>?_;go_simp;refine (Vm B v2 (Ap [5]) t r W h0 (Nat.le_trans cj h.b.size) q1 (by omega) q3 (by omega) (by omega)).mono ?_;rintro e w' ⟨v',rfl,gf,de,mj⟩;exact⟨v',rfl,aj _ _ (h.call1 R5 rfl Ns hn FU gf de mj)⟩
  ·
   intro done ρ W hn hf hd h;have TD:ρ 1= .pointer (some ⟨gx,0,none⟩):=hf 1 (by kernel_rfl);clear hf;refine Bd rfl fun R9 aj=>?_;go_simp;exact aj _ _ (h.plain R5 rfl Ns 4 48 _ rfl)
  ·
   intro done ρ W hn hf hd h;have XP:=h.get 4 48 _ rfl (hd 4 (by kernel_rfl));obtain⟨y0,y1,y2,y3,y4,y5,y6⟩:=(db.out.belowB h.b xh).cells;clear hf;refine Bd rfl fun R9 aj=>?_;go_simp;exact aj _ _ (h.plain R5 rfl Ns 5 49 _ rfl)
  ·
   intro done ρ W hn hf hd h;have TE:=h.get 5 49 _ rfl (hd 5 (by kernel_rfl));have h1:=hd 3 (by kernel_rfl);have ik:=h.c1 h1 hn;clear hf;refine Bd rfl fun R9 aj=>?_;go_simp;refine (O6 B _ (Ap [5]++Ap [t,r]) iA i.length ic i W ik (Nat.le_trans cj h.b.size) (BX.out.1.below (fh.out.trans h.b)) rfl AP.out vw.out zf).mono ?_;rintro e w' ⟨v',rfl,gf,de,mj⟩;exact⟨v',rfl,aj _ _ (h.call2 R5 rfl Ns hn h1 gf de mj)⟩
  ·
   intro done ρ W hn hf hd h;have h2:=hd 6 (by kernel_rfl);clear hf;refine Bd rfl fun R9 aj=>?_;go_simp;exact aj _ _ (h.lay R5 rfl Ns h2 rfl)
 ·intro a' w6 cz ay hf h;have bf:Below B w2 w6:=h.b;have j8:=h.k;have mc:=h.c3 (by kernel_rfl);obtain⟨T,D⟩:=a';have hD:D= []:=cz;subst hD;obtain⟨f1,hT,df⟩:∃ f:Nat->Value,T=((List.range 65).map f).toArray/\Ab ⟨T, []⟩=f:=⟨_,Bm T 65 ay,rfl⟩;rw [df] at mc;clear df ay hf h cz;simp only [List.range,List.range.loop,List.map] at hT;subst hT;have p8:=Aa mc;have dx:=Aa (fh.out.trans bf);clear mc bf j8;go_wp2_with fail;go_ret;have e9:BB=Ap [5]++Ap [t,r]++Ap (Az (i.map Aq.pt)):=uz.out;rw [e9];exact Gu.mk (p8.out.less qi) (eu.out.trans (dx.out.mono qi)) (Dm.below (eu.out.trans (dx.out.mono qi)))
theorem Aaw (t r ix:Int) (iA oA sA:Option Addr) (ic oc sc:Nat) (i:List Aq) (o:List Bj) (s:List Ay) (w:World) (hx:RM w w.heap.size ⟨6,t,r,ix,iA,ic,i,oA,oc,o,sA,sc,s⟩) (ox:Gm ⟨6,t,r,ix,iA,ic,i,oA,oc,o,sA,sc,s⟩) (hm:B8 (Av.mp ⟨6,t,r,ix,iA,ic,i,oA,oc,o,sA,sc,s⟩)):
 Calls Tryz.prog 55 #[Av.val ⟨6,t,r,ix,iA,ic,i,oA,oc,o,sA,sc,s⟩] w (Gu w.heap.size w (Bi (Av.mp ⟨6,t,r,ix,iA,ic,i,oA,oc,o,sA,sc,s⟩))):=by
 obtain⟨w1,au,F1,af,ac⟩:=Am w (.int .u8 6) (.int .u32 t) (.int .u8 r) (.int .i64 ix) (.slice iA i.length ic) (.slice oA o.length oc) (.slice sA s.length sc);obtain⟨gx,an⟩:∃ q,q=w.heap.size:=⟨_,rfl⟩;have av:=Aa an;rw [<-an] at F1;have az:=Aa F1;obtain⟨y0,y1,y2,y3,y4,y5,y6⟩:=F1.cells;obtain⟨B,hB⟩:∃ q,q=w1.heap.size:=⟨_,rfl⟩;have VJ:=Aa hB;have xh:gx < B:=by rw [an,hB];exact af
 have qi:w.heap.size<=B:=by rw [<-an];omega
 have cy:B<=w1.heap.size:=by omega
 obtain⟨jz,l8,mw⟩:=Le hm rfl;simp only [Av.mp] at jz l8 mw;have hix:=And.intro jz l8;obtain⟨⟨q1,q2,q3,q4⟩,⟨ki,ko,ks⟩,-⟩:=ox;simp only at q1 q2 q3 q4 ki ko ks;have AP:=Aa ki;have AO:=Aa ko;have FA:=Aa ks;have BX:=Aa ((hx.below ac).more qi);have tv:=Aa (show ∀ x∈o,Fa x from fun x hx=>mw.2.2 _ (List.mem_map_of_mem hx));have sy:=Aa (show o.length<=1024 by have:=mw.2.1;rw [List.length_map] at this;omega)
 have JY:=Aa (show (B7 o).length<=1300000 by
  unfold B7
  rw [List.length_append]
  have h1:=Fj o (fun x hx=>⟨tv.out x hx,ko x hx⟩)
  have h2:=Bu (Ch ⟨by omega,by have:=sy.out;omega⟩:∀ z∈ [(o.length:Int)],0<=z/\z<=1099511627776)
  have h3:=sy.out
  simp only [List.length_cons,List.length_nil] at h2
  omega)
 have JZ:=Aa (show B7 o=J2 (o.map Bj.op) from La o);clear mw;have dn:=Aa au;have eu:=Aa ac;obtain⟨BB,jq⟩:∃ q,q=Bi (Av.mp ⟨6,t,r,ix,iA,ic,i,oA,oc,o,sA,sc,s⟩):=⟨_,rfl⟩;have uz:=Aa jq;rw [<-jq];clear hx hm F1 au ac af ki ko ks jq an hB;show Calls Tryz.prog 55 #[Ci 6 t r ix (.slice iA i.length ic) (.slice oA o.length oc) (.slice sA s.length sc)] w _;go_enter Tryz.func55,Tryz.ntmps55;go_wp2_with fail;rw [dn.out,<-av.out];refine (J1 B (.slice none 0 0) [] 6 w1 (Ik.nil _ _) cy (by decide) (by decide) (by decide)).mono ?_;rintro e w2 ⟨v2,rfl,j7,ae,qh⟩;rw [List.nil_append,Kc] at j7;have ov:=Aa j7;have db:=Aa (az.out.belowB ae xh);have fh:=Aa ae;have oe:=Aa (show (Ap [(6:Int)]).length<=6 from Bu (Ch ⟨by decide,by decide⟩));have cj:B<=w2.heap.size:=Nat.le_trans cy ae.size;have gm:(Ap [(6:Int)]).length<=500000000:=by have:=oe.out;omega
 clear j7 ae qh az y0 y1 y2 y3 y4 y5 y6;obtain⟨y0,y1,y2,y3,y4,y5,y6⟩:=db.out.cells;have zf:(Ap [(6:Int)]++Ap [t,r]).length<=500000000:=by
  rw [<-Jm];have:=oe.out;exact Ea (Ea (k:=12) oe.out q1 (by omega) (by omega)) q3 (by omega) (by omega)
 go_wp2_with fail;clear y0 y1 y2 y3 y4 y5 y6;refine Bc (fun done ρ W=>CH w2 B (Agg v2 gx t r ix iA sA ic sc i s) 0 3 56 6 59 7 3 v2 v2 (Ap [6]) (Ap [6]++Ap [t,r]) (Ap [6]++Ap [t,r]++nb ix.toNat) done ρ W) (by kernel_rfl) 65 rfl (by kernel_rfl) ?_ ?_ ?_
 ·exact CH.start (Below.refl _ _).drew (Dm.refl _) ov.out rfl
 ·refine⟨?_,?_,?_,?_,?_,?_,?_,?_,trivial⟩
  ·
   intro done ρ W hn hf hd h;have q0:=h.first hn;clear hf;refine Bd rfl fun R9 aj=>?_;go_simp;exact aj _ _ (h.plain R4 rfl Nr 0 53 _ rfl)
  ·
   intro done ρ W hn hf hd h;have TD:ρ 1= .pointer (some ⟨gx,0,none⟩):=hf 1 (by kernel_rfl);clear hf;refine Bd rfl fun R9 aj=>?_;go_simp;exact aj _ _ (h.plain R4 rfl Nr 1 54 _ rfl)
  ·
   intro done ρ W hn hf hd h;have TG:=h.get 1 54 _ rfl (hd 1 (by kernel_rfl));obtain⟨y0,y1,y2,y3,y4,y5,y6⟩:=(db.out.belowB h.b xh).cells;clear hf;refine Bd rfl fun R9 aj=>?_;go_simp;exact aj _ _ (h.plain R4 rfl Nr 2 55 _ rfl)
  ·
   intro done ρ W hn hf hd h;have TH:=h.get 0 53 _ rfl (hd 0 (by kernel_rfl));have TF:=h.get 2 55 _ rfl (hd 2 (by kernel_rfl));have h0:=h.c0 hn;have FU:=hd 0 (by kernel_rfl);clear hf;refine Bd rfl fun R9 aj=>?_;go_simp;refine (Vm B v2 (Ap [6]) t r W h0 (Nat.le_trans cj h.b.size) q1 (by omega) q3 (by omega) (by omega)).mono ?_;rintro e w' ⟨v',rfl,gf,de,mj⟩;exact⟨v',rfl,aj _ _ (h.call1 R4 rfl Nr hn FU gf de mj)⟩
  ·
   intro done ρ W hn hf hd h;have TD:ρ 1= .pointer (some ⟨gx,0,none⟩):=hf 1 (by kernel_rfl);clear hf;refine Bd rfl fun R9 aj=>?_;go_simp;exact aj _ _ (h.plain R4 rfl Nr 4 57 _ rfl)
  ·
   intro done ρ W hn hf hd h;have XP:=h.get 4 57 _ rfl (hd 4 (by kernel_rfl));obtain⟨y0,y1,y2,y3,y4,y5,y6⟩:=(db.out.belowB h.b xh).cells;clear hf;refine Bd rfl fun R9 aj=>?_;go_simp;exact aj _ _ (h.plain R4 rfl Nr 5 58 _ rfl)
  ·
   intro done ρ W hn hf hd h;have TE:=h.get 5 58 _ rfl (hd 5 (by kernel_rfl));have h1:=hd 3 (by kernel_rfl);have ik:=h.c1 h1 hn;clear hf;refine Bd rfl fun R9 aj=>?_;go_simp;refine (J1 B _ (Ap [6]++Ap [t,r]) ix W ik (Nat.le_trans cj h.b.size) hix.1 (by omega) (by omega)).mono ?_;rintro e w' ⟨v',rfl,gf,de,mj⟩;exact⟨v',rfl,aj _ _ (h.call2 R4 rfl Nr hn h1 gf de mj)⟩
  ·
   intro done ρ W hn hf hd h;have h2:=hd 6 (by kernel_rfl);clear hf;refine Bd rfl fun R9 aj=>?_;go_simp;exact aj _ _ (h.lay R4 rfl Nr h2 rfl)
 ·intro a' w6 cz ay hf h;have bf:Below B w2 w6:=h.b;have j8:=h.k;have mc:=h.c3 (by kernel_rfl);have h1:Ab a' 1= .pointer (some ⟨gx,0,none⟩):=hf 1 (by kernel_rfl);obtain⟨T,D⟩:=a';have hD:D= []:=cz;subst hD;obtain⟨f1,hT,df⟩:∃ f:Nat->Value,T=((List.range 65).map f).toArray/\Ab ⟨T, []⟩=f:=⟨_,Bm T 65 ay,rfl⟩;rw [df] at mc h1;clear df ay hf h cz;simp only [List.range,List.range.loop,List.map] at hT;subst hT;rw [h1];clear h1;have ux:=Aa mc;have dx:=Aa (fh.out.trans bf);have bj:=Aa (db.out.belowB bf xh);have k8:B<=w6.heap.size:=Nat.le_trans cj bf.size;have BV:=Aa (show (Ap [6]++Ap [t,r]++nb ix.toNat).length<=500000006 from Ea zf hix.1 (by omega) (by omega));clear mc bf j8;obtain⟨z0,z1,z2,z3,z4,z5,z6⟩:=bj.out.cells;go_wp2_with fail;refine (L1 oA o.length oc o w6 ((BX.out.2.1.below dx.out).more k8) rfl sy.out AO.out tv.out).mono ?_;rintro e w7 ⟨v7,rfl,mi,bu⟩;obtain⟨A7,c7,rfl,-,-,-⟩:=Ao mi;have qz:=Aa (dx.out.trans (bu.mono k8));have qf:=(ux.out.below bu).row;have np:(Ap [6]++Ap [t,r]++nb ix.toNat).length+(B7 o).length<=1073741824:=by
   have:=BV.out;have:=JY.out;omega
  have IV:B<=w7.heap.size:=Nat.le_trans k8 bu.size;obtain⟨q,hq⟩:∃ q,q=Ap [6]++Ap [t,r]++nb ix.toNat:=⟨_,rfl⟩;have Hq:=Aa hq;rw [<-hq] at qf np;obtain⟨i0,cr,cb,cu,cq⟩:=info_parts Dq;clear hq ux BV gm zf z0 z1 z2 z3 z4 z5 z6;go_wp2_with (at_builtin;refine Ar _ rfl (.tmp 60) (.tmp 63) 23 rfl B 5 i0 (.int .u8 0) 1 1 Tryz.underlying23 cr cb cu cq rfl (by decide) _ _ _ rfl qf w7.heap.size A7 (B7 o).length c7 (Cw (B7 o)) rfl (RD.of_own mi) (Ce _) np (by decide) IV ?_;intro v8 w8 gh dj oo;rw [<-Bg,<-List.length_append] at gh;have jj:=Aa gh;have lg:=Aa (qz.out.trans dj);clear gh dj oo);go_ret;have e9:BB=q++B7 o:=by
   rw [uz.out,Hq.out,JZ.out];show Ap [6]++Ap [t,r,ix]++_=_;rw [show [t,r,ix]= [t,r]++ [ix] from rfl,Au,Kc ix,List.append_assoc (Ap [6]) (Ap [t,r])];rfl
  rw [e9];exact Gu.mk ((Ik.of jj.out).less qi) (eu.out.trans (lg.out.mono qi)) (Dm.below (eu.out.trans (lg.out.mono qi)))
theorem Pz (x:Av) (w:World) (hx:RM w w.heap.size x) (ox:Gm x) (hm:B8 x.mp):
 Calls Tryz.prog 55 #[x.val] w (Gu w.heap.size w (Bi x.mp)):=by
 obtain⟨k,t,r,ix,iA,ic,i,oA,oc,o,sA,sc,s⟩:=x;have hk:k=1\/k=2\/k=3\/k=4\/k=5\/k=6:=by
  rcases hm.1 with⟨h | h,-⟩ | ⟨h,-⟩ | ⟨h,-⟩ | ⟨h,-⟩ | ⟨h,-⟩ <;> simp only [Av.mp] at h <;> omega
 rcases hk with rfl | rfl | rfl | rfl | rfl | rfl
 ·exact Aa1 t r ix iA oA sA ic oc sc i o s w hx ox hm
 ·exact Aa0 t r ix iA oA sA ic oc sc i o s w hx ox hm
 ·exact Aaz t r ix iA oA sA ic oc sc i o s w hx ox hm
 ·exact Aay t r ix iA oA sA ic oc sc i o s w hx ox hm
 ·exact Aax t r ix iA oA sA ic oc sc i o s w hx ox hm
 ·exact Aaw t r ix iA oA sA ic oc sc i o s w hx ox hm
end Go.Proofs.YtmkpfdcnikgokaaGreat
