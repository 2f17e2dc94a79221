/-
  Texts of this claim, put together: RefParse. What each theorem asks stands in its statement.
-/
import Derived.Test.YtmkpfdcnikgokaaGreatMd34
import Derived.Test.YtmkpfdcnikgokaaGreatMd35
import Derived.Test.YtmkpfdcnikgokaaGreatMd42
import Derived.Test.YtmkpfdcnikgokaaGreatMd46
set_option linter.unusedVariables false
set_option linter.unusedSimpArgs false
set_option maxRecDepth 100000
set_option maxHeartbeats 25600000
namespace Go.Proofs.YtmkpfdcnikgokaaGreat
open Go.RowKit
theorem Gp.up {w:World} {g g':Nat} {A:Option Addr} {l:List UInt8} (h:Gp w g A l) (hg:g<=g'):Gp w g' A l:=⟨RD.more h.1 hg,fun q hq=>⟨Nat.lt_of_lt_of_le (h.2 q hq).1 hg,(h.2 q hq).2⟩⟩
theorem M0.fill {W:World} {gx aa:Nat} {x:Av} {a b c d e f h:Value} (v0 v1 v2 v3 v4 v5 v6:Value) (hF:MB W gx a b c d e f h) (hx:M0 W aa x):M0 (((((((W.setCell ⟨gx,0,none⟩ v0).setCell ⟨gx,1,none⟩ v1).setCell ⟨gx,2,none⟩ v2).setCell ⟨gx,3,none⟩ v3).setCell ⟨gx,4,none⟩ v4).setCell ⟨gx,5,none⟩ v5).setCell ⟨gx,6,none⟩ v6) aa x:=by
 have F1:=hF.set0 v0;have F2:=F1.set1 v1;have F3:=F2.set2 v2;have F4:=F3.set3 v3;have F5:=F4.set4 v4;have F6:=F5.set5 v5;exact ((((((hx.setM hF 0 v0).setM F1 1 v1).setM F2 2 v2).setM F3 3 v3).setM F4 4 v4).setM F5 5 v5).setM F6 6 v6
def Vo (w w':World) (e:Ending) (b:List UInt8):Prop:=∃ x:Av,e= .returned (.tuple #[x.val,.bool (G1 b).isSome])/\x.mp=(G1 b).getD mp0/\M0 w' w.heap.size x/\Gm x/\Below w.heap.size w w'
theorem Is {w w':World} {b:List UInt8} (h:Jh b=none) (hb:Below w.heap.size w w'):Vo w w' (.returned (.tuple #[Ci 0 0 0 0 (.slice none 0 0) (.slice none 0 0) (.slice none 0 0),.bool false])) b:=by
 rw [Q3] at h;exact⟨m0L,by rw [h];rfl,by rw [h];rfl,⟨Da.nil _ _,OO.nil _ _,Lh.nil _ _⟩,To,hb⟩
theorem U0 {w w':World} {b:List UInt8} {x:Av} {v:Value} (h:Jh b=some x.mp) (hv:v=x.val) (hr:M0 w' w.heap.size x) (ho:Gm x) (hb:Below w.heap.size w w'):Vo w w' (.returned (.tuple #[v,.bool true])) b:=by
 rw [Q3] at h;exact⟨x,by rw [h,hv];rfl,by rw [h];rfl,hr,ho,hb⟩
def paV (g gy:Nat) (A A':Option Addr) (n c c':Nat) (mv:Value) (body b:List UInt8) (same:Bool):List (Option (Nat×Value)):=
 [some (11,.pointer (some ⟨g,0,none⟩)),some (12,.pointer (some ⟨g,0,none⟩)),some (13,.pointer (some ⟨g,1,none⟩)),some (14,.bool false),some (15,.bool false),some (16,.pointer (some ⟨g,0,none⟩)),some (17,.pointer (some ⟨g,0,none⟩)),some (18,.pointer (some ⟨g,0,none⟩)),some (19,.slice A' 0 c'),some (20,.int .i64 0),some (21,.bool false),some (22,.bool false),some (23,.bool false),some (24,mv),some (25,.bool true),some (26,.bool false),some (27,.bool false),some (28,.bool false),some (29,mv),none,some (31,.string ⟨body.toArray⟩),some (32,.slice A n c),some (33,.string ⟨b.toArray⟩),some (34,.bool same),some (35,.bool same)]
def paS:List (Option Nat):= [some 11,some 12,some 13,some 14,some 15,some 16,some 17,some 18,some 19,some 20,some 21,some 22,some 23,some 24,some 25,some 26,some 27,some 28,some 29,none,some 31,some 32,some 33,some 34,some 35]
def PI (w0:World) (L:List (Option (Nat×Value))) (body:List UInt8) (done:Nat->Bool) (ρ:Nat->Value) (W:World):Prop:=
 LI L (fun W=>Below w0.heap.size w0 W) done ρ W/\(done 19=true->Ik W w0.heap.size (ρ 30) body)
theorem PI.plain {w0:World} {L:List (Option (Nat×Value))} {body:List UInt8} {done:Nat->Bool} {ρ:Nat->Value} {W:World} (h:PI w0 L body done ρ W) (hS:L.map (Option.map Prod.fst)=paS) (i d:Nat) (v:Value) (hi:(L[i]?).join=some (d,v)) (h1:i≠19) (h2:d≠30) {W':World} (hb:Below W.heap.size W W'):
 PI w0 L body (Bo done i) (Bn ρ (some d) v) W':=by
 refine⟨h.1.put paS hS (by decide) i d v hi (Ad h.1.1 hb),fun k=>?_⟩;rw [Vb h1.symm] at k;have:Bn ρ (some d) v 30=ρ 30:=by simp [Bn,h2.symm]
 rw [this];exact (h.2 k).below hb
theorem PI.row {w0:World} {L:List (Option (Nat×Value))} {body:List UInt8} {done:Nat->Bool} {ρ:Nat->Value} {W:World} (h:PI w0 L body done ρ W) (hS:L.map (Option.map Prod.fst)=paS) (hi:(L[19]?).join=none) {v:Value} {W':World} (hb:Below W.heap.size W W') (hr:Ik W' W.heap.size v body):
 PI w0 L body (Bo done 19) (Bn ρ (some 30) v) W':=by
 refine⟨⟨Ad h.1.1 hb,fun j s u hj hd=>?_⟩,fun _=>by
  have:Bn ρ (some 30) v 30=v:=by simp [Bn]
  rw [this]
  exact hr.less h.1.1.size⟩
 obtain⟨e1,-,e3⟩:=Sv paS hS hj;have we:j≠19:=fun e=>by rw [e,hi] at hj;cases hj
 have TU:s≠30:=fun e=>by rw [e] at e3;revert e3;decide
 simp only [Bn,TU,if_false];refine h.1.2 j s u hj ?_;simpa [Bo,we] using hd
theorem Aee (A:Option Addr) (n c:Nat) (b:List UInt8) (w:World) (hr:Gp w w.heap.size A b) (hn:b.length=n) (hc:n<=c) (hA:A=none->c=0) (hl:n < 100000):
 Calls Tryz.prog 63 #[.slice A n c] w fun e w'=>Vo w w' e b:=by
 subst hn;obtain⟨w1,au,F1,af,ac⟩:=Am w (.int .u8 0) (.int .u32 0) (.int .u8 0) (.int .i64 0) (.slice none 0 0) (.slice none 0 0) (.slice none 0 0);obtain⟨gx,an⟩:∃ q,q=w.heap.size:=⟨_,rfl⟩;have av:=Aa an;rw [<-an] at F1;have az:=Aa F1;obtain⟨g,hg⟩:∃ q,q=w1.heap.size:=⟨_,rfl⟩;have Hg:=Aa (show g=w.heap.size+1 by rw [hg,<-au,World.size_alloc]);have hxg:gx < g:=by rw [an,hg];exact af
 obtain⟨w2,fc,F2,ae⟩:∃ w2,w1.alloc (.cells #[.slice A b.length c,.bool false] 150)=w2/\Ti w2 w1.heap.size A b.length c false/\Below w1.heap.size w1 w2:=⟨_,rfl,heap_alloc_new _ _,(Below.refl _ _).alloc (Nat.le_refl _) _⟩;rw [<-hg] at F2;have DP:g < w2.heap.size:=F2.lt;have HRd:=Aa (Aen g (b,false) w2 ⟨A,c,F2,((hr.below ac).below (ae.mono (Nat.le_of_lt af))).up (by omega),hc,by simp only;omega,hA⟩);have fh:=Aa (Ad ac ae);have HR0:=Aa hr.1;have db:=Aa (az.out.below ae);have so:w.heap.size<=g:=by rw [<-an];omega
 have dn:=Aa au;have GA:=Aa fc;obtain⟨p0,p1⟩:=F2.cells;have Hhc:=Aa hc;clear hr F1 au af ac fc F2 ae an hg hA hc az;go_enter Tryz.func63,Tryz.ntmps63;go_wp2_with fail;rw [dn.out,<-Hg.out,GA.out,<-av.out];refine HRd.out.mono ?_;rintro e w3 ⟨x,rfl,ba,IN,ZC,hy3,gj⟩;obtain⟨k,t,r,ix,iA,ic,i,oA,oc,o,sA,sc,s⟩:=x;obtain⟨w5,b9,F5,fi,bq⟩:=Am w3 (.int .u8 k) (.int .u32 t) (.int .u8 r) (.int .i64 ix) (.slice iA i.length ic) (.slice oA o.length oc) (.slice sA s.length sc);obtain⟨gy,fe⟩:∃ q,q=w3.heap.size:=⟨_,rfl⟩;have km:=Aa fe;rw [<-fe] at F5;have hgy3:g < gy:=by rw [fe];exact hy3.lt
 have bz:=Aa ((db.out.only gj (by omega)).below bq);have ja:=Aa (Ad (fh.out.trans (gj.1.mono so)) bq);have cl:=Aa F5;have OB:=Aa b9;have rp:=Aa (hy3.below bq);have Hox5:=Aa ((IN.below bq).less (show w.heap.size<=w2.heap.size by omega));have QQ:=Aa (IN.below bq).rm;have yo:=Aa ZC;have YG:=Aa ba;have qo:gy < w5.heap.size:=by rw [fe];exact fi
 clear b9 F5 fi bq hy3 IN ZC ba gj db fh p0 p1 fe;simp only [Av.val];go_wp2_with fail;rw [OB.out,<-km.out];clear OB HRd;have HX:=Aa (show Jh b=if (Ee (b,false)).2.2=false/\(Ee (b,false)).2.1.length=0/\B8 (Av.mp ⟨k,t,r,ix,iA,ic,i,oA,oc,o,sA,sc,s⟩)/\Bi (Av.mp ⟨k,t,r,ix,iA,ic,i,oA,oc,o,sA,sc,s⟩)=b then some (Av.mp ⟨k,t,r,ix,iA,ic,i,oA,oc,o,sA,sc,s⟩) else none by rw [YG.out];rfl);obtain⟨⟨l,bad⟩,mu⟩:∃ q:ES,(Ee (b,false)).2=q:=⟨_,rfl⟩;rw [mu] at HX rp;clear mu YG;have hpa:∀ u,RM (Bs w5 u) (Bs w5 u).heap.size ⟨k,t,r,ix,iA,ic,i,oA,oc,o,sA,sc,s⟩:=fun u=>(QQ.out.below (Af w5 u)).more (Af w5 u).size;obtain⟨A',c',hE,-,-,-,-⟩:=rp.out;obtain⟨d0,d1⟩:=hE.cells;simp only at d0 d1 HX;obtain⟨y0,y1,y2,y3,y4,y5,y6⟩:=cl.out.cells;have hg5:g < w5.heap.size:=by omega
 clear hE;by_cases vj:bad=true\/0 < l.length\/¬ B8 (Av.mp ⟨k,t,r,ix,iA,ic,i,oA,oc,o,sA,sc,s⟩)
 ·have NG:=Aa (show Jh b=none by
   rw [HX.out]
   exact if_neg (fun h=>by
    rcases vj with h1 | h1 | h1
    ·rw [h.1] at h1;cases h1
    ·have:=h.2.1;omega
    ·exact h1 h.2.2.1))
  have P:=Aa (fun u=>show Calls Tryz.prog 53 #[Ci k t r ix (.slice iA i.length ic) (.slice oA o.length oc) (.slice sA s.length sc)] (Bs w5 u) _ from Mm ⟨k,t,r,ix,iA,ic,i,oA,oc,o,sA,sc,s⟩ (Bs w5 u) (hpa u) yo.out);have hcase:bad=true\/(bad=false/\0 < (l.length:Int))\/(bad=false/\l.length=0/\decide (B8 (Av.mp ⟨k,t,r,ix,iA,ic,i,oA,oc,o,sA,sc,s⟩))=false):=by
   cases bad with
   | true=>exact .inl rfl
   | false=>
     by_cases h0:0 < l.length
     ·exact .inr (.inl ⟨rfl,by omega⟩)
     ·rcases vj with h1 | h1 | h1
      ·cases h1
      ·exact (h0 h1).elim
      ·exact .inr (.inr ⟨rfl,by omega,decide_eq_false h1⟩)
  clear hpa vj HX;have key:∀ (Q:Exit->Act->World->Prop),True:=fun _=>trivial;rcases hcase with rfl | ⟨rfl,h0⟩ | ⟨rfl,h0,hmf⟩
  ·refine Aj (by kernel_rfl) (by kernel_rfl) ?_
   repeat (
    refine WQ.step (fun K hK=>?_)
    go_simp
    first
     | (refine hK _ ?_;clear hK K)
     | (apply Exists.intro
        refine⟨fun _=>?_,hK _ ?_⟩
        (first
          | (go_at_call 53;with_reducible exact Al (Ag P _)))
        clear hK K))
   refine WQ.nil ?_;intro u;have fw:=Ad ja.out (Af w5 u);have bj:=Aa (bz.out.below (Af w5 u));obtain⟨f0,f1,f2,f3,f4,f5,f6,FZ,ch⟩:=Fl bj.out fw (w:=w) (Nat.le_of_eq av.out.symm);obtain⟨z0,z1,z2,z3,z4,z5,z6⟩:=bj.out.cells;have da:=Aa FZ;have fb:=Aa ch;clear FZ ch;go_wp2_with fail;obtain⟨v0,v1,v2,v3,v4,v5,v6⟩:=da.out.cells;refine bodyPost_ret (v:= .tuple #[Ci 0 0 0 0 (.slice none 0 0) (.slice none 0 0) (.slice none 0 0),.bool false]) (by simp [results,Tryz.results63,go_sem,v0,v1,v2,v3,v4,v5,v6]) rfl ?_;exact Is NG.out fb.out
  ·have h0n:0 < l.length:=by omega
   refine Aj (by kernel_rfl) (by kernel_rfl) ?_
   repeat (
    refine WQ.step (fun K hK=>?_)
    go_simp
    first
     | (refine hK _ ?_;clear hK K)
     | (apply Exists.intro
        refine⟨fun _=>?_,hK _ ?_⟩
        (first
          | (go_at_call 53;with_reducible exact Al (Ag P _)))
        clear hK K))
   refine WQ.nil ?_;intro u;have fw:=Ad ja.out (Af w5 u);have bj:=Aa (bz.out.below (Af w5 u));obtain⟨f0,f1,f2,f3,f4,f5,f6,FZ,ch⟩:=Fl bj.out fw (w:=w) (Nat.le_of_eq av.out.symm);obtain⟨z0,z1,z2,z3,z4,z5,z6⟩:=bj.out.cells;have da:=Aa FZ;have fb:=Aa ch;clear FZ ch;go_wp2_with fail;obtain⟨v0,v1,v2,v3,v4,v5,v6⟩:=da.out.cells;refine bodyPost_ret (v:= .tuple #[Ci 0 0 0 0 (.slice none 0 0) (.slice none 0 0) (.slice none 0 0),.bool false]) (by simp [results,Tryz.results63,go_sem,v0,v1,v2,v3,v4,v5,v6]) rfl ?_;exact Is NG.out fb.out
  ·rw [hmf] at P;rw [h0] at d0;refine Aj (by kernel_rfl) (by kernel_rfl) ?_
   repeat (
    refine WQ.step (fun K hK=>?_)
    go_simp
    first
     | (refine hK _ ?_;clear hK K)
     | (apply Exists.intro
        refine⟨fun _=>?_,hK _ ?_⟩
        (first
          | (go_at_call 53;with_reducible exact Al (Ag P _)))
        clear hK K))
   refine WQ.nil ?_;intro u;have fw:=Ad ja.out (Af w5 u);have bj:=Aa (bz.out.below (Af w5 u));obtain⟨f0,f1,f2,f3,f4,f5,f6,FZ,ch⟩:=Fl bj.out fw (w:=w) (Nat.le_of_eq av.out.symm);obtain⟨z0,z1,z2,z3,z4,z5,z6⟩:=bj.out.cells;have da:=Aa FZ;have fb:=Aa ch;clear FZ ch;go_wp2_with fail;obtain⟨v0,v1,v2,v3,v4,v5,v6⟩:=da.out.cells;refine bodyPost_ret (v:= .tuple #[Ci 0 0 0 0 (.slice none 0 0) (.slice none 0 0) (.slice none 0 0),.bool false]) (by simp [results,Tryz.results63,go_sem,v0,v1,v2,v3,v4,v5,v6]) rfl ?_;exact Is NG.out fb.out
 ·obtain⟨h1,h2,h3⟩:bad=false/\l.length=0/\B8 (Av.mp ⟨k,t,r,ix,iA,ic,i,oA,oc,o,sA,sc,s⟩):=by
   refine⟨?_,?_,?_⟩
   ·cases bad with
    | true=>exact (vj (.inl rfl)).elim
    | false=>rfl
   ·rcases Nat.eq_zero_or_pos l.length with h | h
    ·exact h
    ·exact (vj (.inr (.inl h))).elim
   ·exact Classical.byContradiction fun h=>vj (.inr (.inr h))
  subst h1;rw [h2] at d0;obtain⟨body,MG⟩:∃ q,Bi (Av.mp ⟨k,t,r,ix,iA,ic,i,oA,oc,o,sA,sc,s⟩)=q:=⟨_,rfl⟩
  have P:=Aa (fun W (hW:Below w5.heap.size w5 W)=>show Calls Tryz.prog 53 #[Ci k t r ix (.slice iA i.length ic) (.slice oA o.length oc) (.slice sA s.length sc)] W fun e w'=>e= .returned (.bool true)/\Below W.heap.size W w' from by
   have:=Mm ⟨k,t,r,ix,iA,ic,i,oA,oc,o,sA,sc,s⟩ W ((QQ.out.below hW).more hW.size) yo.out
   rw [decide_eq_true h3] at this
   exact this)
  have P2:=Aa (fun W (hW:Below w5.heap.size w5 W)=>show Calls Tryz.prog 55 #[Ci k t r ix (.slice iA i.length ic) (.slice oA o.length oc) (.slice sA s.length sc)] W (Gu W.heap.size W body) from by
   rw [<-MG]
   exact Pz ⟨k,t,r,ix,iA,ic,i,oA,oc,o,sA,sc,s⟩ W ((QQ.out.below hW).more hW.size) yo.out h3)
  have DF:=Aa (show Jh b=if body=b then some (Av.mp ⟨k,t,r,ix,iA,ic,i,oA,oc,o,sA,sc,s⟩) else none by
   rw [HX.out,<-MG]
   by_cases hb:Bi (Av.mp ⟨k,t,r,ix,iA,ic,i,oA,oc,o,sA,sc,s⟩)=b
   ·rw [if_pos hb,if_pos ⟨rfl,h2,h3,hb⟩]
   ·rw [if_neg hb,if_neg (fun h=>hb h.2.2.2)])
  have tm:=Aa (show RB w5 w5.heap.size A b from (RD.below HR0.out ja.out).more ja.out.size);obtain⟨same,SE⟩:∃ q,(body == b)= !q:=⟨!(body == b),by simp⟩;have UW:=Aa SE;clear MG h2 h3 vj HX SE hpa;refine Bc (fun done ρ W=>PI w5 (paV g gy A A' b.length c c' (Ci k t r ix (.slice iA i.length ic) (.slice oA o.length oc) (.slice sA s.length sc)) body b same) body done ρ W) (by kernel_rfl) 38 rfl (by kernel_rfl) ?_ ?_ ?_
  ·exact⟨LI.start _ (Below.refl _ _).drew,fun k=>by cases k⟩
  ·refine⟨?_,?_,?_,?_,?_,?_,?_,?_,?_,?_,?_,?_,?_,?_,?_,?_,?_,?_,?_,?_,?_,?_,?_,?_,?_,trivial⟩
   ·
    intro done ρ W hn hf hd h;have qs4:ρ 4= .pointer (some ⟨g,0,none⟩):=hf 4 (by kernel_rfl);clear hf;refine Bd rfl fun R9 aj=>?_;go_simp;exact aj _ _ (h.plain rfl 0 11 _ rfl (by decide) (by decide) (Below.refl _ _))
   ·
    intro done ρ W hn hf hd h;have TH:=h.1.get 0 11 _ rfl (hd 0 (by kernel_rfl));clear hf;refine Bd rfl fun R9 aj=>?_;go_simp;exact aj _ _ (h.plain rfl 1 12 _ rfl (by decide) (by decide) (Below.refl _ _))
   ·
    intro done ρ W hn hf hd h;have TG:=h.1.get 1 12 _ rfl (hd 1 (by kernel_rfl));clear hf;refine Bd rfl fun R9 aj=>?_;go_simp;exact aj _ _ (h.plain rfl 2 13 _ rfl (by decide) (by decide) (Below.refl _ _))
   ·
    intro done ρ W hn hf hd h;have TF:=h.1.get 2 13 _ rfl (hd 2 (by kernel_rfl));have d0:=Eo h.1.1 hg5 d0;have d1:=Eo h.1.1 hg5 d1;clear hf;refine Bd rfl fun R9 aj=>?_;go_simp;exact aj _ _ (h.plain rfl 3 14 _ rfl (by decide) (by decide) (Below.refl _ _))
   ·
    intro done ρ W hn hf hd h;have qd3:=h.1.get 3 14 _ rfl (hd 3 (by kernel_rfl));clear hf;refine Bd rfl fun R9 aj=>?_;go_simp;exact aj _ _ (h.plain rfl 4 15 _ rfl (by decide) (by decide) (Below.refl _ _))
   ·
    intro done ρ W hn hf hd h;have qs4:ρ 4= .pointer (some ⟨g,0,none⟩):=hf 4 (by kernel_rfl);have qg:=h.1.get 4 15 _ rfl (hd 4 (by kernel_rfl));clear hf;refine Bd (Du rfl rfl qg) fun R9 aj=>?_;go_simp;exact aj _ _ (h.plain rfl 5 16 _ rfl (by decide) (by decide) (Below.refl _ _))
   ·
    intro done ρ W hn hf hd h;have TE:=h.1.get 5 16 _ rfl (hd 5 (by kernel_rfl));have qg:=h.1.get 4 15 _ rfl (hd 4 (by kernel_rfl));clear hf;refine Bd (Du rfl rfl qg) fun R9 aj=>?_;go_simp;exact aj _ _ (h.plain rfl 6 17 _ rfl (by decide) (by decide) (Below.refl _ _))
   ·
    intro done ρ W hn hf hd h;have qd6:=h.1.get 6 17 _ rfl (hd 6 (by kernel_rfl));have qg:=h.1.get 4 15 _ rfl (hd 4 (by kernel_rfl));clear hf;refine Bd (Du rfl rfl qg) fun R9 aj=>?_;go_simp;exact aj _ _ (h.plain rfl 7 18 _ rfl (by decide) (by decide) (Below.refl _ _))
   ·
    intro done ρ W hn hf hd h;have qd7:=h.1.get 7 18 _ rfl (hd 7 (by kernel_rfl));have d0:=Eo h.1.1 hg5 d0;have d1:=Eo h.1.1 hg5 d1;have qg:=h.1.get 4 15 _ rfl (hd 4 (by kernel_rfl));clear hf;refine Bd (Du rfl rfl qg) fun R9 aj=>?_;go_simp;exact aj _ _ (h.plain rfl 8 19 _ rfl (by decide) (by decide) (Below.refl _ _))
   ·
    intro done ρ W hn hf hd h;have qd8:=h.1.get 8 19 _ rfl (hd 8 (by kernel_rfl));have qg:=h.1.get 4 15 _ rfl (hd 4 (by kernel_rfl));clear hf;refine Bd (Du rfl rfl qg) fun R9 aj=>?_;go_simp;exact aj _ _ (h.plain rfl 9 20 _ rfl (by decide) (by decide) (Below.refl _ _))
   ·
    intro done ρ W hn hf hd h;have qd9:=h.1.get 9 20 _ rfl (hd 9 (by kernel_rfl));have qg:=h.1.get 4 15 _ rfl (hd 4 (by kernel_rfl));clear hf;refine Bd (Du rfl rfl qg) fun R9 aj=>?_;go_simp;exact aj _ _ (h.plain rfl 10 21 _ rfl (by decide) (by decide) (Below.refl _ _))
   ·
    intro done ρ W hn hf hd h;have XP:=h.1.get 4 15 _ rfl (hd 4 (by kernel_rfl));have qd10:=h.1.get 10 21 _ rfl (hd 10 (by kernel_rfl));clear hf;refine Bd rfl fun R9 aj=>?_;go_simp;exact aj _ _ (h.plain rfl 11 22 _ rfl (by decide) (by decide) (Below.refl _ _))
   ·
    intro done ρ W hn hf hd h;have qd11:=h.1.get 11 22 _ rfl (hd 11 (by kernel_rfl));clear hf;refine Bd rfl fun R9 aj=>?_;go_simp;exact aj _ _ (h.plain rfl 12 23 _ rfl (by decide) (by decide) (Below.refl _ _))
   ·
    intro done ρ W hn hf hd h;have qs5:ρ 5= .pointer (some ⟨gy,0,none⟩):=hf 5 (by kernel_rfl);have y0:=Eo h.1.1 qo y0;have y1:=Eo h.1.1 qo y1;have y2:=Eo h.1.1 qo y2;have y3:=Eo h.1.1 qo y3;have y4:=Eo h.1.1 qo y4;have y5:=Eo h.1.1 qo y5;have y6:=Eo h.1.1 qo y6;have qg:=h.1.get 12 23 _ rfl (hd 12 (by kernel_rfl));clear hf;refine Bd (Du rfl rfl qg) fun R9 aj=>?_;go_simp;exact aj _ _ (h.plain rfl 13 24 _ rfl (by decide) (by decide) (Below.refl _ _))
   ·
    intro done ρ W hn hf hd h;have qd13:=h.1.get 13 24 _ rfl (hd 13 (by kernel_rfl));have qg:=h.1.get 12 23 _ rfl (hd 12 (by kernel_rfl));clear hf;refine Bd (Du rfl rfl qg) fun R9 aj=>?_;go_simp;refine (Ag P W h.1.1).mono ?_;rintro e w' ⟨rfl,de⟩;exact⟨_,rfl,aj _ _ (h.plain rfl 14 25 _ rfl (by decide) (by decide) de)⟩
   ·
    intro done ρ W hn hf hd h;have qd14:=h.1.get 14 25 _ rfl (hd 14 (by kernel_rfl));have qg:=h.1.get 12 23 _ rfl (hd 12 (by kernel_rfl));clear hf;refine Bd (Du rfl rfl qg) fun R9 aj=>?_;go_simp;exact aj _ _ (h.plain rfl 15 26 _ rfl (by decide) (by decide) (Below.refl _ _))
   ·
    intro done ρ W hn hf hd h;have qd12:=h.1.get 12 23 _ rfl (hd 12 (by kernel_rfl));have qd15:=h.1.get 15 26 _ rfl (hd 15 (by kernel_rfl));clear hf;refine Bd rfl fun R9 aj=>?_;go_simp;exact aj _ _ (h.plain rfl 16 27 _ rfl (by decide) (by decide) (Below.refl _ _))
   ·
    intro done ρ W hn hf hd h;have qd16:=h.1.get 16 27 _ rfl (hd 16 (by kernel_rfl));clear hf;refine Bd rfl fun R9 aj=>?_;go_simp;exact aj _ _ (h.plain rfl 17 28 _ rfl (by decide) (by decide) (Below.refl _ _))
   ·
    intro done ρ W hn hf hd h;have qs5:ρ 5= .pointer (some ⟨gy,0,none⟩):=hf 5 (by kernel_rfl);have y0:=Eo h.1.1 qo y0;have y1:=Eo h.1.1 qo y1;have y2:=Eo h.1.1 qo y2;have y3:=Eo h.1.1 qo y3;have y4:=Eo h.1.1 qo y4;have y5:=Eo h.1.1 qo y5;have y6:=Eo h.1.1 qo y6;have qg:=h.1.get 17 28 _ rfl (hd 17 (by kernel_rfl));clear hf;refine Bd (Du rfl rfl qg) fun R9 aj=>?_;go_simp;exact aj _ _ (h.plain rfl 18 29 _ rfl (by decide) (by decide) (Below.refl _ _))
   ·
    intro done ρ W hn hf hd h;have qd18:=h.1.get 18 29 _ rfl (hd 18 (by kernel_rfl));have qg:=h.1.get 17 28 _ rfl (hd 17 (by kernel_rfl));clear hf;refine Bd (Du rfl rfl qg) fun R9 aj=>?_;go_simp;refine (Ag P2 W h.1.1).mono ?_;rintro e w' ⟨v',rfl,gf,de,mj⟩;exact⟨v',rfl,aj _ _ (h.row rfl rfl de gf)⟩
   ·
    intro done ρ W hn hf hd h;have jf:=h.2 (hd 19 (by kernel_rfl));obtain⟨A1,c1,e1,ah⟩:=jf;rw [e1] at ah;have hcv:=Cs (P:=Tryz.prog) (RD.of_own ah:RB W W.heap.size A1 body) Tryz.underlying23 Tryz.underlying5 Tryz.underlying9 c1;clear ah;have qg:=h.1.get 17 28 _ rfl (hd 17 (by kernel_rfl));clear hf;refine Bd (Du rfl rfl qg) fun R9 aj=>?_;go_simp;exact aj _ _ (h.plain rfl 20 31 _ rfl (by decide) (by decide) (Below.refl _ _))
   ·
    intro done ρ W hn hf hd h;have qs0:ρ 0= .slice A b.length c:=hf 0 (by kernel_rfl);have qg:=h.1.get 17 28 _ rfl (hd 17 (by kernel_rfl));clear hf;refine Bd (Du rfl rfl qg) fun R9 aj=>?_;go_simp;exact aj _ _ (h.plain rfl 21 32 _ rfl (by decide) (by decide) (Below.refl _ _))
   ·
    intro done ρ W hn hf hd h;have qd21:=h.1.get 21 32 _ rfl (hd 21 (by kernel_rfl));have hcv:=Cs (P:=Tryz.prog) (show RB W W.heap.size A b from (RD.below tm.out h.1.1).more h.1.1.size) Tryz.underlying23 Tryz.underlying5 Tryz.underlying9 c;have qg:=h.1.get 17 28 _ rfl (hd 17 (by kernel_rfl));clear hf;refine Bd (Du rfl rfl qg) fun R9 aj=>?_;go_simp;exact aj _ _ (h.plain rfl 22 33 _ rfl (by decide) (by decide) (Below.refl _ _))
   ·
    intro done ρ W hn hf hd h;have qd20:=h.1.get 20 31 _ rfl (hd 20 (by kernel_rfl));have qd22:=h.1.get 22 33 _ rfl (hd 22 (by kernel_rfl));have mu:=UW.out;have qg:=h.1.get 17 28 _ rfl (hd 17 (by kernel_rfl));clear hf;refine Bd (Du rfl rfl qg) fun R9 aj=>?_;go_simp;exact aj _ _ (h.plain rfl 23 34 _ rfl (by decide) (by decide) (Below.refl _ _))
   ·
    intro done ρ W hn hf hd h;have qd17:=h.1.get 17 28 _ rfl (hd 17 (by kernel_rfl));have qd23:=h.1.get 23 34 _ rfl (hd 23 (by kernel_rfl));clear hf;refine Bd rfl fun R9 aj=>?_;go_simp;exact aj _ _ (h.plain rfl 24 35 _ rfl (by decide) (by decide) (Below.refl _ _))
  ·intro a' w6 cz ay hf h;have bf:=h.1.1;have ul:=h.1.get 24 35 _ rfl (by kernel_rfl);have h2:Ab a' 2= .pointer (some ⟨gx,0,none⟩):=hf 2 (by kernel_rfl);have h5:Ab a' 5= .pointer (some ⟨gy,0,none⟩):=hf 5 (by kernel_rfl);obtain⟨T,D⟩:=a';have hD:D= []:=cz;subst hD;obtain⟨f,hT,df⟩:∃ f:Nat->Value,T=((List.range 38).map f).toArray/\Ab ⟨T, []⟩=f:=⟨_,Bm T 38 ay,rfl⟩;rw [df] at h2 h5 ul;clear df ay hf h cz;simp only [List.range,List.range.loop,List.map] at hT;subst hT;rw [h2,h5,ul];clear h2 h5 ul P P2;have fw:=Ad ja.out bf;have bj:=Aa (bz.out.below bf);have GF:=Aa (cl.out.below bf);have Hr6:=Aa (Hox5.out.below bf);obtain⟨z0,z1,z2,z3,z4,z5,z6⟩:=bj.out.cells;clear y0 y1 y2 y3 y4 y5 y6 d0 d1
   cases same with
   | true=>
     have NG:=Aa (show Jh b=none by
      rw [DF.out,if_neg]
      intro hq
      have:=UW.out
      rw [hq] at this
      simp at this)
     obtain⟨f0,f1,f2,f3,f4,f5,f6,FZ,ch⟩:=Fl bj.out fw (w:=w) (Nat.le_of_eq av.out.symm);have da:=Aa FZ;have fb:=Aa ch;clear FZ ch DF;go_wp2_with fail;obtain⟨v0,v1,v2,v3,v4,v5,v6⟩:=da.out.cells;refine bodyPost_ret (v:= .tuple #[Ci 0 0 0 0 (.slice none 0 0) (.slice none 0 0) (.slice none 0 0),.bool false]) (by simp [results,Tryz.results63,go_sem,v0,v1,v2,v3,v4,v5,v6]) rfl ?_;exact Is NG.out fb.out
   | false=>
     have hyes:=Aa (show Jh b=some (Av.mp ⟨k,t,r,ix,iA,ic,i,oA,oc,o,sA,sc,s⟩) by
      rw [DF.out,if_pos]
      have:=UW.out
      simpa using this)
     obtain⟨y0,y1,y2,y3,y4,y5,y6⟩:=GF.out.cells;obtain⟨f0,f1,f2,f3,f4,f5,f6,FZ,ch⟩:=Kb (.int .u8 k) (.int .u32 t) (.int .u8 r) (.int .i64 ix) (.slice iA i.length ic) (.slice oA o.length oc) (.slice sA s.length sc) bj.out fw (Nat.le_of_eq av.out.symm);have da:=Aa FZ;have fb:=Aa ch;have HZ6:=Aa (Hr6.out.fill (.int .u8 k) (.int .u32 t) (.int .u8 r) (.int .i64 ix) (.slice iA i.length ic) (.slice oA o.length oc) (.slice sA s.length sc) bj.out);clear FZ ch DF;go_wp2_with fail;obtain⟨v0,v1,v2,v3,v4,v5,v6⟩:=da.out.cells;refine bodyPost_ret (v:= .tuple #[Ci k t r ix (.slice iA i.length ic) (.slice oA o.length oc) (.slice sA s.length sc),.bool true]) (by simp [results,Tryz.results63,go_sem,v0,v1,v2,v3,v4,v5,v6]) rfl ?_;exact U0 (x:=⟨k,t,r,ix,iA,ic,i,oA,oc,o,sA,sc,s⟩) hyes.out rfl HZ6.out yo.out fb.out
end Go.Proofs.YtmkpfdcnikgokaaGreat
