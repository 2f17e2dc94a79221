/-
  Texts of this claim, put together: ListRefRead, RdOps. What each theorem asks stands in its statement.
-/
import Derived.Test.YtmkpfdcnikgokaaGreatMd7
import Derived.Test.YtmkpfdcnikgokaaGreatMd19
import Derived.Test.YtmkpfdcnikgokaaGreatMd35
import Derived.Test.YtmkpfdcnikgokaaGreatMd39
set_option linter.unusedVariables false
set_option linter.unusedSimpArgs false
set_option maxRecDepth 100000
set_option maxHeartbeats 25600000
namespace Go.Proofs.YtmkpfdcnikgokaaGreat
open Go.RowKit
theorem RB.restR {w:World} {B:Nat} {A SA:Option Addr} {b:List UInt8} {n c a SC:Nat} (hr:RB w B A b) (hn:b.length=n) (ha:a<=n) (hc:n<=c) (h:c=a/\SA=A/\SC=0\/¬ c=a/\SA=Option.map (fun x=>x.add a) A/\SC=c - a):RB w B SA (b.drop a):=by
 rcases Nat.lt_or_ge a n with ai | hge
 ·obtain⟨b0,o0,rfl,-⟩:=RB.cell hr (by omega);rcases h with⟨h1,-,-⟩ | ⟨-,rfl,-⟩
  ·omega
  ·have:=hr.sub a b.length (Nat.le_refl _);rw [List.take_length] at this;have e:Option.map (fun x:Addr=>x.add a) (some ⟨b0,o0,none⟩)=some ⟨b0,o0+a,none⟩:=by simp [Fk]
   rw [e];exact this
 ·rw [List.drop_eq_nil_of_le (by omega)];exact RD.nil_
theorem Tb (A:Option Addr) (b:List UInt8) (n c:Nat) (w:World) (hr:RB w w.heap.size A b) (hn:b.length=n) (hl:n < 1073741824) (hc:n<=c):
 Calls Tryz.prog 168 #[.slice A n c] w fun e w'=>∃ A' c' L',e= .returned (.tuple #[.slice A' (List.length (α:=Lg) (M5 (Cj b)).1) c',.int .i64 ((M5 (Cj b)).2.1:Int),.int .i64 (M5 (Cj b)).2.2])/\L'.map Bj.op=(M5 (Cj b)).1/\OO w' w.heap.size A' c' L'/\Below w.heap.size w w':=by
 have G0:=Aa (by
  have:=Jq A c b w hr (by omega)
  rwa [hn] at this)
 have HRB:=Aa hr;have Hn:=Aa hn;clear hr hn
 cases hg:Ew b with
 | none=>
   have kd:=Aa (show Cj b=none by
    unfold Cj Eb
    rw [List.drop_zero,hg]
    rfl)
   rw [hg] at G0;clear hg;go_enter Tryz.func168,Tryz.ntmps168;go_wp2_with fail;refine G0.out.mono ?_;rintro e w3 ⟨rfl,rfl⟩;unfold Fp;go_wp2_with fail;refine bodyPost_ret (v:= .tuple #[.slice none 0 0,.int .i64 0,.int .i64 8]) (by simp [results,Tryz.results168,go_sem]) rfl ?_;exact⟨none,0, [],by rw [kd.out];rfl,by rw [kd.out];rfl,OO.nil _ _,Below.refl _ _⟩
 | some q=>
   obtain⟨M,s0⟩:=q;rw [hg] at G0;by_cases hM:(1024:Int) < M
   ·have kd:=Aa (show Cj b=none by
     unfold Cj Eb
     rw [List.drop_zero,hg]
     simp only
     rw [if_pos (.inr hM)]
     rfl)
    clear hg;go_enter Tryz.func168,Tryz.ntmps168;go_wp2_with fail;refine G0.out.mono ?_;rintro e w3 ⟨rfl,rfl⟩;unfold Fp;go_wp2_with fail;refine bodyPost_ret (v:= .tuple #[.slice none 0 0,.int .i64 0,.int .i64 8]) (by simp [results,Tryz.results168,go_sem]) rfl ?_;exact⟨none,0, [],by rw [kd.out];rfl,by rw [kd.out];rfl,OO.nil _ _,Below.refl _ _⟩
   have hM9:(M:Int)<=1024:=by omega
   have Hrd:=Aa (show Cj b=Te b M s0 [] by
    unfold Cj Eb
    rw [List.drop_zero,hg]
    simp only
    rw [if_neg (by omega)]
    show Te b (M:Int).toNat (0+s0) []=_
    rw [Int.toNat_natCast,Nat.zero_add])
   have Hq:=Aa (show s0<=n by
    obtain⟨-,v2,-,-⟩:=D6 hg
    rw [<-Hn.out]
    exact v2)
   clear hg;go_enter Tryz.func168,Tryz.ntmps168;go_wp2_with fail;refine G0.out.mono ?_;rintro e w3 ⟨rfl,rfl⟩;unfold Fp;clear G0;go_wp2_with fail
   go_loopw [6,8,9] (fun t v i wr=>∃ (j a:Nat) (A':Option Addr) (c':Nat) (L':List Bj),j<=M/\a<=n/\t= .int .i64 (a:Int)/\i= .int .i64 (j:Int)/\v= .slice A' j c'/\Hid (L'.length=j)/\Hid (OO wr w.heap.size A' c' L')/\Hid (Cj b=Te b (M - j) a (L'.map Bj.op))/\Below w.heap.size w wr) (fun _ _ i _=>M - (intOf i).toNat)
   case atStart=>exact⟨0,s0,none,0, [],by omega,Hq.out,rfl,rfl,rfl,Aa rfl,Aa (OO.nil _ _),Hrd,Below.refl _ _⟩
   case round=>
    obtain⟨j,a,A',c',L',hj,ha,rfl,rfl,rfl,AQ,KI,HG,hb⟩:=hrel;clear Hrd Hq;by_cases ai:j < M
    ·have z0:(j:Int) < M:=by omega
     have z1:(0:Int)<=a:=by omega
     have z2:(a:Int)<=n:=by omega
     have z3:(n:Int)<=c:=by omega
     have z4:(a:Int)<=c:=by omega
     obtain⟨SA,SC,ma⟩:∃ SA SC,(c=a/\SA=A/\SC=0\/¬ c=a/\SA=Option.map (fun x=>x.add a) A/\SC=c - a):=by
      by_cases h:c=a
      ·exact⟨_,_,.inl ⟨h,rfl,rfl⟩⟩
      ·exact⟨_,_,.inr ⟨h,rfl,rfl⟩⟩
     have G:=Aa (U4 SA (b.drop a) (n - a) SC wr (RB.restR ((RD.below HRB.out hb).more hb.size) Hn.out ha hc ma) (by rw [List.length_drop,Hn.out]) (by omega) (by rcases ma with⟨h1,-,h2⟩ | ⟨h1,-,h2⟩ <;> omega));rw [Ac7] at G
     have OJ:=Aa (show Cj b=match Bz (b.drop a) with
      | none=>none
      | some (k,t,r,p,z,n)=>Te b (M - (j+1)) (a+n) (L'.map Bj.op++ [(k,t,r,p,z)]) by
        rw [HG.out,show M - j=(M - (j+1))+1 by omega]
        rfl)
     clear HG;rcases ma with⟨px,jc,CQ⟩ | ⟨px,jc,CQ⟩
     all_goals
      replace jc:=jc.symm;replace CQ:=CQ.symm;subst jc CQ;go_wp2_with fail
      try rw [show (Value.slice A n a)=Value.slice A n c by rw [px]]
      clear px;refine G.out.mono ?_;rintro e w4 ⟨A4,c4,rfl,gu,aw⟩;have cv:=Ad hb aw;have LV:=Aa (KI.out.below aw);have nw:=Aa (Bq gu hb.size);clear gu KI G
      cases hg:Bz (b.drop a) with
      | none=>
       have kd:=Aa (show Cj b=none by rw [OJ.out,hg]);simp only [Ek];clear hg OJ nw;go_wp2_with fail;refine bodyPost_ret (v:= .tuple #[.slice none 0 0,.int .i64 0,.int .i64 8]) (by simp [results,Tryz.results168,go_sem]) rfl ?_;exact⟨none,0, [],by rw [kd.out];rfl,by rw [kd.out];rfl,OO.nil _ _,Ad cv (Bf _ _)⟩
      | some o=>
       obtain⟨k,t,r,p,z,s⟩:=o;obtain⟨-,-,GZ,-,-,-⟩:=Ki hg;rw [List.length_drop,Hn.out] at GZ;have KK:=Aa (show Cj b=Te b (M - (j+1)) (a+s) (L'.map Bj.op++ [(k,t,r,p,z)]) by rw [OJ.out,hg]);rw [hg] at nw;simp only [Ek] at nw |-;clear hg OJ;obtain⟨w5,b9,F5,fi,bq⟩:=Cv w4 (.int .u8 k) (.int .u32 t) (.int .u8 r) (.slice A4 p.length c4) (.int .i64 z);have jg:=Ad cv bq;have PM:=Aa (LV.out.below bq);have li:=Aa (Ai nw.out bq (Nat.le_refl _));obtain⟨y0,y1,y2,y3,y4⟩:=F5.cells;have z5:IntKind.i64.wrap ((a:Int)+(s:Int))=(a:Int)+(s:Int):=IntWalk.i64_in _ (by omega);clear F5 LV nw;go_wp2_with (at_builtin;refine Jd _ rfl (.tmp 40) (.tmp 42) rfl w.heap.size A' c' j L' AQ.out rfl (PM.out.below (Bf _ _)) ⟨k,t,r,A4,c4,p,z⟩ (Ai li.out (Bf _ _) (Nat.le_refl _)) (some ⟨w5.heap.size,0,none⟩) rfl (Z9 w5 ⟨k,t,r,A4,c4,p,z⟩) (by omega) (Nat.le_trans jg.size (Bf w5 _).size) ?_;intro A3 c3 w6 WN ag ui);go_roundw
       case rel=>
        refine⟨j+1,a+s,A3,c3,L'++ [⟨k,t,r,A4,c4,p,z⟩],by omega,by omega,by go_num,by go_num,rfl,Aa ?_,Aa WN,Aa ?_,(Ad jg (Bf w5 _)).trans ag⟩
        ·rw [List.length_append,AQ.out];rfl
        ·rw [KK.out,List.map_append];rfl
       case measure=>simp [intOf];omega
    ·have z0:¬ (j:Int) < M:=by omega
     obtain rfl:j=M:=by omega
     have HG0:=Aa (show Cj b=some (L'.map Bj.op,a) by
      have:=HG.out
      rw [Nat.sub_self] at this
      exact this)
     clear HG;go_wp2_with fail;refine bodyPost_ret (v:= .tuple #[.slice A' j c',.int .i64 (a:Int),.int .i64 0]) (by simp [results,Tryz.results168,go_sem]) rfl ?_;exact⟨A',c',by rw [HG0.out];simp only [M5];rw [List.length_map,AQ.out],L',by rw [HG0.out];rfl,KI.out,hb⟩
theorem Zy (g:Nat) (st:ES) (w:World) (h:RY w g st) (l9:List Lg) (s9:ES) (hx:Xg st=(l9,s9)):
 Calls Tryz.prog 141 #[.pointer (some ⟨g,0,none⟩)] w fun e w'=>∃ A c L,e= .returned (.slice A (List.length (α:=Bj) L) c)/\L.map Bj.op=l9/\OO w' w.heap.size A c L/\RY w' g s9/\Ah g w w':=by
 obtain⟨A,c,hE,hr,hc,hl,hA⟩:=h;obtain⟨b,bad⟩:=st;simp only at hE hr hc hl;have ai:=hE.lt;obtain⟨c0,c1⟩:=hE.cells;have G:=Aa (Tb A b b.length c w (RD.more hr.1 (Nat.le_of_lt ai)) rfl hl hc)
 cases hg:Cj b with
 | none=>
   rw [hg] at G
   have HV:=Aa (show Xg (b,bad)=([],(b,true)) by
    unfold Xg
    simp [hg])
   rw [HV.out] at hx;simp only [Prod.mk.injEq] at hx;obtain⟨rfl,rfl⟩:=hx;have HE:=Aa hE;have Hr:=Aa (And.intro hr (And.intro hc (And.intro hl hA)));clear hg hE hr hA hc HV;go_enter Tryz.func141,Tryz.ntmps141;go_wp2_with fail;refine G.out.mono ?_;rintro e w2 ⟨A',c',L',rfl,hL,hO,hb⟩;have m7:=Aa (HE.out.below hb);have ta:=Aa (Gp.below Hr.out.1 (hb.mono (Nat.le_of_lt ai)));have td:=Aa (Ah.below hb (Nat.le_of_lt ai));clear c0 c1;obtain⟨c0,c1⟩:=m7.out.cells;have f1:=frozen_of_row w2 g 1 _ _ m7.out;have HF:=Aa (show RY (w2.setCell ⟨g,1,none⟩ (.bool true)) g (b,true) from⟨A,c,m7.out.set1 true,Gp.below ta.out ((Below.refl g w2).setCell (Nat.le_refl _) _),Hr.out.2.1,Hr.out.2.2.1,Hr.out.2.2.2⟩);have HO:=Aa (td.out.trans (Ah.set g 1 w2 (.bool true)));clear hL hO hb;cases bad
   all_goals
    go_wp2_with fail;go_ret;exact⟨none,0, [],rfl,rfl,OO.nil _ _,HF.out,HO.out⟩
 | some q=>
   obtain⟨l,s⟩:=q;obtain⟨-,v1,v2,v3⟩:=Fv hg;rw [hg] at G;simp only [M5] at G;have l8:(l,((b.drop s,bad):ES))=(l9,s9):=by rw [<-hx];unfold Xg;simp [hg]
   simp only [Prod.mk.injEq] at l8;obtain⟨rfl,rfl⟩:=l8;have af:1<=s:=by
    have h1:=congrArg List.length v3;rw [List.length_take,List.length_append] at h1;have h2:1<=(Ap [(l.length:Int)]).length:=by
     rw [show Ap [(l.length:Int)]=nb (l.length:Int).toNat++ [] from rfl,List.length_append];have:=Lv (l.length:Int).toNat;omega
    omega
   obtain⟨b0,o0,rfl,py,-⟩:=RB.cell hr.1 (by omega);obtain⟨SA,SC,ma⟩:∃ (SA:Option Addr) (SC:Nat),(c=s/\SA=some ⟨b0,o0,none⟩/\SC=0\/¬ c=s/\SA=some ⟨b0,o0+s,none⟩/\SC=c - s):=by
    by_cases h:c=s
    ·exact⟨_,_,.inl ⟨h,rfl,rfl⟩⟩
    ·exact⟨_,_,.inr ⟨h,rfl,rfl⟩⟩
   have vd:RB w g SA (b.drop s):=by
    rcases ma with⟨h1,-,-⟩ | ⟨-,rfl,-⟩
    ·rw [List.drop_eq_nil_of_le (by omega)];exact RD.nil_
    ·have:=hr.1.sub s b.length (Nat.le_refl _);rwa [List.take_length] at this
   have xe:Gp w g SA (b.drop s):=⟨vd,fun q hq=>by rcases ma with⟨-,h2,-⟩ | ⟨-,h2,-⟩ <;> (rw [h2] at hq;cases hq;have h9:=hr.2 _ rfl;exact h9)⟩
   have LX:=Aa (show (b.drop s).length<=SC/\(b.drop s).length < 1073741824/\(SA=none->SC=0) from⟨by
    rw [List.length_drop]
    rcases ma with⟨h1,-,h2⟩ | ⟨h1,-,h2⟩ <;> omega,by rw [List.length_drop];omega,fun h=>by rcases ma with⟨-,h2,-⟩ | ⟨-,h2,-⟩ <;> (rw [h2] at h;cases h)⟩)
   have HE:=Aa hE;have Hrs:=Aa xe;have zs0:(0:Int)<=s:=by omega
   have zs1:(s:Int)<=b.length:=by omega
   have zs2:(s:Int)<=c:=by omega
   have zs3:(b.length:Int)<=c:=by omega
   have GB:=Aa hl;clear hg hE hr hA hc hx v3 xe vd v1;go_enter Tryz.func141,Tryz.ntmps141;go_wp2_with fail;refine G.out.mono ?_;rintro e w2 ⟨A',c',L',rfl,hL,hO,hb⟩;have m7:=Aa (HE.out.below hb);have ta:=Aa (Gp.below Hrs.out (hb.mono (Nat.le_of_lt ai)));have td:=Aa (Ah.below hb (Nat.le_of_lt ai));clear c0 c1;obtain⟨c0,c1⟩:=m7.out.cells;have f2:=frozen_of_row _ g 0 _ _ m7.out;have E2:Ti (w2.setCell ⟨g,0,none⟩ (.slice SA (b.length - s) SC)) g SA (b.length - s) SC bad:=m7.out.set0;have HF:=Aa (show RY (w2.setCell ⟨g,0,none⟩ (.slice SA (b.length - s) SC)) g (b.drop s,bad) from⟨SA,SC,by rw [List.length_drop];exact E2,Gp.below ta.out ((Below.refl g w2).setCell (Nat.le_refl _) _),LX.out⟩);have gj:=Ah.set g 0 w2 (.slice SA (b.length - s) SC);have HO:=Aa (td.out.trans gj);have KI:=Aa (hO.at ai gj);have tk:l.length=L'.length:=by rw [<-hL,List.length_map]
   have HL2:=Aa hL;rw [tk];obtain⟨nl,QE⟩:∃ q,q=L'.length:=⟨_,rfl⟩;have Hnl:=Aa QE;rw [<-QE];clear hL hO hb E2 gj tk QE;rcases ma with⟨px,rfl,rfl⟩ | ⟨px,rfl,rfl⟩
   all_goals
    go_wp2_with fail;go_ret;exact⟨A',c',L',by rw [<-Hnl.out];rfl,HL2.out,KI.out,HF.out,HO.out⟩
end Go.Proofs.YtmkpfdcnikgokaaGreat
