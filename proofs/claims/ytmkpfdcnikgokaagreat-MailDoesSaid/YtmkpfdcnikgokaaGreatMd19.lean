/-
  Texts of this claim, put together: ListRead, EyeOps, CrcMath, CrcTable, CrcSum. What each theorem asks stands in its statement.
-/
import Derived.Test.YtmkpfdcnikgokaaGreatRows
import Derived.Laws.CopyOwn
import Derived.Test.YtmkpfdcnikgokaaGreatMd1
import Derived.Test.YtmkpfdcnikgokaaGreatMd8
import Derived.Test.YtmkpfdcnikgokaaGreatMd10
import Derived.Test.YtmkpfdcnikgokaaGreatMd18
set_option linter.unusedVariables false
set_option linter.unusedSimpArgs false
set_option maxRecDepth 100000
set_option maxHeartbeats 25600000
namespace Go.Proofs.YtmkpfdcnikgokaaGreat
open Go.RowKit
theorem RB.rest0 {w:World} {B:Nat} {A SA:Option Addr} {b:List UInt8} {n c a SC:Nat} (hr:RB w B A b) (hn:b.length=n) (ha:a<=n) (hc:n<=c) (h:c=a/\SA=A/\SC=0\/¬ c=a/\SA=Option.map (fun x=>x.add a) A/\SC=c - a):RB w B SA (b.drop a):=by
 rcases Nat.lt_or_ge a n with ai | hge
 ·obtain⟨b0,o0,rfl,-⟩:=RB.cell hr (by omega);rcases h with⟨h1,-,-⟩ | ⟨-,rfl,-⟩
  ·omega
  ·have:=hr.sub a b.length (Nat.le_refl _);rw [List.take_length] at this;have e:Option.map (fun x:Addr=>x.add a) (some ⟨b0,o0,none⟩)=some ⟨b0,o0+a,none⟩:=by simp [Fk]
   rw [e];exact this
 ·rw [List.drop_eq_nil_of_le (by omega)];exact RD.nil_
theorem Zj (A:Option Addr) (b:List UInt8) (n c:Nat) (w:World) (hr:RB w w.heap.size A b) (hn:b.length=n) (hl:n < 1073741824) (hc:n<=c) (hA:A=none->c=0):
 Calls Tryz.prog 102 #[.slice A n c] w fun e w'=>∃ A' c' L',e= .returned (.tuple #[.slice A' (List.length (α:=Lg) (M5 (Cj b)).1) c',.int .i64 ((M5 (Cj b)).2.1:Int),.int .i64 (M5 (Cj b)).2.2])/\L'.map Bj.op=(M5 (Cj b)).1/\OO w' w.heap.size A' c' L'/\Below w.heap.size w w':=by
 obtain⟨w2,fc⟩:∃ w2,w.alloc (.cells #[.slice A n c,.int .i64 0,.bool false] 178)=w2:=⟨_,rfl⟩;have sw:Fr w2 w.heap.size A n c 0 false:=by rw [<-fc];exact heap_alloc_new _ _
 have ae:Below w.heap.size w w2:=by rw [<-fc];exact Bf _ _
 have hN:=Aa (Xu A b n c w.heap.size 0 0 1024 w2 sw ((RD.below hr ae).more ae.size) hn hl (Nat.zero_le _) hc hA);have HRB:=Aa hr;have HA:=Aa hA;have Hn:=Aa hn;clear sw hr hn hA
 cases hx:Eb b 0 0 1024 with
 | none=>
   have Hx:=Aa hx;have kd:=Aa (show Cj b=none by unfold Cj;rw [hx];rfl);clear hx;go_enter Tryz.func102,Tryz.ntmps102;go_wp2_with fail;refine hN.out.mono ?_;rintro e w3 ⟨x,a',bd,rfl,su,gj,-,-,hq⟩;obtain⟨rfl,rfl⟩:=hq Hx.out;have ag:Below w.heap.size w w3:=ae.trans gj.1;obtain⟨r0,r1,r2⟩:=su.cells;clear su gj fc;go_wp2_with fail
   go_loopw [2,14] (fun u i wr=>u= .slice none 0 0/\i= .int .i64 0/\wr=w3) (fun _ _ _=>0)
   case atStart=>exact⟨rfl,rfl,rfl⟩
   obtain⟨rfl,rfl,rfl⟩:=hrel;go_wp2_with fail;refine bodyPost_ret (v:= .tuple #[.slice none 0 0,.int .i64 0,.int .i64 8]) (by simp [results,Tryz.results102,go_sem]) rfl ?_;exact⟨none,0, [],by rw [kd.out];rfl,by rw [kd.out];rfl,OO.nil _ _,ag⟩
 | some y=>
   obtain⟨x0,q⟩:=y;obtain⟨x1,x2,-,-,-,x3,-⟩:=Em hx;obtain⟨M,rfl⟩:∃ M:Nat,x0=M:=⟨x0.toNat,by omega⟩;have Hx:=Aa hx;have Hrd:=Aa (show Cj b=Te b M q [] by unfold Cj;rw [hx];rfl);have Hq:=Aa (show q<=n by rw [<-Hn.out];exact x3 (Nat.zero_le _));clear hx x3;go_enter Tryz.func102,Tryz.ntmps102;go_wp2_with fail;refine hN.out.mono ?_;rintro e w3 ⟨x,a0,bd,rfl,su,gj,-,hq,-⟩;obtain⟨rfl,rfl,rfl⟩:=hq _ _ Hx.out;have ag:Below w.heap.size w w3:=ae.trans gj.1;have uv:=Aa su;clear su gj fc hN ae hq;go_wp2_with fail
   go_loopw [2,14] (fun v i wr=>∃ (j a:Nat) (A':Option Addr) (c':Nat) (L':List Bj),j<=M/\a<=n/\i= .int .i64 (j:Int)/\v= .slice A' j c'/\Hid (L'.length=j)/\Hid (Fr wr w.heap.size A n c a false)/\Hid (OO wr w.heap.size A' c' L')/\Hid (Cj b=Te b (M - j) a (L'.map Bj.op))/\Below w.heap.size w wr) (fun _ i _=>M - (intOf i).toNat)
   case atStart=>exact⟨0,a0,none,0, [],by omega,Hq.out,rfl,rfl,Aa rfl,uv,Aa (OO.nil _ _),Hrd,ag⟩
   case round=>
    obtain⟨j,a,A',c',L',hj,ha,rfl,rfl,AQ,HR,KI,HG,hb⟩:=hrel;clear uv ag Hrd Hq;by_cases ai:j < M
    ·have z0:(j:Int) < M:=by omega
     have z1:(0:Int)<=a:=by omega
     have z2:(a:Int)<=n:=by omega
     have z3:(n:Int)<=c:=by omega
     have z4:(a:Int)<=c:=by omega
     have GN:=HR.out.lt;obtain⟨SA,SC,ma⟩:∃ SA SC,(c=a/\SA=A/\SC=0\/¬ c=a/\SA=Option.map (fun x=>x.add a) A/\SC=c - a):=by
      by_cases h:c=a
      ·exact⟨_,_,.inl ⟨h,rfl,rfl⟩⟩
      ·exact⟨_,_,.inr ⟨h,rfl,rfl⟩⟩
     have G:=Aa (Abz SA (b.drop a) (n - a) SC wr (RB.rest0 ((RD.below HRB.out hb).more hb.size) Hn.out ha hc ma) (by rw [List.length_drop,Hn.out]) (by omega) (by rcases ma with⟨h1,-,h2⟩ | ⟨h1,-,h2⟩ <;> omega) (by
      intro e
      rcases ma with⟨-,-,h2⟩ | ⟨-,h1,h2⟩
      ·exact h2
      ·rw [h1,Option.map_eq_none_iff] at e
       have:=HA.out e
       omega))
     have OJ:=Aa (show Cj b=match Bz (b.drop a) with
      | none=>none
      | some (k,t,r,p,z,n)=>Te b (M - (j+1)) (a+n) (L'.map Bj.op++ [(k,t,r,p,z)]) by
        rw [HG.out,show M - j=(M - (j+1))+1 by omega]
        rfl)
     obtain⟨r0,r1,r2⟩:=HR.out.cells;clear HG;rcases ma with⟨px,jc,CQ⟩ | ⟨px,jc,CQ⟩
     all_goals
      replace jc:=jc.symm;replace CQ:=CQ.symm;subst jc CQ;go_wp2_with fail;refine G.out.mono ?_;rintro e w4 ⟨A4,c4,rfl,gu,aw⟩;have cv:=Ad hb aw;have VB:=Aa (HR.out.below aw);have LV:=Aa (KI.out.below aw);have nw:=Aa (Bq gu hb.size);clear gu HR KI r0 r1 r2 G
      cases hg:Bz (b.drop a) with
      | none=>
       have kd:=Aa (show Cj b=none by rw [OJ.out,hg]);simp only [Ek];clear hg OJ nw;go_wp2_with fail;refine bodyPost_ret (v:= .tuple #[.slice none 0 0,.int .i64 0,.int .i64 8]) (by simp [results,Tryz.results102,go_sem]) rfl ?_;exact⟨none,0, [],by rw [kd.out];rfl,by rw [kd.out];rfl,OO.nil _ _,Ad cv (Bf _ _)⟩
      | some o=>
       obtain⟨k,t,r,p,z,s⟩:=o;obtain⟨-,-,GZ,-,-,-⟩:=Ki hg;rw [List.length_drop,Hn.out] at GZ;have KK:=Aa (show Cj b=Te b (M - (j+1)) (a+s) (L'.map Bj.op++ [(k,t,r,p,z)]) by rw [OJ.out,hg]);rw [hg] at nw;simp only [Ek] at nw |-;clear hg OJ;obtain⟨w5,b9,F5,fi,bq⟩:=Cv w4 (.int .u8 k) (.int .u32 t) (.int .u8 r) (.slice A4 p.length c4) (.int .i64 z);have jg:=Ad cv bq;have HR5:=Aa (VB.out.below bq);have PM:=Aa (LV.out.below bq);have li:=Aa (Ai nw.out bq (Nat.le_refl _));obtain⟨gb,QI⟩:∃ g,g=w4.heap.size:=⟨_,rfl⟩;rw [<-QI] at F5;have cl:=Aa F5;have dh:=Aa (show gb≠w.heap.size by rw [QI];have:=aw.size;omega);have z5:IntKind.i64.wrap ((a:Int)+(s:Int))=(a:Int)+(s:Int):=IntWalk.i64_in _ (by omega);clear F5 VB LV nw;go_wp2_with fail;rw [<-QI];clear b9 QI fi GN;refine Bc (fun done ρ W=>LI (Afr w.heap.size a s (.slice A' j c') ⟨k,t,r,A4,c4,p,z⟩) (fun _=>True) done ρ W/\RJ w gb w.heap.size A n c a s A' j c' L' ⟨k,t,r,A4,c4,p,z⟩ done ρ W) (by kernel_rfl) 53 (by rfl) (by kernel_rfl) ?_ ?_ ?_
       ·exact⟨LI.start _ trivial,⟨jg.drew,fun _=>rfl,fun _=>cl.out,fun e=>(by cases e),fun _=>⟨PM.out,li.out⟩,fun e=>(by cases e),fun _=>HR5.out,fun e=>(by cases e),fun e=>(by cases e),fun e=>(by cases e),fun e=>(by cases e),fun e=>(by cases e),fun e=>(by cases e),fun e=>(by cases e)⟩⟩
       ·refine⟨?_,?_,?_,?_,?_,?_,?_,?_,?_,?_,?_,?_,?_,?_,?_,trivial⟩
        ·
         intro done ρ W hn hf hd h;have q5:ρ 5= .pointer (some ⟨w.heap.size,0,none⟩):=hf 5 (by kernel_rfl);clear hf;refine Bd rfl fun R hR=>?_;go_simp;exact hR _ _ ⟨h.1.put Il rfl (by decide) 0 30 _ rfl trivial,h.2.plain 0 30 _ (by decide) (by decide) (by decide) (by decide) (by decide) (by decide) (by decide) (fun e=>by cases e)⟩
        ·
         intro done ρ W hn hf hd h
         have q2:=h.2.e2 (by
          cases hx:done 11 with
          | false=>rfl
          | true=>rw [h.2.z41 (h.2.z11 hx)] at hn;cases hn)
         clear hf;refine Bd rfl fun R hR=>?_;go_simp;exact hR _ _ ⟨h.1.put Il rfl (by decide) 1 31 _ rfl trivial,h.2.plain 1 31 _ (by decide) (by decide) (by decide) (by decide) (by decide) (by decide) (by decide) (fun e=>by cases e)⟩
        ·
         intro done ρ W hn hf hd h;have q6:ρ 6= .pointer (some ⟨gb,0,none⟩):=hf 6 (by kernel_rfl);obtain⟨y0,y1,y2,y3,y4⟩:=(h.2.f2 hn).cells;clear hf;refine Bd rfl fun R hR=>?_;go_simp;exact hR _ _ ⟨h.1.put Il rfl (by decide) 2 32 _ rfl trivial,h.2.plain 2 32 _ (by decide) (by decide) (by decide) (by decide) (by decide) (by decide) (by decide) (fun e=>by cases e)⟩
        ·
         intro done ρ W hn hf hd h;have q32:=h.1.get 2 32 _ rfl (hd 2 (by kernel_rfl));clear hf;refine Bd rfl fun R hR=>?_;go_simp;exact hR _ _ ⟨h.1.skip Il rfl 3 33 _ rfl rfl trivial,h.2.row hn (hd 2 (by kernel_rfl))⟩
        ·
         intro done ρ W hn hf hd h;have q31:=h.1.get 1 31 _ rfl (hd 1 (by kernel_rfl));obtain⟨g,k1,k2⟩:=h.2.m3 (hd 3 (by kernel_rfl)) hn;obtain⟨k3,k4⟩:=h.2.m4 hn;clear hf;refine .inl ⟨rfl,Bt fun R hR=>?_⟩;refine Ui (.tmp 31) (.tmp 33) rfl q31 k1 AQ.out k3 k4 k2 (by omega) h.2.b.size fun A2 c2 W' j1 j2 j3=>hR _ _ ⟨h.1.skip Il rfl 4 34 _ rfl rfl trivial,h.2.app hn (hd 3 (by kernel_rfl)) (hd 1 (by kernel_rfl)) j1 j2 j3⟩
        ·
         intro done ρ W hn hf hd h;have q5:ρ 5= .pointer (some ⟨w.heap.size,0,none⟩):=hf 5 (by kernel_rfl);clear hf;refine Bd rfl fun R hR=>?_;go_simp;exact hR _ _ ⟨h.1.put Il rfl (by decide) 5 35 _ rfl trivial,h.2.plain 5 35 _ (by decide) (by decide) (by decide) (by decide) (by decide) (by decide) (by decide) (fun e=>by cases e)⟩
        ·
         intro done ρ W hn hf hd h;have q35:=h.1.get 5 35 _ rfl (hd 5 (by kernel_rfl));clear hf;refine Bd rfl fun R hR=>?_;go_simp;exact hR _ _ ⟨h.1.put Il rfl (by decide) 6 36 _ rfl trivial,h.2.plain 6 36 _ (by decide) (by decide) (by decide) (by decide) (by decide) (by decide) (by decide) (fun e=>by cases e)⟩
        ·
         intro done ρ W hn hf hd h;have q36:=h.1.get 6 36 _ rfl (hd 6 (by kernel_rfl));clear hf;refine Bd rfl fun R hR=>?_;go_simp;exact hR _ _ ⟨h.1.put Il rfl (by decide) 7 37 _ rfl trivial,h.2.plain 7 37 _ (by decide) (by decide) (by decide) (by decide) (by decide) (by decide) (by decide) (fun e=>by cases e)⟩
        ·
         intro done ρ W hn hf hd h;have q37:=h.1.get 7 37 _ rfl (hd 7 (by kernel_rfl))
         obtain⟨y0,y1,y2⟩:=(h.2.r1 (by
          cases hx:done 14 with
          | false=>rfl
          | true=>rw [h.2.z14 hx] at hn;cases hn)).cells
         clear hf;refine Bd rfl fun R hR=>?_;go_simp;exact hR _ _ ⟨h.1.put Il rfl (by decide) 8 38 _ rfl trivial,h.2.plain 8 38 _ (by decide) (by decide) (by decide) (by decide) (by decide) (by decide) (by decide) (fun e=>by cases e)⟩
        ·
         intro done ρ W hn hf hd h;have q7:ρ 7= .int .i64 (s:Int):=hf 7 (by kernel_rfl);clear hf;refine Bd rfl fun R hR=>?_;go_simp;exact hR _ _ ⟨h.1.put Il rfl (by decide) 9 39 _ rfl trivial,h.2.plain 9 39 _ (by decide) (by decide) (by decide) (by decide) (by decide) (by decide) (by decide) (fun e=>by cases e)⟩
        ·
         intro done ρ W hn hf hd h;have q38:=h.1.get 8 38 _ rfl (hd 8 (by kernel_rfl));have q39:=h.1.get 9 39 _ rfl (hd 9 (by kernel_rfl));clear hf;refine Bd rfl fun R hR=>?_;go_simp;exact hR _ _ ⟨h.1.put Il rfl (by decide) 10 40 _ rfl trivial,h.2.plain 10 40 _ (by decide) (by decide) (by decide) (by decide) (by decide) (by decide) (by decide) (fun _=>hd 8 (by kernel_rfl))⟩
        ·
         intro done ρ W hn hf hd h;obtain⟨A2,c2,k1,-,-⟩:=h.2.n4 (hd 4 (by kernel_rfl));clear hf;refine Bd rfl fun R hR=>?_;go_simp;exact hR _ _ ⟨h.1.skip Il rfl 11 2 _ rfl rfl trivial,h.2.asg (hd 4 (by kernel_rfl)) k1.symm⟩
        ·
         intro done ρ W hn hf hd h;have q30:=h.1.get 0 30 _ rfl (hd 0 (by kernel_rfl));clear hf;refine Bd rfl fun R hR=>?_;go_simp;exact hR _ _ ⟨h.1.put Il rfl (by decide) 12 41 _ rfl trivial,h.2.plain 12 41 _ (by decide) (by decide) (by decide) (by decide) (by decide) (by decide) (by decide) (fun e=>by cases e)⟩
        ·
         intro done ρ W hn hf hd h;have q41:=h.1.get 12 41 _ rfl (hd 12 (by kernel_rfl));clear hf;refine Bd rfl fun R hR=>?_;go_simp;exact hR _ _ ⟨h.1.put Il rfl (by decide) 13 42 _ rfl trivial,h.2.plain 13 42 _ (by decide) (by decide) (by decide) (by decide) (by decide) (by decide) (by decide) (fun e=>by cases e)⟩
        ·
         intro done ρ W hn hf hd h;have q42:=h.1.get 13 42 _ rfl (hd 13 (by kernel_rfl));have q40:=h.1.get 10 40 _ rfl (hd 10 (by kernel_rfl));have HR:=h.2.r1 hn;obtain⟨y0,y1,y2⟩:=HR.cells;have f1:=frozen_of_row W w.heap.size 1 _ _ HR;clear hf;refine Bd rfl fun R hR=>?_;go_simp;exact hR _ _ ⟨h.1.world 14 _ rfl trivial,h.2.store hn (hd 10 (by kernel_rfl)) (Nat.le_refl _) dh.out _⟩
       ·intro a' w6 cz ay hf h;obtain⟨A2,c2,-,hOO6,k3⟩:=h.2.n4 (by kernel_rfl);have h2:=k3 (by kernel_rfl);have mc:=h.2.r2 (by kernel_rfl);have nt:=h.2.b;have h0:Ab a' 0= .slice A n c:=hf 0 (by kernel_rfl);have h5:Ab a' 5= .pointer (some ⟨w.heap.size,0,none⟩):=hf 5 (by kernel_rfl);have kw:Ab a' 13= .int .i64 (M:Int):=hf 13 (by kernel_rfl);have jd:Ab a' 14= .int .i64 (j:Int):=hf 14 (by kernel_rfl);have h1:Ab a' 1=undef:=hf 1 (by kernel_rfl);have h9:Ab a' 9= .slice A n c:=hf 9 (by kernel_rfl);have kb:Ab a' 10= .agg #[.slice A n c,.int .i64 0,.bool false]:=hf 10 (by kernel_rfl);have ky:Ab a' 11= .pointer (some ⟨w.heap.size,0,none⟩):=hf 11 (by kernel_rfl);have jr:Ab a' 12= .pointer (some ⟨w.heap.size,0,none⟩):=hf 12 (by kernel_rfl);have CX:Ab a' 44=undef:=hf 44 (by kernel_rfl);have CW:Ab a' 45=undef:=hf 45 (by kernel_rfl);have CV:Ab a' 46=undef:=hf 46 (by kernel_rfl);have CU:Ab a' 47=undef:=hf 47 (by kernel_rfl);have JO:Ab a' 48=undef:=hf 48 (by kernel_rfl);have JN:Ab a' 49=undef:=hf 49 (by kernel_rfl);have JM:Ab a' 50=undef:=hf 50 (by kernel_rfl);have JL:Ab a' 51=undef:=hf 51 (by kernel_rfl);have CT:Ab a' 52=undef:=hf 52 (by kernel_rfl);have p8:=Aa mc;have HOO6:=Aa hOO6;clear mc hOO6 k3 HR5 PM li cl jg bq aw cv;obtain⟨T,D⟩:=a';have hD:D= []:=cz;subst hD;obtain⟨f,hT,df⟩:∃ f:Nat->Value,T=((List.range 53).map f).toArray/\Ab ⟨T, []⟩=f:=⟨_,Bm T 53 ay,rfl⟩;rw [df] at h0 h2 h5 kw jd h1 h9 kb ky jr CX CW CV CU JO JN JM JL CT;clear df ay hf h cz;simp only [List.range,List.range.loop,List.map] at hT;subst hT;rw [h0,h2,h5,kw,jd,h1,h9,kb,ky,jr,CX,CW,CV,CU,JO,JN,JM,JL,CT];clear h0 h2 h5 kw jd h1 h9 kb ky jr CX CW CV CU JO JN JM JL CT;go_wp2_with fail;go_roundw
        case rel=>
         refine⟨j+1,a+s,A2,c2,L'++ [⟨k,t,r,A4,c4,p,z⟩],by omega,by omega,by go_num,rfl,Aa ?_,p8,HOO6,Aa ?_,nt⟩
         ·rw [List.length_append,AQ.out];rfl
         ·rw [KK.out,List.map_append];rfl
        case measure=>simp [intOf];omega
    ·have z0:¬ (j:Int) < M:=by omega
     obtain rfl:j=M:=by omega
     have HG0:=Aa (show Cj b=some (L'.map Bj.op,a) by
      have:=HG.out
      rw [Nat.sub_self] at this
      exact this)
     have GN:=HR.out.lt;obtain⟨r0,r1,r2⟩:=HR.out.cells;clear HG HR;go_wp2_with fail
     go_quiet (fail)
     go_wp2_with fail;refine bodyPost_ret (v:= .tuple #[.slice A' j c',.int .i64 (a:Int),.int .i64 0]) (by simp [results,Tryz.results102,go_sem]) rfl ?_;exact⟨A',c',L',by rw [HG0.out];simp only [M5];rw [List.length_map,AQ.out],by rw [HG0.out];rfl,KI.out,Bk hb _⟩
theorem OO.at {w w':World} {aa c g:Nat} {A:Option Addr} {L:List Bj} (h:OO w aa A c L) (hg:g < aa) (ho:Ah g w w'):OO w' aa A c L:=
 ⟨Fu h.1 hg ho,fun x hx=>Fu (h.2 x hx) hg ho⟩
def Iz (st:ES):List Lg×ES:=
 if st.2=true then ([],st) else match Cj st.1 with
  | some (l,n)=>(l,(st.1.drop n,false))
  | none=>([],(st.1,true))
theorem Hu (st:ES):(∀ o∈(Iz st).1,I2 o)/\(Iz st).1.length<=1024:=by
 unfold Iz;split
 ·exact⟨fun o h=>(by cases h),by simp⟩
 ·split
  ·rename_i h
   exact⟨(Fv h).1,(Fv h).2.1⟩
  ·exact⟨fun o h=>(by cases h),by simp⟩
theorem Vq (g:Nat) (st:ES) (w:World) (h:EY w g st) (l9:List Lg) (s9:ES) (hx:Iz st=(l9,s9)):
 Calls Tryz.prog 58 #[.pointer (some ⟨g,0,none⟩)] w fun e w'=>∃ A c L,e= .returned (.slice A (List.length (α:=Bj) L) c)/\L.map Bj.op=l9/\OO w' w.heap.size A c L/\EY w' g s9/\Ah g w w':=by
 obtain⟨A,c,hE,hr,hc,hl,hA⟩:=h;obtain⟨b,bad⟩:=st;simp only at hE hr hc hl;have ai:=hE.lt;obtain⟨c0,c1⟩:=hE.cells;have G:=Aa (Zj A b b.length c w (RD.more hr.1 (Nat.le_of_lt ai)) rfl hl hc hA)
 cases hg:Cj b with
 | none=>
   rw [hg] at G
   have HV:=Aa (show Iz (b,bad)=([],(b,true)) by
    unfold Iz
    cases bad with
    | true=>rfl
    | false=>simp [hg])
   rw [HV.out] at hx;simp only [Prod.mk.injEq] at hx;obtain⟨rfl,rfl⟩:=hx;have HE:=Aa hE;have Hr:=Aa (And.intro hr (And.intro hc (And.intro hl hA)));clear hg hE hr hA hc HV;go_enter Tryz.func58,Tryz.ntmps58;go_wp2_with fail;refine G.out.mono ?_;rintro e w2 ⟨A',c',L',rfl,hL,hO,hb⟩;have m7:=Aa (HE.out.below hb);have ta:=Aa (Gp.below Hr.out.1 (hb.mono (Nat.le_of_lt ai)));have td:=Aa (Ah.below hb (Nat.le_of_lt ai));clear c0 c1;obtain⟨c0,c1⟩:=m7.out.cells;have f1:=frozen_of_row w2 g 1 _ _ m7.out;have HF:=Aa (show EY (w2.setCell ⟨g,1,none⟩ (.bool true)) g (b,true) from⟨A,c,m7.out.set1 true,Gp.below ta.out ((Below.refl g w2).setCell (Nat.le_refl _) _),Hr.out.2.1,Hr.out.2.2.1,Hr.out.2.2.2⟩);have HO:=Aa (td.out.trans (Ah.set g 1 w2 (.bool true)));clear hL hO hb;cases bad
   all_goals
    go_wp2_with fail;go_ret;exact⟨none,0, [],rfl,rfl,OO.nil _ _,HF.out,HO.out⟩
 | some q=>
   obtain⟨l,s⟩:=q;obtain⟨-,v1,v2,v3⟩:=Fv hg;rw [hg] at G
   cases bad with
   | true=>
     have l8:([],((b,true):ES))=(l9,s9):=hx;simp only [Prod.mk.injEq] at l8;obtain⟨rfl,rfl⟩:=l8;have HE:=Aa hE;have Hr:=Aa (And.intro hr (And.intro hc (And.intro hl hA)));clear hg hE hr hA hc hx v3;go_enter Tryz.func58,Tryz.ntmps58;go_wp2_with fail;refine G.out.mono ?_;rintro e w2 ⟨A',c',L',rfl,hL,hO,hb⟩;have m7:=Aa (HE.out.below hb);have ta:=Aa (Gp.below Hr.out.1 (hb.mono (Nat.le_of_lt ai)));have td:=Aa (Ah.below hb (Nat.le_of_lt ai));clear c0 c1;obtain⟨c0,c1⟩:=m7.out.cells;have f1:=frozen_of_row w2 g 1 _ _ m7.out;have HF:=Aa (show EY (w2.setCell ⟨g,1,none⟩ (.bool true)) g (b,true) from⟨A,c,m7.out.set1 true,Gp.below ta.out ((Below.refl g w2).setCell (Nat.le_refl _) _),Hr.out.2.1,Hr.out.2.2.1,Hr.out.2.2.2⟩);have HO:=Aa (td.out.trans (Ah.set g 1 w2 (.bool true)));obtain⟨ln,hln⟩:∃ q,q=List.length (M5 (some (l,s))).1:=⟨_,rfl⟩;clear hL hO hb;go_wp2_with fail;go_ret;exact⟨none,0, [],rfl,rfl,OO.nil _ _,HF.out,HO.out⟩
   | false=>
     simp only [M5] at G;have l8:(l,((b.drop s,false):ES))=(l9,s9):=by rw [<-hx];unfold Iz;simp [hg]
     simp only [Prod.mk.injEq] at l8;obtain⟨rfl,rfl⟩:=l8;have af:1<=s:=by
      have h1:=congrArg List.length v3;rw [List.length_take,List.length_append] at h1;have h2:1<=(Ap [(l.length:Int)]).length:=by
       rw [show Ap [(l.length:Int)]=nb (l.length:Int).toNat++ [] from rfl,List.length_append];have:=Lv (l.length:Int).toNat;omega
      omega
     obtain⟨b0,o0,rfl,py,-⟩:=RB.cell hr.1 (by omega);obtain⟨SA,SC,ma⟩:∃ (SA:Option Addr) (SC:Nat),(c=s/\SA=some ⟨b0,o0,none⟩/\SC=0\/¬ c=s/\SA=some ⟨b0,o0+s,none⟩/\SC=c - s):=by
      by_cases h:c=s
      ·exact⟨_,_,.inl ⟨h,rfl,rfl⟩⟩
      ·exact⟨_,_,.inr ⟨h,rfl,rfl⟩⟩
     have vd:RB w g SA (b.drop s):=by
      rcases ma with⟨h1,-,-⟩ | ⟨-,rfl,-⟩
      ·rw [List.drop_eq_nil_of_le (by omega)];exact RD.nil_
      ·have:=hr.1.sub s b.length (Nat.le_refl _);rwa [List.take_length] at this
     have xe:Gp w g SA (b.drop s):=⟨vd,fun q hq=>by rcases ma with⟨-,h2,-⟩ | ⟨-,h2,-⟩ <;> (rw [h2] at hq;cases hq;have h9:=hr.2 _ rfl;exact h9)⟩
     have LX:=Aa (show (b.drop s).length<=SC/\(b.drop s).length < 1073741824/\(SA=none->SC=0) from⟨by
      rw [List.length_drop]
      rcases ma with⟨h1,-,h2⟩ | ⟨h1,-,h2⟩ <;> omega,by rw [List.length_drop];omega,fun h=>by rcases ma with⟨-,h2,-⟩ | ⟨-,h2,-⟩ <;> (rw [h2] at h;cases h)⟩)
     have HE:=Aa hE;have Hrs:=Aa xe;have zs0:(0:Int)<=s:=by omega
     have zs1:(s:Int)<=b.length:=by omega
     have zs2:(s:Int)<=c:=by omega
     have zs3:(b.length:Int)<=c:=by omega
     have GB:=Aa hl;clear hg hE hr hA hc hx v3 xe vd v1;go_enter Tryz.func58,Tryz.ntmps58;go_wp2_with fail;refine G.out.mono ?_;rintro e w2 ⟨A',c',L',rfl,hL,hO,hb⟩;have m7:=Aa (HE.out.below hb);have ta:=Aa (Gp.below Hrs.out (hb.mono (Nat.le_of_lt ai)));have td:=Aa (Ah.below hb (Nat.le_of_lt ai));clear c0 c1;obtain⟨c0,c1⟩:=m7.out.cells;have f1:=frozen_of_row w2 g 1 _ _ m7.out;have E1:=m7.out.set1 false;have f2:=frozen_of_row _ g 0 _ _ E1;obtain⟨k0,k1⟩:=E1.cells;have E2:Op ((w2.setCell ⟨g,1,none⟩ (.bool false)).setCell ⟨g,0,none⟩ (.slice SA (b.length - s) SC)) g SA (b.length - s) SC false:=E1.set0;have HF:=Aa (show EY ((w2.setCell ⟨g,1,none⟩ (.bool false)).setCell ⟨g,0,none⟩ (.slice SA (b.length - s) SC)) g (b.drop s,false) from⟨SA,SC,by rw [List.length_drop];exact E2,Gp.below ta.out (((Below.refl g w2).setCell (Nat.le_refl _) _).setCell (Nat.le_refl _) _),LX.out⟩);have gj:=(Ah.set g 1 w2 (.bool false)).trans (Ah.set g 0 _ (.slice SA (b.length - s) SC));have HO:=Aa (td.out.trans gj);have KI:=Aa (hO.at ai gj);have tk:l.length=L'.length:=by rw [<-hL,List.length_map]
     have HL2:=Aa hL;rw [tk];obtain⟨nl,QE⟩:∃ q,q=L'.length:=⟨_,rfl⟩;have Hnl:=Aa QE;rw [<-QE];clear hL hO hb E1 E2 gj tk QE;rcases ma with⟨px,rfl,rfl⟩ | ⟨px,rfl,rfl⟩
     all_goals
      go_wp2_with fail;go_ret;exact⟨A',c',L',by rw [<-Hnl.out];rfl,HL2.out,KI.out,HF.out,HO.out⟩
end Go.Proofs.YtmkpfdcnikgokaaGreat
namespace Go.Proofs.YtmkpfdcnikgokaaGreat
abbrev Gb:=BitVec 32
def Ad3:Gb:=0xedb88320#32
def bs (n:Gb):Gb:=(n >>> 1) ^^^ (if n.getLsbD 0 then Ad3 else 0#32)
def U9:Nat->Gb->Gb
 | 0,n=>n
 | k+1,n=>U9 k (bs n)
def tb (n:Gb):Gb:=U9 8 n
def stp (T:Gb->Gb) (s:Gb) (x:UInt8):Gb:=T ((s &&& 255#32) ^^^ BitVec.ofNat 32 x.toNat) ^^^ (s >>> 8)
def run (T:Gb->Gb) (s:Gb) (l:List UInt8):Gb:=l.foldl (stp T) s
def M6:Gb:=4294967295#32
def X4 (T:Gb->Gb) (l:List UInt8):Gb:= ~~~ (run T M6 l)
def sm (l:List UInt8):Gb:=X4 tb l
theorem Adh (j k:Nat) (n:Gb):U9 (j+k) n=U9 k (U9 j n):=by
 induction j generalizing n with
 | zero=>simp [U9]
 | succ j ih=>rw [show j+1+k=(j+k)+1 by omega];simp only [U9];rw [ih]
theorem V6 (T:Gb->Gb) (s:Gb) (a b:List UInt8):run T s (a++b)=run T (run T s a) b:=by simp [run]
def hi (k:Nat) (x:UInt8):Gb:=BitVec.ofNat 32 x.toNat <<< (8 * k)
def Dt (v:Gb) (k:Nat):UInt8:=UInt8.ofNat (v.toNat / 256 ^ k % 256)
end Go.Proofs.YtmkpfdcnikgokaaGreat
namespace Go.Proofs.YtmkpfdcnikgokaaGreat
open Go.RowKit
def Zu (x:Gb):Value:= .int .u32 (x.toNat:Int)
def Db (T:Gb->Gb):Array Value:=Array.ofFn (n:=256) fun i=>Zu (T (BitVec.ofNat 32 i.val))
theorem Ks (T:Gb->Gb):(Db T).size=256:=by simp [Db]
theorem Pu (T:Gb->Gb) (i:Nat) (h:i < 256):(Db T)[i]?=some (Zu (T (BitVec.ofNat 32 i))):=by
 simp [Db,h]
theorem Ug (j:Nat) (n:Gb):U9 (j+1) n=bs (U9 j n):=Adh j 1 n
theorem Aai (n:Gb):bits .xor .u32 ((n.toNat:Int) / 2) (bits .and .u32 3988292384 (-bits .and .u32 (n.toNat:Int) 1 % 4294967296))=((bs n).toNat:Int):=by
 have hn:=n.isLt;have e1:bits .and .u32 (n.toNat:Int) 1=((n.toNat &&& 1:Nat):Int):=u32_and_nat n.toNat 1 (by omega) (by omega);rw [e1,Nat.and_one_is_mod];have e0:(bs n).toNat=(n.toNat / 2) ^^^ (if n.toNat % 2=1 then 3988292384 else 0):=by
  unfold bs;rw [BitVec.toNat_xor,BitVec.toNat_ushiftRight,Nat.shiftRight_eq_div_pow];have:n.getLsbD 0=decide (n.toNat % 2=1):=by
   rw [<-BitVec.testBit_toNat,Nat.testBit_zero]
  rw [this];by_cases h:n.toNat % 2=1 <;> simp [h,Ad3]
 rw [e0];have d2:(n.toNat:Int) / 2=((n.toNat / 2:Nat):Int):=by omega
 rw [d2];by_cases h:n.toNat % 2=1
 ·rw [h,if_pos rfl];have e2:bits .and .u32 3988292384 (-((1:Nat):Int) % 4294967296)=((3988292384:Nat):Int):=by
   have:=u32_and_nat 3988292384 4294967295 (by omega) (by omega);simpa using this
  rw [e2];exact u32_xor_nat _ _ (by omega) (by omega)
 ·have h0:n.toNat % 2=0:=by omega
  rw [h0,if_neg (by omega)];have e2:bits .and .u32 3988292384 (-((0:Nat):Int) % 4294967296)=((0:Nat):Int):=by
   have:=u32_and_nat 3988292384 0 (by omega) (by omega);simpa using this
  rw [e2];exact u32_xor_nat _ _ (by omega) (by omega)
def Adu:Array Value:=Db fun _=>0#32
theorem Vw (w:World):(zeroValue 165).run Tryz.prog w= .ok (.agg Adu) w:=by kernel_rfl
theorem L4 (T:Gb->Gb):(Tryz.prog.info? 165).map (·.size)=some (Db T).size:=by rw [Ks];kernel_rfl
theorem Yy (T:Gb->Gb):(Db T).all (·.oneCell')=true:=by
 rw [Array.all_eq_true];intro i hi;simp [Db,Zu,Value.oneCell']
theorem Aao (w:World):Calls Tryz.prog 124 #[] w fun e w'=>e= .returned (.agg (Db tb))/\Below w.heap.size w w':=by
 have hz:=Vw;go_enter Tryz.func124,Tryz.ntmps124;go_wp2_with fail;clear hz
 go_loopw [3] (fun i wr=>∃ (k:Nat) (bh:Array Value),k<=256/\i= .int .u32 (k:Int)/\wr.heap[w.heap.size]?=some (.cells bh 165 (0,0))/\Hid (bh.size=256)/\Hid (∀ j,j < k->bh[j]?=some (Zu (tb (BitVec.ofNat 32 j))))/\Below w.heap.size w wr) (fun i _=>256 - (intOf i).toNat)
 case atStart=>exact⟨0,Adu,by omega,rfl,heap_alloc_new w _,Aa (Ks _),Aa (fun j hj=>absurd hj (by omega)),(Below.refl _ _).alloc (Nat.le_refl _) _⟩
 case round=>
  obtain⟨k,bh,hk,rfl,hg,ay,WC,tr⟩:=hrel;by_cases ai:(k:Int) < 256
  ·go_wp2_with fail
   go_loop [2,7] (fun n c=>∃ (j:Nat),j<=8/\c= .int .i64 (j:Int)/\n= .int .u32 ((U9 j (BitVec.ofNat 32 k)).toNat:Int)) (fun _ c=>8 - (intOf c).toNat)
   case atStart=>exact⟨0,by omega,rfl,Ge (by simp [U9];omega)⟩
   case round=>
    obtain⟨j,hj,rfl,rfl⟩:=hrel;by_cases OS:(j:Int) < 8
    ·go_wp2_with fail
     go_round
     case rel=>
      exact⟨j+1,by omega,by go_num,Ge (by rw [Aai,Ug])⟩
     case measure=>simp [intOf];omega
    ·obtain rfl:j=8:=by omega
     obtain⟨v,hv⟩:∃ v,bh[k]?=some v:=⟨bh[k]'(by have:=ay.out;omega),Array.getElem?_eq_getElem _⟩;have nu:wr.cell? ⟨w.heap.size,k,none⟩=some v:=by rw [cell_of_row wr _ k bh _ _ hg];exact hv
     have hfr:=frozen_of_row wr w.heap.size k bh _ hg;clear hv;have zh:=Aa hg;clear hg;go_wp2_with fail;go_roundw
     case rel=>
      refine⟨k+1,bh.setIfInBounds k (Zu (tb (BitVec.ofNat 32 k))),by omega,by go_num,heap_setCell_same wr _ _ bh _ _ (Ag zh),Aa (by rw [Array.size_setIfInBounds];exact ay.out),Aa (fun i hi=>?_),tr.setCell (Nat.le_refl _) _⟩;rw [Array.getElem?_setIfInBounds];by_cases e:k=i
      ·subst e;rw [if_pos rfl,if_pos (by have:=ay.out;omega)]
      ·rw [if_neg e];exact WC.out i (by omega)
     case measure=>simp [intOf];omega
  ·have mj:k=256:=by omega
   have hcut:bh=Db tb:=by
    apply Array.ext_getElem?;intro i;by_cases hi:i < 256
    ·rw [WC.out i (by omega),Pu tb i hi]
    ·rw [Array.getElem?_eq_none (by rw [ay.out];omega),Array.getElem?_eq_none (by rw [Ks];omega)]
   have hgt:wr.heap[w.heap.size]?=some (.cells (Db tb) 165 (0,0)):=by rw [<-hcut];exact hg
   clear mj hcut hg ay WC
   go_wp2_with (first
    | (with_reducible refine wpList_load_row rfl 165 (.tmp 0) rfl w.heap.size rfl 165 (Db tb) (0,0) (.array 256 44) hgt Tryz.underlying165 rfl (L4 tb) ?_)
    | (with_reducible refine wpList_store_row rfl 165 (.tmp 0) (.tmp 21) rfl w.heap.size (Db tb) rfl rfl 165 (Db tb) hgt (L4 tb) rfl (Yy tb) ?_))
   exact bodyPost_ret (results_cell_row rfl _ _ w.heap.size 165 (Db tb) (0,0) (.array 256 44) rfl (setRow_heap _ _ _ _ _ _ hgt) Tryz.underlying165 rfl (L4 tb)) rfl ⟨rfl,below_setRow tr (Nat.le_refl _) _⟩
theorem Qq (T:Gb->Gb) (s:Gb) (x:UInt8):∃ k:Nat,k < 256/\bits .xor .u8 ((s.toNat:Int) % 256) (x.toNat:Int)=(k:Int)/\
 (Db T)[k]?=some (.int .u32 ((T (BitVec.ofNat 32 k)).toNat:Int))/\bits .xor .u32 ((T (BitVec.ofNat 32 k)).toNat:Int) ((s.toNat:Int) / 256)=((stp T s x).toNat:Int):=by
 have hx:=x.toNat_lt;have hk:(s.toNat % 256) ^^^ x.toNat < 256:=Nat.xor_lt_two_pow (n:=8) (by omega) (by omega);have ek:(s &&& 255#32) ^^^ BitVec.ofNat 32 x.toNat=BitVec.ofNat 32 ((s.toNat % 256) ^^^ x.toNat):=by
  apply BitVec.eq_of_toNat_eq;rw [BitVec.toNat_xor,BitVec.toNat_and,BitVec.toNat_ofNat,BitVec.toNat_ofNat,BitVec.toNat_ofNat,Nat.mod_eq_of_lt (show x.toNat < 2 ^ 32 by omega),Nat.mod_eq_of_lt (show (s.toNat % 256) ^^^ x.toNat < 2 ^ 32 by omega)]
  congr 1
  exact Nat.and_two_pow_sub_one_eq_mod s.toNat 8
 refine⟨(s.toNat % 256) ^^^ x.toNat,hk,?_,?_,?_⟩
 ·have e:(s.toNat:Int) % 256=((s.toNat % 256:Nat):Int):=by omega
  rw [e];exact u8_xor_nat _ _ (by omega) (by omega)
 ·rw [Pu T _ hk];rfl
 ·have e:(s.toNat:Int) / 256=((s.toNat / 256:Nat):Int):=by omega
  have hs:=s.isLt;have ht:=(T (BitVec.ofNat 32 ((s.toNat % 256) ^^^ x.toNat))).isLt;rw [e,u32_xor_nat _ _ (by omega) (by omega)];unfold stp;rw [ek,BitVec.toNat_xor,BitVec.toNat_ushiftRight,Nat.shiftRight_eq_div_pow]
theorem Ts (T:Gb->Gb) (s:Gb) (l:List UInt8) (k:Nat) (h:k < l.length):run T s (l.take (k+1))=stp T (run T s (l.take k)) l[k]:=by
 rw [List.take_succ_eq_append_getElem h,V6];rfl
theorem Acs (s:Gb):4294967295 - (s.toNat:Int)=((~~~ s).toNat:Int):=by
 rw [BitVec.toNat_not];have:=s.isLt;omega
theorem Abs (s:Gb):bits .xor .u32 IntKind.u32.max (s.toNat:Int)=((~~~ s).toNat:Int):=by
 have hs:=s.isLt;have e:IntKind.u32.max=((4294967295:Nat):Int):=by decide
 rw [e,u32_xor_nat _ _ (by omega) (by omega)];have: ~~~ s=M6 ^^^ s:=by
  apply BitVec.eq_of_getLsbD_eq;intro i QH;have ho:M6.getLsbD i=true:=by
   rw [show M6= ~~~ 0#32 by decide,BitVec.getLsbD_not,BitVec.getLsbD_zero];simp [QH]
  rw [BitVec.getLsbD_xor,BitVec.getLsbD_not,ho];simp [QH]
 rw [this,BitVec.toNat_xor];rfl
theorem Ach (T:Gb->Gb) (A:Option Addr) (c:Nat) (l:List UInt8) (w:World) (hr:RB w w.heap.size A l) (hl:l.length < 1000000):
 Calls Tryz.prog 123 #[.agg (Db T),.slice A l.length c] w fun e w'=>e= .returned (.int .u32 ((X4 T l).toNat:Int))/\Below w.heap.size w w':=by
 go_enter Tryz.func123,Tryz.ntmps123;go_wp2_with fail;have hb:=(Below.refl w.heap.size w).alloc (Nat.le_refl _) (.cells (Db T) 165);have gf:=hr.alloc (Nat.le_refl _) (.cells (Db T) 165);have hg:=Aa (heap_alloc_new w (.cells (Db T) 165));clear hr;generalize w.alloc (.cells (Db T) 165)=W at hb gf hg |-
 go_loop [5,10] (fun n i=>∃ (k:Nat),k<=l.length/\i= .int .i64 (k:Int)/\n= .int .u32 ((run T M6 (l.take k)).toNat:Int)) (fun _ i=>l.length - (intOf i).toNat)
 case atStart=>exact⟨0,by omega,rfl,Ge rfl⟩
 case round=>
  obtain⟨k,hk,rfl,rfl⟩:=hrel;by_cases ai:k < l.length
  ·obtain⟨b,off,rfl,ll,hc⟩:=RB.cell gf (by omega);have CN:=hc k ai;clear hc;have CD:=Aa (Ts T M6 l k ai);generalize run T M6 (l.take k)=s at CD |-;obtain⟨j,hj,e1,e2,e3⟩:=Qq T s l[k];have YC:W.cell? ⟨w.heap.size,j,none⟩=some (.int .u32 ((T (BitVec.ofNat 32 j)).toNat:Int)):=by rw [cell_of_row W _ j _ _ _ (Ag hg)];exact e2
   have hj':(j:Int) < 256:=by omega
   clear e2;have e3':=Aa e3;clear e3;go_wp2_with fail
   go_round
   case rel=>exact⟨k+1,by omega,by go_num,Ge (by rw [e3'.out,CD.out])⟩
   case measure=>simp [intOf];omega
  ·have mj:k=l.length:=by omega
   subst mj;rw [List.take_of_length_le (Nat.le_refl _)];go_wp2_with fail;go_ret;exact⟨Cu (Abs _),hb⟩
end Go.Proofs.YtmkpfdcnikgokaaGreat
