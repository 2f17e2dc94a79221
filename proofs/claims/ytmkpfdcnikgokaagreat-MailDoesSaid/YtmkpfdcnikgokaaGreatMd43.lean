/-
  Texts of this claim, put together: ClockRef, OneRef. What each theorem asks stands in its statement.
-/
import Derived.Test.YtmkpfdcnikgokaaGreatMd1
import Derived.Test.YtmkpfdcnikgokaaGreatMd6
import Derived.Test.YtmkpfdcnikgokaaGreatMd13
import Derived.Test.YtmkpfdcnikgokaaGreatMd42
set_option linter.unusedVariables false
set_option linter.unusedSimpArgs false
set_option maxRecDepth 100000
set_option maxHeartbeats 25600000
namespace Go.Proofs.YtmkpfdcnikgokaaGreat
open Go.RowKit
theorem Pw (A:Option Addr) (n c:Nat) (L:List Aq) (w:World) (hr:RT w w.heap.size A L) (hn:L.length=n) (ax:∀ x∈L,M1 x) (AF:n < 1073741824):
 Calls Tryz.prog 127 #[.slice A n c] w fun e w'=>e= .returned (.bool (decide (Dj (L.map Aq.pt))))/\Below w.heap.size w w':=by
 have js:=Aa ax;have Hn:=Aa hn;have HR:=Aa hr;clear ax hn hr;go_enter Tryz.func127,Tryz.ntmps127;go_wp2_with fail
 go_loopw [3] (fun i wr=>∃ (j:Nat) (v p:Int),j<=n/\i= .int .i64 (j:Int)/\-1<=v/\v < 256/\Hid (Cz (-1) (L.map Aq.pt)↔Cz v ((L.drop j).map Aq.pt))/\Hid (j=0/\v=-1\/0 < j/\v=p/\∀ h:j - 1 < L.length,L[j - 1].R=p)/\Below w.heap.size w wr) (fun i _=>n - (intOf i).toNat)
 case atStart=>exact⟨0,-1,0,by omega,rfl,by omega,by omega,Aa Iff.rfl,Aa (.inl ⟨rfl,rfl⟩),Below.refl _ _⟩
 case round=>
  obtain⟨j,v,p,hj,rfl,QC,ZY,HC,HV,hb⟩:=hrel;by_cases ai:j < n
  ·have ap:j < L.length:=by rw [Hn.out];exact ai
   have z0:(j:Int) < n:=by omega
   have zj:(0:Int)<=j:=by omega
   have pg:=HR.out.below hb;obtain⟨bb,bo,rfl,hB,fg⟩:=RT.cell pg (by omega);have eb:=Nat.lt_of_lt_of_le hB hb.size;obtain⟨d0,d1⟩:=fg j ap;obtain⟨x,hx⟩:∃ x,L[j]=x:=⟨_,rfl⟩;rw [hx] at d0 d1;have ba:x∈L:=by rw [<-hx];exact List.getElem_mem ap
   obtain⟨q1,q2,q3,q4⟩:=js.out x ba;have ti:L.drop j=x :: L.drop (j+1):=by rw [<-hx];exact List.drop_eq_getElem_cons ap
   have m8:=HC;rw [ti] at m8;have ow:Hid (Cz (-1) (L.map Aq.pt)↔v < x.R/\x.R < 8/\1<=x.s.length/\Ii x.s/\Cz x.R ((L.drop (j+1)).map Aq.pt)):=Aa m8.out;have HN:=Aa (show ∀ h:j+1 - 1 < L.length,L[j+1 - 1].R=x.R from fun h=>by simp only [Nat.add_sub_cancel];rw [hx]);have E:=Aa (fun u=>V7 x.A x.s.length x.c x.s (Bs wr u) ((RD.below ((pg.more hb.size).2 x ba) (Af wr u)).more (Af wr u).size) rfl q3 q4);clear ti HC m8 hB pg ba q3;by_cases c1:(8:Int)<=x.R
   ·have HE:=Aa (show decide (Dj (L.map Aq.pt))=false from decide_eq_false (fun h=> by have:=(ow.out.1 h).2.1;omega));clear fg hx;go_wp2_with fail;refine Aj (by kernel_rfl) (by kernel_rfl) ?_
    repeat (
     refine WQ.step (fun K hK=>?_)
     go_simp
     first
      | (refine hK _ ?_;clear hK K)
      | (apply Exists.intro
         refine⟨fun _=>?_,hK _ ?_⟩
         (go_at_call 162;with_reducible exact Al (Ag E _))
         clear hK K))
    refine WQ.nil ?_;intro u;have fw:=Ad hb (Af _ u);go_wp2_with fail;go_ret;exact⟨Ae HE.out.symm,fw⟩
   by_cases hj0:j=0
   ·subst hj0;have hvv:v=-1:=by have:=HV.out;omega
    simp only [Nat.zero_mul,Nat.add_zero] at d0 d1;clear fg hx;by_cases c3:(x.s.length:Int) < 1
    ·have HE:=Aa (show decide (Dj (L.map Aq.pt))=false from decide_eq_false (fun h=> by have:=(ow.out.1 h).2.2.1;omega));go_wp2_with fail;refine Aj (by kernel_rfl) (by kernel_rfl) ?_
     repeat (
      refine WQ.step (fun K hK=>?_)
      go_simp
      first
       | (refine hK _ ?_;clear hK K)
       | (apply Exists.intro
          refine⟨fun _=>?_,hK _ ?_⟩
          (go_at_call 162;with_reducible exact Al (Ag E _))
          clear hK K))
     refine WQ.nil ?_;intro u;have fw:=Ad hb (Af _ u);go_wp2_with fail;go_ret;exact⟨Ae HE.out.symm,fw⟩
    ·by_cases c4:Ii x.s
     ·rw [decide_eq_true c4] at E;have KL:=Aa (show Cz (-1) (L.map Aq.pt)↔Cz x.R ((L.drop (0+1)).map Aq.pt) from⟨fun h=>(ow.out.1 h).2.2.2.2,fun h=>ow.out.2 ⟨by omega,by omega,by omega,c4,h⟩⟩);clear c4;go_wp2_with fail;refine Aj (by kernel_rfl) (by kernel_rfl) ?_
      repeat (
       refine WQ.step (fun K hK=>?_)
       go_simp
       first
        | (refine hK _ ?_;clear hK K)
        | (apply Exists.intro
           refine⟨fun _=>?_,hK _ ?_⟩
           (go_at_call 162;with_reducible exact Al (Ag E _))
           clear hK K))
      refine WQ.nil ?_;intro u;have fw:=Ad hb (Af _ u);go_wp2_with fail;go_roundw
      case rel=>exact⟨0+1,x.R,x.R,by omega,by go_num,by omega,by omega,KL,Aa (.inr ⟨by omega,rfl,HN.out⟩),fw⟩
      case measure=>simp [intOf];omega
     ·rw [decide_eq_false c4] at E;have HE:=Aa (show decide (Dj (L.map Aq.pt))=false from decide_eq_false (fun h=> c4 (ow.out.1 h).2.2.2.1));clear c4;go_wp2_with fail;refine Aj (by kernel_rfl) (by kernel_rfl) ?_
      repeat (
       refine WQ.step (fun K hK=>?_)
       go_simp
       first
        | (refine hK _ ?_;clear hK K)
        | (apply Exists.intro
           refine⟨fun _=>?_,hK _ ?_⟩
           (go_at_call 162;with_reducible exact Al (Ag E _))
           clear hK K))
      refine WQ.nil ?_;intro u;have fw:=Ad hb (Af _ u);go_wp2_with fail;go_ret;exact⟨Ae HE.out.symm,fw⟩
   ·obtain⟨e0,-⟩:=fg (j - 1) (by omega);have hvp:v=p:=by have:=HV.out;omega
    have hp:L[j - 1].R=p:=by
     rcases HV.out with h | h
     ·omega
     ·exact h.2.2 _
    rw [hp] at e0;clear fg hp hx;have z5:(0:Int) < j:=by omega
    have z9:0 < j:=by omega
    have z6:(0:Int)<=(j:Int) - 1:=by omega
    have z7:(j:Int) - 1 < n:=by omega
    have z8:((j:Int) - 1).toNat=j - 1:=by omega
    have z10:(1:Int)<=j:=by omega
    have zw:IntKind.i64.wrap ((j:Int) - 1)=(j:Int) - 1:=IntWalk.i64_in _ (by omega);subst hvp;by_cases c2:x.R<=v
    ·have HE:=Aa (show decide (Dj (L.map Aq.pt))=false from decide_eq_false (fun h=> by have:=(ow.out.1 h).1;omega));go_wp2_with fail;refine Aj (by kernel_rfl) (by kernel_rfl) ?_
     repeat (
      refine WQ.step (fun K hK=>?_)
      go_simp
      first
       | (refine hK _ ?_;clear hK K)
       | (apply Exists.intro
          refine⟨fun _=>?_,hK _ ?_⟩
          (go_at_call 162;with_reducible exact Al (Ag E _))
          clear hK K))
     refine WQ.nil ?_;intro u;have fw:=Ad hb (Af _ u);go_wp2_with fail;go_ret;exact⟨Ae HE.out.symm,fw⟩
    by_cases c3:(x.s.length:Int) < 1
    ·have HE:=Aa (show decide (Dj (L.map Aq.pt))=false from decide_eq_false (fun h=> by have:=(ow.out.1 h).2.2.1;omega));go_wp2_with fail;refine Aj (by kernel_rfl) (by kernel_rfl) ?_
     repeat (
      refine WQ.step (fun K hK=>?_)
      go_simp
      first
       | (refine hK _ ?_;clear hK K)
       | (apply Exists.intro
          refine⟨fun _=>?_,hK _ ?_⟩
          (go_at_call 162;with_reducible exact Al (Ag E _))
          clear hK K))
     refine WQ.nil ?_;intro u;have fw:=Ad hb (Af _ u);go_wp2_with fail;go_ret;exact⟨Ae HE.out.symm,fw⟩
    ·by_cases c4:Ii x.s
     ·rw [decide_eq_true c4] at E;have KL:=Aa (show Cz (-1) (L.map Aq.pt)↔Cz x.R ((L.drop (j+1)).map Aq.pt) from⟨fun h=>(ow.out.1 h).2.2.2.2,fun h=>ow.out.2 ⟨by omega,by omega,by omega,c4,h⟩⟩);clear c4;go_wp2_with fail;refine Aj (by kernel_rfl) (by kernel_rfl) ?_
      repeat (
       refine WQ.step (fun K hK=>?_)
       go_simp
       first
        | (refine hK _ ?_;clear hK K)
        | (apply Exists.intro
           refine⟨fun _=>?_,hK _ ?_⟩
           (go_at_call 162;with_reducible exact Al (Ag E _))
           clear hK K))
      refine WQ.nil ?_;intro u;have fw:=Ad hb (Af _ u);go_wp2_with fail;go_roundw
      case rel=>exact⟨j+1,x.R,x.R,by omega,by go_num,by omega,by omega,KL,Aa (.inr ⟨by omega,rfl,HN.out⟩),fw⟩
      case measure=>simp [intOf];omega
     ·rw [decide_eq_false c4] at E;have HE:=Aa (show decide (Dj (L.map Aq.pt))=false from decide_eq_false (fun h=> c4 (ow.out.1 h).2.2.2.1));clear c4;go_wp2_with fail;refine Aj (by kernel_rfl) (by kernel_rfl) ?_
      repeat (
       refine WQ.step (fun K hK=>?_)
       go_simp
       first
        | (refine hK _ ?_;clear hK K)
        | (apply Exists.intro
           refine⟨fun _=>?_,hK _ ?_⟩
           (go_at_call 162;with_reducible exact Al (Ag E _))
           clear hK K))
      refine WQ.nil ?_;intro u;have fw:=Ad hb (Af _ u);go_wp2_with fail;go_ret;exact⟨Ae HE.out.symm,fw⟩
  ·have z0:¬ (j:Int) < n:=by omega
   have HE:=Aa (show decide (Dj (L.map Aq.pt))=true from decide_eq_true (HC.out.2 (by rw [List.drop_eq_nil_of_le (by rw [Hn.out];omega)];trivial)));go_wp2_with fail;go_ret;exact⟨Ae HE.out.symm,hb⟩
theorem Nw (A:Option Addr) (n c:Nat) (L:List Aq) (w:World) (hr:RT w w.heap.size A L) (hn:L.length=n) (ax:∀ x∈L,M1 x) (hm:Dj (L.map Aq.pt)):
 Calls Tryz.prog 128 #[.slice A n c] w fun e w'=>e= .returned (.int .i64 (Gh (L.map Aq.pt)))/\Below w.heap.size w w':=by
 have HM:=Aa (Ey _ _ hm);have CI:n<=8:=by
  have h1:=Ga _ _ (by omega) hm;rw [List.length_map] at h1;rcases h1 with h | h
  ·omega
  ·have:=congrArg List.length h;rw [List.length_map] at this;simp only [List.length_nil] at this;omega
 have js:=Aa ax;have Hn:=Aa hn;have HR:=Aa hr;clear hm hr hn ax;go_enter Tryz.func128,Tryz.ntmps128;go_wp2_with fail
 go_loopw [3,4] (fun s i wr=>∃ j:Nat,j<=n/\i= .int .i64 (j:Int)/\s= .int .i64 (Gh ((L.take j).map Aq.pt))/\Below w.heap.size w wr) (fun _ i _=>n - (intOf i).toNat)
 case atStart=>exact⟨0,by omega,rfl,rfl,Below.refl _ _⟩
 case round=>
  obtain⟨j,hj,rfl,rfl,hb⟩:=hrel;by_cases ai:j < n
  ·have ap:j < L.length:=by rw [Hn.out];exact ai
   have z0:(j:Int) < n:=by omega
   have zj:(0:Int)<=j:=by omega
   have pg:=HR.out.below hb;obtain⟨bb,bo,rfl,hB,fg⟩:=RT.cell pg (by omega);obtain⟨d0,d1⟩:=fg j ap;obtain⟨x,hx⟩:∃ x,L[j]=x:=⟨_,rfl⟩;rw [hx] at d0 d1;have ba:x∈L:=by rw [<-hx];exact List.getElem_mem ap
   obtain⟨q1,q2,q3,q4⟩:=js.out x ba;have IS:Ii x.s:=(HM.out x.pt (List.mem_map_of_mem ba)).1;have EI:=Pc IS;have Ht:=Aa (show Gh ((L.take (j+1)).map Aq.pt)=Gh ((L.take j).map Aq.pt)+Dy x.s by rw [List.take_succ_eq_append_getElem ap,hx,List.map_append];exact Qr _ _)
   have EH:=Mf ((L.take j).map Aq.pt) (fun y hy=>by
    obtain⟨z,hz,rfl⟩:=List.mem_map.1 hy
    exact (HM.out z.pt (List.mem_map_of_mem (List.mem_of_mem_take hz))).1)
   rw [List.length_map,List.length_take] at EH;have hP:=Aa (Um x.A x.s.length x.c x.s wr ((pg.more hb.size).2 x ba) rfl q3 IS);obtain⟨TT,IX⟩:∃ t,t=Gh ((L.take j).map Aq.pt):=⟨_,rfl⟩;rw [<-IX] at EH Ht |-;obtain⟨SS,hSS⟩:∃ t,t=Dy x.s:=⟨_,rfl⟩;rw [<-hSS] at hP Ht EI;have zw:IntKind.i64.wrap (TT+SS)=TT+SS:=IntWalk.i64_in _ (by omega);clear fg hx ba q3 IS EI IX hSS pg EH;go_wp2_with fail;refine hP.out.mono ?_;rintro e w3 ⟨rfl,ag⟩;clear d0 d1;go_wp2_with fail;go_roundw
   case rel=>exact⟨j+1,by omega,by go_num,by rw [Ht.out],Ad hb ag⟩
   case measure=>simp [intOf];omega
  ·have z0:¬ (j:Int) < n:=by omega
   rw [List.take_of_length_le (by rw [Hn.out];omega)];go_wp2_with fail;go_ret;exact⟨rfl,hb⟩
theorem Mn (A:Option Addr) (n c:Nat) (L:List Aq) (w:World) (hr:RT w w.heap.size A L) (hn:L.length=n) (ax:∀ x∈L,M1 x) (AF:n < 1073741824):
 Calls Tryz.prog 90 #[.slice A n c] w fun e w'=>e= .returned (.bool (decide (D9 (L.map Aq.pt))))/\Below w.heap.size w w':=by
 have P:=Aa (Pw A n c L w hr hn ax AF);by_cases hm:Dj (L.map Aq.pt)
 ·have Q:=Aa (fun W (h:Below w.heap.size w W)=>Nw A n c L W ((hr.below h).more h.size) hn ax hm);rw [decide_eq_true hm] at P;have hE:=Aa (show decide (D9 (L.map Aq.pt))=decide (Gh (L.map Aq.pt)<=1024) by simp only [D9,I0,hm,true_and,if_true]);rw [hE.out];obtain⟨k,hk⟩:∃ q,q=Gh (L.map Aq.pt):=⟨_,rfl⟩;rw [<-hk] at Q |-;clear hm hE hk hr hn ax;go_enter Tryz.func90,Tryz.ntmps90;go_wp2_with fail;refine P.out.mono ?_;rintro e w2 ⟨rfl,ae⟩;go_wp2_with fail;refine (Q.out w2 ae).mono ?_;rintro e w3 ⟨rfl,ag⟩;go_wp2_with fail;go_ret;exact⟨rfl,Ad ae ag⟩
 ·rw [decide_eq_false hm] at P;have hE:=Aa (show decide (D9 (L.map Aq.pt))=false from decide_eq_false fun h=>hm h.1);rw [hE.out];clear hm hE hr hn ax;go_enter Tryz.func90,Tryz.ntmps90;go_wp2_with fail;refine P.out.mono ?_;rintro e w2 ⟨rfl,ae⟩;go_wp2_with fail;go_ret;exact⟨rfl,ae⟩
theorem Mx (t r:Int) (w:World):
 Calls Tryz.prog 92 #[.agg #[.int .u32 t,.int .u8 r]] w fun e w'=>e= .returned (.bool (decide (Fb t r)))/\Below w.heap.size w w':=by
 obtain⟨w1,au,F1,af,ac⟩:=Dr w (.int .u32 t) (.int .u8 r) 46;obtain⟨a0,a1⟩:=F1.cells;by_cases hz:t=0/\r=0
 ·have hE:=Aa (show decide (Fb t r)=true from decide_eq_true (.inl hz));rw [hE.out];obtain⟨rfl,rfl⟩:=hz;clear hE F1;go_enter Tryz.func92,Tryz.ntmps92;go_wp2_with fail;go_ret;exact⟨rfl,ac⟩
 ·have hE:decide (Fb t r)=decide (Ep t r):=by
   simp only [Fb,hz,false_or]
  rw [hE];have P:=Aa (Cr t r w1);have fu:(¬ t=0)\/(t=0/\¬ r=0):=by
   by_cases h0:t=0
   ·exact .inr ⟨h0,fun h=>hz ⟨h0,h⟩⟩
   ·exact .inl h0
  clear hz hE F1;by_cases hm:Ep t r
  ·rw [decide_eq_true hm] at P;rw [show decide (Ep t r)=true from decide_eq_true hm];clear hm;rcases fu with h | ⟨rfl,h⟩
   all_goals
    go_enter Tryz.func92,Tryz.ntmps92;go_wp2_with fail;refine P.out.mono ?_;rintro e w2 ⟨rfl,ae⟩;clear a0 a1;go_wp2_with fail;go_ret;exact⟨rfl,Ad ac ae⟩
  ·rw [decide_eq_false hm] at P;rw [show decide (Ep t r)=false from decide_eq_false hm];clear hm;rcases fu with h | ⟨rfl,h⟩
   all_goals
    go_enter Tryz.func92,Tryz.ntmps92;go_wp2_with fail;refine P.out.mono ?_;rintro e w2 ⟨rfl,ae⟩;clear a0 a1;go_wp2_with fail;go_ret;exact⟨rfl,Ad ac ae⟩
theorem Xb (k:Int) (w:World) (h0:0<=k) (h1:k<=1024):
 Calls Tryz.prog 164 #[.int .i64 k] w fun e w'=>e= .returned (.int .i64 ((k+7) / 8))/\Below w.heap.size w w':=by
 have q1:IntKind.i64.wrap (k+8)=k+8:=IntWalk.i64_in _ (by omega);have q2:IntKind.i64.wrap (k+8 - 1)=k+8 - 1:=IntWalk.i64_in _ (by omega);have q3:=Aa (show (k+8 - 1).tdiv 8=(k+7) / 8 by rw [Int.tdiv_eq_ediv_of_nonneg (by omega),show k+8 - 1=k+7 by omega]);have q5:=Aa (show (k+8 - 1) / 8=(k+7) / 8 by rw [show k+8 - 1=k+7 by omega]);have q4:IntKind.i64.wrap ((k+8 - 1) / 8)=(k+8 - 1) / 8:=IntWalk.i64_in _ (by omega);go_enter Tryz.func164,Tryz.ntmps164;go_wp2_with fail;go_ret;exact⟨by first | (rw [<-q5.out];rfl) | (rw [<-q3.out];rfl),Below.refl _ _⟩
theorem Aat (t r:Int) (rd kn:Bool) (sA gA:Option Addr) (sn sc gn gc:Nat) (s:List Aq) (g:List Bool) (w:World) (hr:RT w w.heap.size sA s) (ho:∀ y∈s,M1 y) (GZ:sn < 1073741824) (CD:s.length=sn) (EN:g.length=gn):
 Calls Tryz.prog 129 #[Go.Proofs.YtmkpfdcnikgokaaGreat.env t r rd kn (.slice sA sn sc) (.slice gA gn gc)] w fun e w'=>e= .returned (.bool (decide (Gr ((t,r),(rd,kn),(s.map Aq.pt,g)))))/\Below w.heap.size w w':=by
 obtain⟨w1,au,F1,af,ac⟩:=Df w (.int .u32 t) (.int .u8 r) (.bool rd) (.bool false) (.int .i64 0) (.bool kn) (.slice sA sn sc) (.slice gA gn gc);obtain⟨a0,a1,a2,a3,a4,a5,a6,a7⟩:=F1.cells;have az:=Aa F1;by_cases fj:Fb t r;rotate_left
 ·have hE:=Aa (show decide (Gr ((t,r),(rd,kn),(s.map Aq.pt,g)))=false from decide_eq_false fun h=>fj h.1);rw [hE.out];have hz:¬ (t=0/\r=0):=fun h=>fj (.inl h);have hm:¬ Ep t r:=fun h=>fj (.inr h);have P:=Aa (Cr t r w1);rw [decide_eq_false hm] at P;have fu:(¬ t=0)\/(t=0/\¬ r=0):=by
   by_cases h0:t=0
   ·exact .inr ⟨h0,fun h=>hz ⟨h0,h⟩⟩
   ·exact .inl h0
  clear hz hE F1 hm fj hr ho;rcases fu with h | ⟨rfl,h⟩
  all_goals
   go_enter Tryz.func129,Tryz.ntmps129;go_wp2_with fail;refine P.out.mono ?_;rintro e w2 ⟨rfl,ae⟩;clear a0 a1 a2 a3 a4 a5 a6 a7;go_wp2_with fail;go_ret;exact⟨rfl,Ad ac ae⟩
 have fu:(t=0/\r=0)\/((¬ t=0)\/(t=0/\¬ r=0))/\Ep t r:=by
  by_cases h0:t=0
  ·by_cases h1:r=0
   ·exact .inl ⟨h0,h1⟩
   ·exact .inr ⟨.inr ⟨h0,h1⟩,fj.resolve_left fun h=>h1 h.2⟩
  ·exact .inr ⟨.inl h0,fj.resolve_left fun h=>h0 h.1⟩
 cases kn with
 | false=>
   have hE:=Aa (show decide (Gr ((t,r),(rd,false),(s.map Aq.pt,g)))=(decide (sn=0) && decide (gn=0)) by
    simp only [Gr,fj,true_and,Bool.false_eq_true,if_false,List.length_map,CD,EN,Bool.decide_and])
   rw [hE.out]
   have P:=Aa (fun h:Ep t r=>by
    have:=Cr t r w1
    rwa [decide_eq_true h] at this)
   clear hE fj F1 hr ho;by_cases h1:sn=0
   ·subst h1;by_cases h2:gn=0
    ·subst h2;rcases fu with⟨rfl,rfl⟩ | ⟨h | ⟨rfl,h⟩,hm⟩
     ·clear P;go_enter Tryz.func129,Tryz.ntmps129;go_wp2_with fail;go_ret;exact⟨rfl,ac⟩
     all_goals
      have P2:=Aa (P.out hm);clear hm P;go_enter Tryz.func129,Tryz.ntmps129;go_wp2_with fail;refine P2.out.mono ?_;rintro e w2 ⟨rfl,ae⟩;clear a0 a1 a2 a3 a4 a5 a6 a7;obtain⟨a0,a1,a2,a3,a4,a5,a6,a7⟩:=(az.out.below ae).cells;go_wp2_with fail;go_ret;exact⟨rfl,Ad ac ae⟩
    ·have z:¬ (gn:Int)=0:=by omega
     have zb:((gn:Int) == 0)=false:=beq_eq_false_iff_ne.2 z;rw [decide_eq_false h2];rcases fu with⟨rfl,rfl⟩ | ⟨h | ⟨rfl,h⟩,hm⟩
     ·clear P;go_enter Tryz.func129,Tryz.ntmps129;go_wp2_with fail;go_ret;exact⟨rfl,ac⟩
     all_goals
      have P2:=Aa (P.out hm);clear hm P;go_enter Tryz.func129,Tryz.ntmps129;go_wp2_with fail;refine P2.out.mono ?_;rintro e w2 ⟨rfl,ae⟩;clear a0 a1 a2 a3 a4 a5 a6 a7;obtain⟨a0,a1,a2,a3,a4,a5,a6,a7⟩:=(az.out.below ae).cells;go_wp2_with fail;go_ret;exact⟨rfl,Ad ac ae⟩
   ·have z:¬ (sn:Int)=0:=by omega
    have zb:((sn:Int) == 0)=false:=beq_eq_false_iff_ne.2 z;rw [decide_eq_false h1];rcases fu with⟨rfl,rfl⟩ | ⟨h | ⟨rfl,h⟩,hm⟩
    ·clear P;go_enter Tryz.func129,Tryz.ntmps129;go_wp2_with fail;go_ret;exact⟨rfl,ac⟩
    all_goals
     have P2:=Aa (P.out hm);clear hm P;go_enter Tryz.func129,Tryz.ntmps129;go_wp2_with fail;refine P2.out.mono ?_;rintro e w2 ⟨rfl,ae⟩;clear a0 a1 a2 a3 a4 a5 a6 a7;obtain⟨a0,a1,a2,a3,a4,a5,a6,a7⟩:=(az.out.below ae).cells;go_wp2_with fail;go_ret;exact⟨rfl,Ad ac ae⟩
 | true=>
   have P:=Aa (fun h:Ep t r=>by
    have:=Cr t r w1
    rwa [decide_eq_true h] at this)
   have R:=Aa (fun W (h:Below w1.heap.size w1 W)=>Pw sA sn sc s W ((hr.below (Ad ac h)).more (Ad ac h).size) CD ho GZ);have Q:=Aa (fun (hm:Dj (s.map Aq.pt)) W (h:Below w1.heap.size w1 W)=>Nw sA sn sc s W ((hr.below (Ad ac h)).more (Ad ac h).size) CD ho hm)
   cases rd with
   | true=>
     have hE:=Aa (show decide (Gr ((t,r),(true,true),(s.map Aq.pt,g)))=false from decide_eq_false fun h=>by have:=h.2;simp at this);rw [hE.out];clear hE fj F1 hr ho Q R;rcases fu with⟨rfl,rfl⟩ | ⟨h | ⟨rfl,h⟩,hm⟩;rotate_left
     all_goals
      try have P2:=Aa (P.out hm)
      try clear hm
      clear P;go_enter Tryz.func129,Tryz.ntmps129;go_wp2_with fail
      first
       | (refine P2.out.mono ?_
          rintro e w2 ⟨rfl,ae⟩
          clear a0 a1 a2 a3 a4 a5 a6 a7
          obtain⟨a0,a1,a2,a3,a4,a5,a6,a7⟩:=(az.out.below ae).cells
          go_wp2_with fail)
       | (have ae:Below w1.heap.size w1 w1:=Below.refl _ _)
      go_ret;exact⟨rfl,Ad ac ae⟩
   | false=>
     by_cases QF:Dj (s.map Aq.pt);rotate_left
     ·have hE:=Aa (show decide (Gr ((t,r),(false,true),(s.map Aq.pt,g)))=false from decide_eq_false fun h=>QF (by have:=h.2;simp only [if_true] at this;exact this.2.1));rw [hE.out];rw [decide_eq_false QF] at R;clear hE fj F1 hr ho Q QF;rcases fu with⟨rfl,rfl⟩ | ⟨h | ⟨rfl,h⟩,hm⟩;rotate_left
      all_goals
       try have P2:=Aa (P.out hm)
       try clear hm
       clear P;go_enter Tryz.func129,Tryz.ntmps129;go_wp2_with fail
       first
        | (refine P2.out.mono ?_
           rintro e w2 ⟨rfl,ae⟩
           clear a0 a1 a2 a3 a4 a5 a6 a7
           obtain⟨a0,a1,a2,a3,a4,a5,a6,a7⟩:=(az.out.below ae).cells
           go_wp2_with fail)
        | (have ae:Below w1.heap.size w1 w1:=Below.refl _ _)
       refine (R.out _ ae).mono ?_;rintro e w3 ⟨rfl,ag⟩;have du:=Ad ae ag;clear a0 a1 a2 a3 a4 a5 a6 a7;go_wp2_with fail;go_ret;exact⟨rfl,Ad ac du⟩
     ·rw [decide_eq_true QF] at R;have Q2:=Aa (fun W h=>Q.out QF W h)
      have hE:=Aa (show decide (Gr ((t,r),(false,true),(s.map Aq.pt,g)))=(decide (Gh (s.map Aq.pt)<=1024) && decide ((gn:Int)=(Gh (s.map Aq.pt)+7) / 8)) by
       simp only [Gr,fj,true_and,if_true,EN,Bool.decide_and,I0,QF])
      rw [hE.out];have EM:=(Mf (s.map Aq.pt) fun y hy=>(Ey _ _ QF y hy).1).1;obtain⟨k,hk⟩:∃ q,q=Gh (s.map Aq.pt):=⟨_,rfl⟩;rw [<-hk] at Q2 EM |-;clear hE fj F1 hr ho hk QF Q;by_cases mx:k<=1024
      ·have E:=Aa (fun W=>Xb k W EM mx);rw [decide_eq_true mx,Bool.true_and];rcases fu with⟨rfl,rfl⟩ | ⟨h | ⟨rfl,h⟩,hm⟩;rotate_left
       all_goals
        try have P2:=Aa (P.out hm)
        try clear hm
        clear P;go_enter Tryz.func129,Tryz.ntmps129;go_wp2_with fail
        first
         | (refine P2.out.mono ?_
            rintro e w2 ⟨rfl,ae⟩
            clear a0 a1 a2 a3 a4 a5 a6 a7
            obtain⟨a0,a1,a2,a3,a4,a5,a6,a7⟩:=(az.out.below ae).cells
            go_wp2_with fail)
         | (have ae:Below w1.heap.size w1 w1:=Below.refl _ _)
        refine (R.out _ ae).mono ?_;rintro e w3 ⟨rfl,ag⟩;have du:=Ad ae ag;clear a0 a1 a2 a3 a4 a5 a6 a7;obtain⟨a0,a1,a2,a3,a4,a5,a6,a7⟩:=(az.out.below du).cells;go_wp2_with fail;refine (Q2.out _ du).mono ?_;rintro e w4 ⟨rfl,aw⟩;have cv:=Ad du aw;clear a0 a1 a2 a3 a4 a5 a6 a7;obtain⟨a0,a1,a2,a3,a4,a5,a6,a7⟩:=(az.out.below cv).cells;have eb:w.heap.size < w4.heap.size:=Nat.lt_of_lt_of_le af cv.size;go_wp2_with fail;refine Aj (by kernel_rfl) (by kernel_rfl) ?_
        repeat (
         refine WQ.step (fun K hK=>?_)
         go_simp
         first
          | (refine hK _ ?_;clear hK K)
          | (apply Exists.intro
             refine⟨fun _=>?_,hK _ ?_⟩
             (go_at_call 164;with_reducible exact Al (Ag E _))
             clear hK K))
        refine WQ.nil ?_;intro u;have fw:=Ad cv (Af _ u);go_wp2_with fail;go_ret;exact⟨Ae rfl,Ad ac fw⟩
      ·rw [decide_eq_false mx,Bool.false_and];have oo:(k<=1024)=False:=eq_false mx;have hk7:1024 < k:=by omega
       rcases fu with⟨rfl,rfl⟩ | ⟨h | ⟨rfl,h⟩,hm⟩;rotate_left
       all_goals
        try have P2:=Aa (P.out hm)
        try clear hm
        clear P;go_enter Tryz.func129,Tryz.ntmps129;go_wp2_with fail
        first
         | (refine P2.out.mono ?_
            rintro e w2 ⟨rfl,ae⟩
            clear a0 a1 a2 a3 a4 a5 a6 a7
            obtain⟨a0,a1,a2,a3,a4,a5,a6,a7⟩:=(az.out.below ae).cells
            go_wp2_with fail)
         | (have ae:Below w1.heap.size w1 w1:=Below.refl _ _)
        refine (R.out _ ae).mono ?_;rintro e w3 ⟨rfl,ag⟩;have du:=Ad ae ag;clear a0 a1 a2 a3 a4 a5 a6 a7;obtain⟨a0,a1,a2,a3,a4,a5,a6,a7⟩:=(az.out.below du).cells;go_wp2_with fail;refine (Q2.out _ du).mono ?_;rintro e w4 ⟨rfl,aw⟩;have cv:=Ad du aw;clear a0 a1 a2 a3 a4 a5 a6 a7;obtain⟨a0,a1,a2,a3,a4,a5,a6,a7⟩:=(az.out.below cv).cells;have eb:w.heap.size < w4.heap.size:=Nat.lt_of_lt_of_le af cv.size;go_wp2_with fail;refine Aj (by kernel_rfl) (by kernel_rfl) ?_
        repeat (
         refine WQ.step (fun K hK=>?_)
         go_simp
         refine hK _ ?_
         clear hK K)
        refine WQ.nil ?_;intro u;have fw:=Ad cv (Af _ u);go_wp2_with fail;go_ret;exact⟨Ae rfl,Ad ac fw⟩
end Go.Proofs.YtmkpfdcnikgokaaGreat
