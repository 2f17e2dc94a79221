/-
  Texts of this claim, put together: MailRef. What each theorem asks stands in its statement.
-/
import Derived.Test.YtmkpfdcnikgokaaGreatMd5
import Derived.Test.YtmkpfdcnikgokaaGreatMd13
import Derived.Test.YtmkpfdcnikgokaaGreatMd26
import Derived.Test.YtmkpfdcnikgokaaGreatMd27
set_option linter.unusedVariables false
set_option linter.unusedSimpArgs false
set_option maxRecDepth 100000
set_option maxHeartbeats 25600000
namespace Go.Proofs.YtmkpfdcnikgokaaGreat
open Go.RowKit
theorem Ye (A B:Option Addr) (c d n k:Nat) (l m:List Sp) (w:World) (hr:RS w w.heap.size A l) (hs:RS w w.heap.size B m) (hn:l.length=n) (hk:m.length=k) (hl:n < 1073741824):
 Calls Tryz.prog 107 #[.slice A n c,.slice B k d] w fun e w'=>e= .returned (.bool (decide (l=m)))/\Below w.heap.size w w':=by
 subst hn hk;by_cases ak:(l.length:Int)=(m.length:Int)
 ·have tg:l.length=m.length:=by omega
  have E:=Aa tg;have ng:((l.length:Int) == (m.length:Int))=true:=by simpa using ak
  have ot:((l.length:Int) != (m.length:Int))=false:=by simpa using ak
  clear ak;go_enter Tryz.func107,Tryz.ntmps107;clear tg;go_wp2_with fail
  go_loopw [5] (fun i wr=>∃ k:Nat,k<=l.length/\i= .int .i64 (k:Int)/\Hid (l.take k=m.take k)/\Below w.heap.size w wr) (fun i _=>l.length - (intOf i).toNat)
  case atStart=>exact⟨0,by omega,rfl,Aa rfl,Below.refl _ _⟩
  case round=>
   obtain⟨k,hk,rfl,hT,hb⟩:=hrel;by_cases ai:k < l.length
   ·have di:k < m.length:=by have:=E.out;omega
    obtain⟨b0,o0,rfl,py,er⟩:=RS.cell (RD.below hr hb) (by omega);obtain⟨b1,o1,rfl,eb,kh⟩:=RS.cell (RD.below hs hb) (by omega);obtain⟨d0,d1⟩:=er k ai;obtain⟨e0,e1⟩:=kh k di;clear er kh;have z0:(k:Int) < l.length:=by omega
    have z1:(k:Int) < m.length:=by omega
    have z4:(0:Int)<=k:=by omega
    obtain⟨x0,qe⟩:∃ x,x=l[k].1:=⟨_,rfl⟩;obtain⟨x1,jz⟩:∃ x,x=l[k].2:=⟨_,rfl⟩;obtain⟨y0,sg⟩:∃ x,x=m[k].1:=⟨_,rfl⟩;obtain⟨y1,vt⟩:∃ x,x=m[k].2:=⟨_,rfl⟩;rw [<-qe] at d0;rw [<-jz] at d1;rw [<-sg] at e0;rw [<-vt] at e1;have hX:=Aa (show l[k]=(x0,x1) by rw [qe,jz]);have hY:=Aa (show m[k]=(y0,y1) by rw [sg,vt]);clear qe jz sg vt;by_cases jy:x0=y0/\x1=y1
    ·obtain⟨rfl,rfl⟩:=jy;go_wp2_with fail
     go_quiet (fail)
     go_wp2_with fail;go_roundw
     case rel=>
      refine⟨k+1,by omega,by go_num,Aa ?_,Bk hb _⟩;rw [List.take_succ_eq_append_getElem ai,List.take_succ_eq_append_getElem di,hT.out,hX.out,hY.out]
     case measure=>simp [intOf];omega
    ·have fu:(¬ x0=y0)\/(x0=y0/\¬ x1=y1):=by
      by_cases h0:x0=y0
      ·exact .inr ⟨h0,fun h1=>jy ⟨h0,h1⟩⟩
      ·exact .inl h0
     have hf:=Aa (show decide (l=m)=false by
      rw [decide_eq_false_iff_not]
      intro e
      subst e
      have:=hX.out.symm.trans hY.out
      simp only [Prod.mk.injEq] at this
      exact jy this)
     clear jy;rcases fu with h0 | ⟨rfl,h1⟩
     all_goals
      go_wp2_with fail
      go_quiet (fail)
      go_wp2_with fail;go_ret;exact⟨Ae hf.out.symm,Bk hb _⟩
   ·have qv:¬ (k:Int) < l.length:=by omega
    have fin:=Aa (show decide (l=m)=true by
     have h1:=hT.out
     rw [List.take_of_length_le (by omega),List.take_of_length_le (by have:=E.out;omega)] at h1
     exact decide_eq_true h1)
    go_wp2_with fail;go_ret;exact⟨Ae fin.out.symm,hb⟩
 ·have ng:((l.length:Int) == (m.length:Int))=false:=by simpa using ak
  have ot:((l.length:Int) != (m.length:Int))=true:=by simpa using ak
  have fin:=Aa (show decide (l=m)=false by
   rw [decide_eq_false_iff_not]
   intro e
   exact ak (by rw [e]))
  clear ak;go_enter Tryz.func107,Tryz.ntmps107;go_wp2_with fail;go_ret;exact⟨Ae fin.out.symm,Below.refl _ _⟩
theorem Zn (A B:Option Addr) (c d n k:Nat) (l m:List Bool) (w:World) (hr:M3 w w.heap.size A l) (hs:M3 w w.heap.size B m) (hn:l.length=n) (hk:m.length=k) (hl:n < 1073741824):
 Calls Tryz.prog 169 #[.slice A n c,.slice B k d] w fun e w'=>e= .returned (.bool (decide (l=m)))/\Below w.heap.size w w':=by
 subst hn hk;by_cases ak:(l.length:Int)=(m.length:Int)
 ·have tg:l.length=m.length:=by omega
  have E:=Aa tg;have ng:((l.length:Int) == (m.length:Int))=true:=by simpa using ak
  have ot:((l.length:Int) != (m.length:Int))=false:=by simpa using ak
  clear ak;go_enter Tryz.func169,Tryz.ntmps169;clear tg;go_wp2_with fail
  go_loopw [5] (fun i wr=>∃ k:Nat,k<=l.length/\i= .int .i64 (k:Int)/\Hid (l.take k=m.take k)/\Below w.heap.size w wr) (fun i _=>l.length - (intOf i).toNat)
  case atStart=>exact⟨0,by omega,rfl,Aa rfl,Below.refl _ _⟩
  case round=>
   obtain⟨k,hk,rfl,hT,hb⟩:=hrel;by_cases ai:k < l.length
   ·have di:k < m.length:=by have:=E.out;omega
    obtain⟨b0,o0,rfl,py,er⟩:=M3.cell (RD.below hr hb) (by omega);obtain⟨b1,o1,rfl,eb,kh⟩:=M3.cell (RD.below hs hb) (by omega);have d0:=er k ai;have e0:=kh k di;clear er kh;have z0:(k:Int) < l.length:=by omega
    have z1:(k:Int) < m.length:=by omega
    have z4:(0:Int)<=k:=by omega
    obtain⟨x0,qe⟩:∃ x,x=l[k]:=⟨_,rfl⟩;obtain⟨y0,sg⟩:∃ x,x=m[k]:=⟨_,rfl⟩;rw [<-qe] at d0;rw [<-sg] at e0;have hX:=Aa qe.symm;have hY:=Aa sg.symm;clear qe sg;by_cases jy:x0=y0
    ·subst jy;go_wp2_with fail
     go_quiet (fail)
     go_wp2_with fail;go_roundw
     case rel=>
      refine⟨k+1,by omega,by go_num,Aa ?_,Bk hb _⟩;rw [List.take_succ_eq_append_getElem ai,List.take_succ_eq_append_getElem di,hT.out,hX.out,hY.out]
     case measure=>simp [intOf];omega
    ·have hf:=Aa (show decide (l=m)=false by
      rw [decide_eq_false_iff_not]
      intro e
      subst e
      exact jy (hX.out.symm.trans hY.out))
     have el:(x0 != y0)=true:=by simpa using jy
     have hbe':(x0 == y0)=false:=by simpa using jy
     clear jy;go_wp2_with fail
     go_quiet (fail)
     go_wp2_with fail;go_ret;exact⟨Ae hf.out.symm,Bk hb _⟩
   ·have qv:¬ (k:Int) < l.length:=by omega
    have fin:=Aa (show decide (l=m)=true by
     have h1:=hT.out
     rw [List.take_of_length_le (by omega),List.take_of_length_le (by have:=E.out;omega)] at h1
     exact decide_eq_true h1)
    go_wp2_with fail;go_ret;exact⟨Ae fin.out.symm,hb⟩
 ·have ng:((l.length:Int) == (m.length:Int))=false:=by simpa using ak
  have ot:((l.length:Int) != (m.length:Int))=true:=by simpa using ak
  have fin:=Aa (show decide (l=m)=false by
   rw [decide_eq_false_iff_not]
   intro e
   exact ak (by rw [e]))
  clear ak;go_enter Tryz.func169,Tryz.ntmps169;go_wp2_with fail;go_ret;exact⟨Ae fin.out.symm,Below.refl _ _⟩
theorem Nf (A B:Option Addr) (c d n k:Nat) (L M:List Aq) (w:World) (hr:RT w w.heap.size A L) (hs:RT w w.heap.size B M) (hn:L.length=n) (hk:M.length=k) (hl:n < 1073741824) (ho:∀ x∈L,M1 x):
 Calls Tryz.prog 69 #[.slice A n c,.slice B k d] w fun e w'=>e= .returned (.bool (decide (L.map Aq.pt=M.map Aq.pt)))/\Below w.heap.size w w':=by
 have HR:=Aa hr;have HS:=Aa hs;have Ho:=Aa ho;have EV:=Aa (And.intro hn hk);clear hr hs ho;by_cases ak:(n:Int)=(k:Int)
 ·have FQ:n=k:=by omega
  have ng:((n:Int) == (k:Int))=true:=by simpa using ak
  have ot:((n:Int) != (k:Int))=false:=by simpa using ak
  have E:=Aa FQ;clear ak hn hk FQ;go_enter Tryz.func69,Tryz.ntmps69;go_wp2_with fail
  go_loopw [5] (fun i wr=>∃ j:Nat,j<=n/\i= .int .i64 (j:Int)/\Hid ((L.take j).map Aq.pt=(M.take j).map Aq.pt)/\Below w.heap.size w wr) (fun i _=>n - (intOf i).toNat)
  case atStart=>exact⟨0,by omega,rfl,Aa rfl,Below.refl _ _⟩
  case round=>
   obtain⟨j,hj,rfl,hT,hb⟩:=hrel;by_cases ai:j < n
   ·have z0:(j:Int) < n:=by omega
    have z1:(j:Int) < k:=by have:=E.out;omega
    have zj:(0:Int)<=j:=by omega
    have ap:j < L.length:=by rw [EV.out.1];exact ai
    have qn:j < M.length:=by rw [EV.out.2,<-E.out];exact ai
    obtain⟨b0,o0,rfl,py,er⟩:=RT.cell (HR.out.below hb) (by omega);obtain⟨b1,o1,rfl,eb,kh⟩:=RT.cell (HS.out.below hb) (by omega);obtain⟨x,hx⟩:∃ x,L[j]=x:=⟨_,rfl⟩;obtain⟨y,hy⟩:∃ y,M[j]=y:=⟨_,rfl⟩;obtain⟨d0,d1⟩:=er j ap;obtain⟨e0,e1⟩:=kh j qn;rw [hx] at d0 d1;rw [hy] at e0 e1;have ba:x∈L:=by rw [<-hx];exact List.getElem_mem ap
    have m9:y∈M:=by rw [<-hy];exact List.getElem_mem qn
    have HX:=Aa (((HR.out.below hb).more hb.size).2 x ba);have HY:=Aa (((HS.out.below hb).more hb.size).2 y m9);have yo:=Aa (Ho.out x ba);have T0:=Aa (show (L.take (j+1)).map Aq.pt=(L.take j).map Aq.pt++ [Aq.pt x] by rw [List.take_succ_eq_append_getElem ap,hx,List.map_append];rfl);have T1:=Aa (show (M.take (j+1)).map Aq.pt=(M.take j).map Aq.pt++ [Aq.pt y] by rw [List.take_succ_eq_append_getElem qn,hy,List.map_append];rfl);have X0:=Aa (And.intro hx hy);have hB0r:b0 < wr.heap.size:=by have:=hb.size;omega
    have hB1r:b1 < wr.heap.size:=by have:=hb.size;omega
    have NO:=Aa (show ∀ (h:Aq.pt x≠Aq.pt y),decide (L.map Aq.pt=M.map Aq.pt)=false from fun h=>decide_eq_false fun h'=>by
     have h1:=congrArg (fun l=>l[j]?) h'
     simp only [List.getElem?_map,List.getElem?_eq_getElem ap,List.getElem?_eq_getElem qn,hx,hy,Option.map_some,Option.some.injEq] at h1
     exact h h1)
    have YES:=Aa (show Aq.pt x=Aq.pt y->(L.take (j+1)).map Aq.pt=(M.take (j+1)).map Aq.pt from fun h=>by rw [T0.out,T1.out,hT.out,h]);clear er kh ba m9 hx hy;obtain⟨R,sA,sc,s⟩:=x;obtain⟨R',dz,ec,s'⟩:=y;simp only at d0 d1 e0 e1;obtain⟨bv,iu⟩:∃ bv,decide (s=s')=bv:=⟨_,rfl⟩;have S:=Aa (fun u=>Ye sA dz sc ec s.length s'.length s s' (Bs wr u) ((RD.below HX.out (Af wr u)).more (Af wr u).size) ((RD.below HY.out (Af wr u)).more (Af wr u).size) rfl rfl yo.out.2.2.2);rw [iu] at S;by_cases hR:R=R'
    ·subst hR
     have QS:Hid (Aq.pt ⟨R,sA,sc,s⟩=Aq.pt ⟨R,dz,ec,s'⟩↔bv=true):=Aa (by
      rw [<-iu,decide_eq_true_iff]
      simp only [Aq.pt,Prod.mk.injEq,true_and])
     clear iu;go_wp2_with fail;refine Aj (by kernel_rfl) (by kernel_rfl) ?_
     repeat (
      refine WQ.step (fun K hK=>?_)
      go_simp
      first
       | (refine hK _ ?_;clear hK K)
       | (apply Exists.intro
          refine⟨fun _=>?_,hK _ ?_⟩
          (go_at_call 107;with_reducible exact Al (Ag S _))
          clear hK K))
     refine WQ.nil ?_;intro u;have ag:=Ad hb (Af wr u);clear d0 d1 e0 e1;cases bv
     ·have hf:=Aa (NO.out (fun h=>by have:=QS.out.1 h;cases this));go_wp2_with fail;go_ret;exact⟨Ae hf.out.symm,ag⟩
     ·have IY:=Aa (YES.out (QS.out.2 rfl));go_wp2_with fail;go_roundw
      case rel=>exact⟨j+1,by omega,by go_num,IY,ag⟩
      case measure=>simp [intOf];omega
    ·have hRb:(R != R')=true:=by simpa using hR
     have hRe:(R == R')=false:=by simpa using hR
     have hf:=Aa (NO.out (fun h=>hR (by simp only [Aq.pt,Prod.mk.injEq] at h;exact h.1)));clear hR iu;go_wp2_with fail;refine Aj (by kernel_rfl) (by kernel_rfl) ?_
     repeat (
      refine WQ.step (fun K hK=>?_)
      go_simp
      first
       | (refine hK _ ?_;clear hK K)
       | (apply Exists.intro
          refine⟨fun _=>?_,hK _ ?_⟩
          (go_at_call 107;with_reducible exact Al (Ag S _))
          clear hK K))
     refine WQ.nil ?_;intro u;have ag:=Ad hb (Af wr u);clear d0 d1 e0 e1;go_wp2_with fail;go_ret;exact⟨Ae hf.out.symm,ag⟩
   ·have z0:¬ (j:Int) < n:=by omega
    have fin:=Aa (show decide (L.map Aq.pt=M.map Aq.pt)=true by
     have h1:=hT.out
     rw [List.take_of_length_le (by rw [EV.out.1];omega),List.take_of_length_le (by rw [EV.out.2,<-E.out];omega)] at h1
     exact decide_eq_true h1)
    go_wp2_with fail;go_ret;exact⟨Ae fin.out.symm,hb⟩
 ·have ng:((n:Int) == (k:Int))=false:=by simpa using ak
  have ot:((n:Int) != (k:Int))=true:=by simpa using ak
  have fin:=Aa (show decide (L.map Aq.pt=M.map Aq.pt)=false by
   rw [decide_eq_false_iff_not]
   intro e
   have:=congrArg List.length e
   rw [List.length_map,List.length_map,hn,hk] at this
   exact ak (by rw [this]))
  clear ak hn hk;go_enter Tryz.func69,Tryz.ntmps69;go_wp2_with fail;go_ret;exact⟨Ae fin.out.symm,Below.refl _ _⟩
theorem Afc (t r t' r':Int) (rd kn mr ms:Bool) (sA dz gA my:Option Addr) (sc ec gc od:Nat) (s s':List Aq) (g g':List Bool) (w:World) (hr:RT w w.heap.size sA s/\M3 w w.heap.size gA g) (hs:RT w w.heap.size dz s'/\M3 w w.heap.size my g') (ho:(∀ y∈s,M1 y)/\s.length < 1073741824/\g.length < 1073741824):
 Calls Tryz.prog 145 #[Go.Proofs.YtmkpfdcnikgokaaGreat.env t r rd kn (.slice sA s.length sc) (.slice gA g.length gc),Go.Proofs.YtmkpfdcnikgokaaGreat.env t' r' mr ms (.slice dz s'.length ec) (.slice my g'.length od)] w fun e w'=>e= .returned (.bool (decide ((((t,r),(rd,kn),(s.map Aq.pt,g)):Qm)=((t',r'),(mr,ms),(s'.map Aq.pt,g')))))/\Below w.heap.size w w':=by
 obtain⟨w1,au,F1,af,ac⟩:=Df w (.int .u32 t) (.int .u8 r) (.bool rd) (.bool false) (.int .i64 0) (.bool kn) (.slice sA s.length sc) (.slice gA g.length gc);obtain⟨w2,fc,F2,cd,ae⟩:=Df w1 (.int .u32 t') (.int .u8 r') (.bool mr) (.bool false) (.int .i64 0) (.bool ms) (.slice dz s'.length ec) (.slice my g'.length od);have al:=Ad ac ae;have az:=Aa (F1.below ae);have db:=Aa F2;obtain⟨a0,a1,a2,a3,a4,a5,a6,a7⟩:=az.out.cells;obtain⟨b0,b1,b2,b3,b4,b5,b6,b7⟩:=F2.cells;have P:=Aa (Nf sA dz sc ec s.length s'.length s s' w2 ((hr.1.below al).more al.size) ((hs.1.below al).more al.size) rfl rfl ho.2.1 ho.1);have Q:=Aa (fun W (h:Below w2.heap.size w2 W)=>Zn gA my gc od g.length g'.length g g' W (RD.more (RD.below (RD.more (RD.below hr.2 al) al.size) h) h.size) (RD.more (RD.below (RD.more (RD.below hs.2 al) al.size) h) h.size) rfl rfl ho.2.2);have HEn:Hid ((((t,r),(rd,kn),(s.map Aq.pt,g)):Qm)=((t',r'),(mr,ms),(s'.map Aq.pt,g'))↔t=t'/\r=r'/\rd=mr/\kn=ms/\s.map Aq.pt=s'.map Aq.pt/\g=g'):=Aa (by simp only [Prod.mk.injEq,and_assoc]);obtain⟨q1,zm⟩:∃ q,decide (s.map Aq.pt=s'.map Aq.pt)=q:=⟨_,rfl⟩;obtain⟨q2,IZ⟩:∃ q,decide (g=g')=q:=⟨_,rfl⟩;rw [zm] at P;rw [IZ] at Q;obtain⟨en,xx⟩:∃ q,decide ((((t,r),(rd,kn),(s.map Aq.pt,g)):Qm)=((t',r'),(mr,ms),(s'.map Aq.pt,g')))=q:=⟨_,rfl⟩;rw [xx]
 have HD:Hid (en=true↔t=t'/\r=r'/\rd=mr/\kn=ms/\q1=true/\q2=true):=Aa (by
  rw [<-xx,<-zm,<-IZ,decide_eq_true_iff,decide_eq_true_iff,decide_eq_true_iff]
  exact HEn.out)
 clear xx zm IZ HEn ho hr hs F1 F2
 have no:∀ (P:Prop),(en=true->P)->¬ P->en=false:=fun P h1 h2=>by
  cases he:en
  ·rfl
  ·exact absurd (h1 he) h2
 have NO:=Aa no;clear no;by_cases c0:t=t';rotate_left
 ·have hE:=Aa (NO.out _ (fun h=>(HD.out.1 h).1) c0);go_enter Tryz.func145,Tryz.ntmps145;go_wp2_with fail;go_ret;exact⟨by rw [hE.out];rfl,al⟩
 subst c0;by_cases c1:r=r';rotate_left
 ·have hE:=Aa (NO.out _ (fun h=>(HD.out.1 h).2.1) c1);go_enter Tryz.func145,Tryz.ntmps145;go_wp2_with fail;go_ret;exact⟨by rw [hE.out];rfl,al⟩
 subst c1;by_cases c2:rd=mr;rotate_left
 ·have hE:=Aa (NO.out _ (fun h=>(HD.out.1 h).2.2.1) c2);have ll:(rd == mr)=false:=by simpa using c2
  go_enter Tryz.func145,Tryz.ntmps145;go_wp2_with fail;go_ret;exact⟨by rw [hE.out];rfl,al⟩
 subst c2;by_cases c3:kn=ms;rotate_left
 ·have hE:=Aa (NO.out _ (fun h=>(HD.out.1 h).2.2.2.1) c3);have ll:(kn == ms)=false:=by simpa using c3
  go_enter Tryz.func145,Tryz.ntmps145;go_wp2_with fail;go_ret;exact⟨by rw [hE.out];rfl,al⟩
 subst c3
 cases q1 with
 | false=>
   have hE:=Aa (NO.out _ (fun h=>(HD.out.1 h).2.2.2.2.1) (by decide));go_enter Tryz.func145,Tryz.ntmps145;go_wp2_with fail;refine P.out.mono ?_;rintro e w3 ⟨rfl,ag⟩;clear a0 a1 a2 a3 a4 a5 a6 a7 b0 b1 b2 b3 b4 b5 b6 b7;go_wp2_with fail;go_ret;exact⟨by rw [hE.out];rfl,Ad al ag⟩
 | true=>
   have hE:=Aa (show en=q2 by
    cases q2
    ·exact NO.out _ (fun h=>(HD.out.1 h).2.2.2.2.2) (by decide)
    ·exact HD.out.2 ⟨rfl,rfl,rfl,rfl,rfl,rfl⟩)
   go_enter Tryz.func145,Tryz.ntmps145;go_wp2_with fail;refine P.out.mono ?_;rintro e w3 ⟨rfl,ag⟩;clear a0 a1 a2 a3 a4 a5 a6 a7 b0 b1 b2 b3 b4 b5 b6 b7;obtain⟨a0,a1,a2,a3,a4,a5,a6,a7⟩:=(az.out.below ag).cells;obtain⟨b0,b1,b2,b3,b4,b5,b6,b7⟩:=(db.out.below ag).cells;go_wp2_with fail;refine (Q.out w3 ag).mono ?_;rintro e w4 ⟨rfl,aw⟩;clear a0 a1 a2 a3 a4 a5 a6 a7 b0 b1 b2 b3 b4 b5 b6 b7;go_wp2_with fail;go_ret;exact⟨by rw [hE.out];rfl,Ad (Ad al ag) aw⟩
theorem Afo (t r t' r':Int) (rd kn mr ms:Bool) (hA jc sA dz gA my:Option Addr) (hc tj sc ec gc od:Nat) (h h' s s':List Aq) (g g':List Bool) (w:World) (hr:RT w w.heap.size hA h/\RT w w.heap.size sA s/\M3 w w.heap.size gA g) (hs:RT w w.heap.size jc h'/\RT w w.heap.size dz s'/\M3 w w.heap.size my g') (ho:N5 ⟨t,r,rd,kn,hA,hc,h,sA,sc,s,gA,gc,g⟩):
 Calls Tryz.prog 109 #[wsv t r rd kn (.slice hA h.length hc) (.slice sA s.length sc) (.slice gA g.length gc),wsv t' r' mr ms (.slice jc h'.length tj) (.slice dz s'.length ec) (.slice my g'.length od)] w fun e w'=>e= .returned (.bool (decide ((((t,r),(rd,kn),(s.map Aq.pt,g)):Qm)=((t',r'),(mr,ms),(s'.map Aq.pt,g'))/\h.map Aq.pt=h'.map Aq.pt)))/\Below w.heap.size w w':=by
 obtain⟨w1,au,F1,af,ac⟩:=Ct w (.int .u32 t) (.int .u8 r) (.bool rd) (.slice hA h.length hc) (.bool kn) (.slice sA s.length sc) (.slice gA g.length gc);obtain⟨w2,fc,F2,cd,ae⟩:=Ct w1 (.int .u32 t') (.int .u8 r') (.bool mr) (.slice jc h'.length tj) (.bool ms) (.slice dz s'.length ec) (.slice my g'.length od);obtain⟨w3,b8,F3,fo,ag⟩:=Df w2 (.int .u32 t) (.int .u8 r) (.bool rd) (.bool false) (.int .i64 0) (.bool kn) (.slice sA s.length sc) (.slice gA g.length gc);obtain⟨w4,eo,F4,NC,aw⟩:=Df w3 (.int .u32 t') (.int .u8 r') (.bool mr) (.bool false) (.int .i64 0) (.bool ms) (.slice dz s'.length ec) (.slice my g'.length od);have GP:Below w2.heap.size w2 w4:=Ad ag aw;have fk:=Ad ae GP;have cv:=Ad ac fk;have az:=Aa (F1.below fk);have db:=Aa (F2.below GP);obtain⟨a0,a1,a2,a3,a4,a5,a6⟩:=(F1.below ae).cells;obtain⟨b0,b1,b2,b3,b4,b5,b6⟩:=F2.cells;obtain⟨c0,c1,c2,c3,c4,c5,c6⟩:=(F1.below (Ad ae ag)).cells;obtain⟨d0,d1,d2,d3,d4,d5,d6⟩:=(F2.below ag).cells;obtain⟨e0,e1,e2,e3,e4,e5,e6,e7⟩:=(F3.below aw).cells;obtain⟨f0,f1,f2,f3,f4,f5,f6,f7⟩:=F4.cells;obtain⟨g0,g1,g2,g3,g4,g5,g6⟩:=az.out.cells;obtain⟨i0,i1,i2,i3,i4,i5,i6⟩:=db.out.cells;have P:=Aa (Afc t r t' r' rd kn mr ms sA dz gA my sc ec gc od s s' g g' w4 ⟨(hr.2.1.below cv).more cv.size,(RD.below hr.2.2 cv).more cv.size⟩ ⟨(hs.2.1.below cv).more cv.size,(RD.below hs.2.2 cv).more cv.size⟩ ⟨ho.2.2.2.2.2.1,ho.2.2.2.2.2.2.2.1,ho.2.2.2.2.2.2.2.2⟩);have Q:=Aa (fun W (hW:Below w4.heap.size w4 W)=>Nf hA jc hc tj h.length h'.length h h' W ((hr.1.below (Ad cv hW)).more (Ad cv hW).size) ((hs.1.below (Ad cv hW)).more (Ad cv hW).size) rfl rfl ho.2.2.2.2.2.2.1 ho.2.2.2.2.1);obtain⟨q1,zm⟩:∃ q,decide ((((t,r),(rd,kn),(s.map Aq.pt,g)):Qm)=((t',r'),(mr,ms),(s'.map Aq.pt,g')))=q:=⟨_,rfl⟩;obtain⟨q2,IZ⟩:∃ q,decide (h.map Aq.pt=h'.map Aq.pt)=q:=⟨_,rfl⟩;rw [zm] at P;rw [IZ] at Q;have HD:=Aa (show decide ((((t,r),(rd,kn),(s.map Aq.pt,g)):Qm)=((t',r'),(mr,ms),(s'.map Aq.pt,g'))/\h.map Aq.pt=h'.map Aq.pt)=(q1 && q2) by rw [<-zm,<-IZ,Bool.decide_and]);rw [HD.out];have HB:=Aa cv;clear zm IZ HD hr hs ho F1 F2 F3 F4 ac ae ag aw GP fk cv;cases q1
 ·go_enter Tryz.func109,Tryz.ntmps109;go_wp2_with fail;refine P.out.mono ?_;rintro e w5 ⟨rfl,bq⟩;have ch:=Ad HB.out bq;clear a0 a1 a2 a3 a4 a5 a6 b0 b1 b2 b3 b4 b5 b6 c0 c1 c2 c3 c4 c5 c6 d0 d1 d2 d3 d4 d5 d6 e0 e1 e2 e3 e4 e5 e6 e7 f0 f1 f2 f3 f4 f5 f6 f7 g0 g1 g2 g3 g4 g5 g6 i0 i1 i2 i3 i4 i5 i6 au fc b8 eo;go_wp2_with fail;go_ret;exact⟨rfl,ch⟩
 ·go_enter Tryz.func109,Tryz.ntmps109;go_wp2_with fail;refine P.out.mono ?_;rintro e w5 ⟨rfl,bq⟩;have ja:=Aa (Ad HB.out bq);clear a0 a1 a2 a3 a4 a5 a6 b0 b1 b2 b3 b4 b5 b6 c0 c1 c2 c3 c4 c5 c6 d0 d1 d2 d3 d4 d5 d6 e0 e1 e2 e3 e4 e5 e6 e7 f0 f1 f2 f3 f4 f5 f6 f7 g0 g1 g2 g3 g4 g5 g6 i0 i1 i2 i3 i4 i5 i6 au fc b8 eo;obtain⟨g0,g1,g2,g3,g4,g5,g6⟩:=(az.out.below bq).cells;obtain⟨i0,i1,i2,i3,i4,i5,i6⟩:=(db.out.below bq).cells;have Q5:=Aa (Q.out w5 bq);clear Q;go_wp2_with fail;refine Q5.out.mono ?_;rintro e w6 ⟨rfl,bf⟩;have ch:=Ad ja.out bf;clear g0 g1 g2 g3 g4 g5 g6 i0 i1 i2 i3 i4 i5 i6;go_wp2_with fail;go_ret;exact⟨by cases q2 <;> rfl,ch⟩
theorem Ad9 {x y:Ay}:x.wp=y.wp↔x.en=y.en/\x.h.map Aq.pt=y.h.map Aq.pt:=by
 simp only [Ay.wp,Ay.en,WP.mk.injEq,Prod.mk.injEq];constructor
 ·rintro ⟨a,b,c,d,e,f,g⟩;exact⟨⟨⟨a,b⟩,⟨c,d⟩,f,g⟩,e⟩
 ·rintro ⟨⟨⟨a,b⟩,⟨c,d⟩,f,g⟩,e⟩;exact⟨a,b,c,d,e,f,g⟩
instance:DecidableEq WP:=fun x y=>decidable_of_iff (WP.en x=WP.en y/\WP.hp x=WP.hp y) ⟨fun h=>Z3 h.1 h.2,fun h=>by rw [h];exact⟨rfl,rfl⟩⟩
theorem Vy (A B:Option Addr) (c d n k:Nat) (L M:List Ay) (w:World) (hr:RW w w.heap.size A L) (hs:RW w w.heap.size B M) (hn:L.length=n) (hk:M.length=k) (hl:n < 1073741824) (ho:∀ x∈L,N5 x):
 Calls Tryz.prog 71 #[.slice A n c,.slice B k d] w fun e w'=>e= .returned (.bool (decide (L.map Ay.wp=M.map Ay.wp)))/\Below w.heap.size w w':=by
 have HR:=Aa hr;have HS:=Aa hs;have Ho:=Aa ho;have EV:=Aa (And.intro hn hk);clear hr hs ho;by_cases ak:(n:Int)=(k:Int)
 ·have FQ:n=k:=by omega
  have ng:((n:Int) == (k:Int))=true:=by simpa using ak
  have ot:((n:Int) != (k:Int))=false:=by simpa using ak
  have E:=Aa FQ;clear ak hn hk FQ;go_enter Tryz.func71,Tryz.ntmps71;go_wp2_with fail
  go_loopw [5] (fun i wr=>∃ j:Nat,j<=n/\i= .int .i64 (j:Int)/\Hid ((L.take j).map Ay.wp=(M.take j).map Ay.wp)/\Below w.heap.size w wr) (fun i _=>n - (intOf i).toNat)
  case atStart=>exact⟨0,by omega,rfl,Aa rfl,Below.refl _ _⟩
  case round=>
   obtain⟨j,hj,rfl,hT,hb⟩:=hrel;by_cases ai:j < n
   ·have z0:(j:Int) < n:=by omega
    have z1:(j:Int) < k:=by have:=E.out;omega
    have zj:(0:Int)<=j:=by omega
    have ap:j < L.length:=by rw [EV.out.1];exact ai
    have qn:j < M.length:=by rw [EV.out.2,<-E.out];exact ai
    obtain⟨b0,o0,rfl,py,er⟩:=RW.cell (HR.out.below hb) (by omega);obtain⟨b1,o1,rfl,eb,kh⟩:=RW.cell (HS.out.below hb) (by omega);obtain⟨x,hx⟩:∃ x,L[j]=x:=⟨_,rfl⟩;obtain⟨y,hy⟩:∃ y,M[j]=y:=⟨_,rfl⟩;obtain⟨d0,d1,d2,d3,d4,d5,d6⟩:=er j ap;obtain⟨e0,e1,e2,e3,e4,e5,e6⟩:=kh j qn;rw [hx] at d0 d1 d2 d3 d4 d5 d6;rw [hy] at e0 e1 e2 e3 e4 e5 e6;have ba:x∈L:=by rw [<-hx];exact List.getElem_mem ap
    have m9:y∈M:=by rw [<-hy];exact List.getElem_mem qn
    have HX:=Aa (((HR.out.below hb).more hb.size).2 x ba);have HY:=Aa (((HS.out.below hb).more hb.size).2 y m9);have yo:=Aa (Ho.out x ba);have T0:=Aa (show (L.take (j+1)).map Ay.wp=(L.take j).map Ay.wp++ [Ay.wp x] by rw [List.take_succ_eq_append_getElem ap,hx,List.map_append];rfl);have T1:=Aa (show (M.take (j+1)).map Ay.wp=(M.take j).map Ay.wp++ [Ay.wp y] by rw [List.take_succ_eq_append_getElem qn,hy,List.map_append];rfl);have X0:=Aa (And.intro hx hy);have hB0r:b0 < wr.heap.size:=by have:=hb.size;omega
    have hB1r:b1 < wr.heap.size:=by have:=hb.size;omega
    have NO:=Aa (show ∀ (h:Ay.wp x≠Ay.wp y),decide (L.map Ay.wp=M.map Ay.wp)=false from fun h=>decide_eq_false fun h'=>by
     have h1:=congrArg (fun l=>l[j]?) h'
     simp only [List.getElem?_map,List.getElem?_eq_getElem ap,List.getElem?_eq_getElem qn,hx,hy,Option.map_some,Option.some.injEq] at h1
     exact h h1)
    have YES:=Aa (show Ay.wp x=Ay.wp y->(L.take (j+1)).map Ay.wp=(M.take (j+1)).map Ay.wp from fun h=>by rw [T0.out,T1.out,hT.out,h]);clear er kh ba m9 hx hy;obtain⟨bv,iu⟩:∃ bv,decide (x.en=y.en/\x.h.map Aq.pt=y.h.map Aq.pt)=bv:=⟨_,rfl⟩;have S:=Aa (fun u=>Afo x.t x.r y.t y.r x.rd x.kn y.rd y.kn x.hA y.hA x.sA y.sA x.gA y.gA x.hc y.hc x.sc y.sc x.gc y.gc x.h y.h x.s y.s x.g y.g (Bs wr u) ⟨(HX.out.1.below (Af wr u)).more (Af wr u).size,(HX.out.2.1.below (Af wr u)).more (Af wr u).size,(RD.below HX.out.2.2 (Af wr u)).more (Af wr u).size⟩ ⟨(HY.out.1.below (Af wr u)).more (Af wr u).size,(HY.out.2.1.below (Af wr u)).more (Af wr u).size,(RD.below HY.out.2.2 (Af wr u)).more (Af wr u).size⟩ yo.out);change Hid (∀ u,Calls _ _ _ _ fun e w'=>e= .returned (.bool (decide (x.en=y.en/\x.h.map Aq.pt=y.h.map Aq.pt)))/\_) at S;rw [iu] at S;have QS:Hid (Ay.wp x=Ay.wp y↔bv=true):=Aa (by rw [<-iu,decide_eq_true_iff];exact Ad9);clear iu;go_wp2_with fail;refine Aj (by kernel_rfl) (by kernel_rfl) ?_
    repeat (
     refine WQ.step (fun K hK=>?_)
     go_simp
     first
      | (refine hK _ ?_;clear hK K)
      | (apply Exists.intro
         refine⟨fun _=>?_,hK _ ?_⟩
         (go_at_call 109;with_reducible exact Al (Ag S _))
         clear hK K))
    refine WQ.nil ?_;intro u;have ag:=Ad hb (Af wr u);clear d0 d1 d2 d3 d4 d5 d6 e0 e1 e2 e3 e4 e5 e6;cases bv
    ·have hf:=Aa (NO.out (fun h=>by have:=QS.out.1 h;cases this));go_wp2_with fail;go_ret;exact⟨Ae hf.out.symm,ag⟩
    ·have IY:=Aa (YES.out (QS.out.2 rfl));go_wp2_with fail;go_roundw
     case rel=>exact⟨j+1,by omega,by go_num,IY,ag⟩
     case measure=>simp [intOf];omega
   ·have z0:¬ (j:Int) < n:=by omega
    have fin:=Aa (show decide (L.map Ay.wp=M.map Ay.wp)=true by
     have h1:=hT.out
     rw [List.take_of_length_le (by rw [EV.out.1];omega),List.take_of_length_le (by rw [EV.out.2,<-E.out];omega)] at h1
     exact decide_eq_true h1)
    go_wp2_with fail;go_ret;exact⟨Ae fin.out.symm,hb⟩
 ·have ng:((n:Int) == (k:Int))=false:=by simpa using ak
  have ot:((n:Int) != (k:Int))=true:=by simpa using ak
  have fin:=Aa (show decide (L.map Ay.wp=M.map Ay.wp)=false by
   rw [decide_eq_false_iff_not]
   intro e
   have:=congrArg List.length e
   rw [List.length_map,List.length_map,hn,hk] at this
   exact ak (by rw [this]))
  clear ak hn hk;go_enter Tryz.func71,Tryz.ntmps71;go_wp2_with fail;go_ret;exact⟨Ae fin.out.symm,Below.refl _ _⟩
end Go.Proofs.YtmkpfdcnikgokaaGreat
