/-
  Texts of this claim, put together: MailEq2, MailMay. What each theorem asks stands in its statement.
-/
import Derived.Test.YtmkpfdcnikgokaaGreatMd12
set_option linter.unusedVariables false
set_option linter.unusedSimpArgs false
set_option maxRecDepth 100000
set_option maxHeartbeats 25600000
namespace Go.Proofs.YtmkpfdcnikgokaaGreat
open Go.RowKit
theorem U7 (A B:Option Addr) (c d n k:Nat) (l m:List Bool) (w:World) (hr:M3 w w.heap.size A l) (hs:M3 w w.heap.size B m) (hn:l.length=n) (hk:m.length=k) (hl:n < 1073741824):
 Calls Tryz.prog 120 #[.slice A n c,.slice B k d] w fun e w'=>e= .returned (.bool (decide (l=m)))/\Below w.heap.size w w':=by
 subst hn hk;by_cases ak:(l.length:Int)=(m.length:Int)
 ·have E:=Aa (show l.length=m.length by omega);have ng:((l.length:Int) == (m.length:Int))=true:=by simpa using ak
  have ot:((l.length:Int) != (m.length:Int))=false:=by simpa using ak
  have HR:=Aa hr;have HS:=Aa hs;clear ak hr hs;go_enter Tryz.func120,Tryz.ntmps120;go_wp2_with fail
  go_loopw [13] (fun i wr=>∃ k:Nat,k<=l.length/\i= .int .i64 (k:Int)/\Hid (l.take k=m.take k)/\Below w.heap.size w wr) (fun i _=>l.length - (intOf i).toNat)
  case atStart=>exact⟨0,by omega,rfl,Aa rfl,Below.refl _ _⟩
  case round=>
   obtain⟨k,hk,rfl,hT,hb⟩:=hrel;by_cases ai:k < l.length
   ·have di:k < m.length:=by have:=E.out;omega
    obtain⟨b0,o0,rfl,py,er⟩:=M3.cell (RD.below HR.out hb) (by omega);obtain⟨b1,o1,rfl,eb,kh⟩:=M3.cell (RD.below HS.out hb) (by omega);have d0:=er k ai;have e0:=kh k di;clear er kh;have z0:(k:Int) < l.length:=by omega
    have z1:(k:Int) < m.length:=by omega
    have z4:(0:Int)<=k:=by omega
    obtain⟨x,hx⟩:∃ x,l[k]=x:=⟨_,rfl⟩;obtain⟨y,hy⟩:∃ x,m[k]=x:=⟨_,rfl⟩;rw [hx] at d0;rw [hy] at e0;have hX:=Aa hx;have hY:=Aa hy;clear hx hy;by_cases jy:x=y
    ·subst jy;have ll:(x != x)=false:=by simp
     go_wp2_with fail
     go_quiet (fail)
     go_wp2_with fail;go_roundw
     case rel=>
      refine⟨k+1,by omega,by go_num,Aa ?_,Bk hb _⟩;rw [List.take_succ_eq_append_getElem ai,List.take_succ_eq_append_getElem di,hT.out,hX.out,hY.out]
     case measure=>simp [intOf];omega
    ·have ll:(x != y)=true:=by simpa using jy
     have gk:(x == y)=false:=beq_eq_false_iff_ne.2 jy
     have hf:=Aa (show decide (l=m)=false by
      rw [decide_eq_false_iff_not]
      intro e
      subst e
      exact jy (hX.out.symm.trans hY.out))
     clear jy;go_wp2_with fail
     go_quiet (fail)
     go_wp2_with fail;go_ret;exact⟨Ae hf.out.symm,Bk hb _⟩
   ·have qv:¬ (k:Int) < l.length:=by omega
    have fin:=Aa (show decide (l=m)=true by
     have h1:=hT.out
     rw [List.take_of_length_le (by omega),List.take_of_length_le (by have:=E.out;omega)] at h1
     exact decide_eq_true h1)
    go_wp2_with fail;go_ret;exact⟨Ae fin.out.symm,hb⟩
 ·have ng:((l.length:Int) == (m.length:Int))=false:=by simpa using ak
  have ot:((l.length:Int) != (m.length:Int))=true:=by simpa using ak
  have fin:=Aa (show decide (l=m)=false by
   rw [decide_eq_false_iff_not]
   intro e
   exact ak (by rw [e]))
  clear ak;go_enter Tryz.func120,Tryz.ntmps120;go_wp2_with fail;go_ret;exact⟨Ae fin.out.symm,Below.refl _ _⟩
abbrev Qm:=(Int×Int)×(Bool×Bool)×(List PT×List Bool)
instance:DecidableEq Qm:=@instDecidableEqProd _ _ inferInstance (@instDecidableEqProd _ _ inferInstance inferInstance)
def Ay.en (x:Ay):Qm:=((x.t,x.r),(x.rd,x.kn),(x.s.map Aq.pt,x.g))
def Ay.hp (x:Ay):List PT:=x.h.map Aq.pt
abbrev Ay.env (x:Ay):Value:=Go.Proofs.YtmkpfdcnikgokaaGreat.env x.t x.r x.rd x.kn (.slice x.sA x.s.length x.sc) (.slice x.gA x.g.length x.gc)
theorem Add (t r t' r':Int) (rd kn mr ms:Bool) (sA dz gA my:Option Addr) (sc ec gc od:Nat) (s s':List Aq) (g g':List Bool) (w:World) (hr:RT w w.heap.size sA s/\M3 w w.heap.size gA g) (hs:RT w w.heap.size dz s'/\M3 w w.heap.size my g') (ho:(∀ y∈s,M1 y)/\s.length < 1073741824/\g.length < 1073741824):
 Calls Tryz.prog 119 #[Go.Proofs.YtmkpfdcnikgokaaGreat.env t r rd kn (.slice sA s.length sc) (.slice gA g.length gc),Go.Proofs.YtmkpfdcnikgokaaGreat.env t' r' mr ms (.slice dz s'.length ec) (.slice my g'.length od)] w fun e w'=>e= .returned (.bool (decide ((((t,r),(rd,kn),(s.map Aq.pt,g)):Qm)=((t',r'),(mr,ms),(s'.map Aq.pt,g')))))/\Below w.heap.size w w':=by
 obtain⟨w1,au,F1,af,ac⟩:=Df w (.int .u32 t) (.int .u8 r) (.bool rd) (.bool false) (.int .i64 0) (.bool kn) (.slice sA s.length sc) (.slice gA g.length gc);obtain⟨w2,fc,F2,cd,ae⟩:=Df w1 (.int .u32 t') (.int .u8 r') (.bool mr) (.bool false) (.int .i64 0) (.bool ms) (.slice dz s'.length ec) (.slice my g'.length od);have al:=Ad ac ae;have az:=Aa (F1.below ae);have db:=Aa F2;obtain⟨a0,a1,a2,a3,a4,a5,a6,a7⟩:=az.out.cells;obtain⟨b0,b1,b2,b3,b4,b5,b6,b7⟩:=F2.cells;have P:=Aa (Lx sA dz sc ec s.length s'.length s s' w2 ((hr.1.below al).more al.size) ((hs.1.below al).more al.size) rfl rfl ho.2.1 ho.1);have Q:=Aa (fun W (h:Below w2.heap.size w2 W)=>U7 gA my gc od g.length g'.length g g' W (RD.more (RD.below (RD.more (RD.below hr.2 al) al.size) h) h.size) (RD.more (RD.below (RD.more (RD.below hs.2 al) al.size) h) h.size) rfl rfl ho.2.2);have HEn:Hid ((((t,r),(rd,kn),(s.map Aq.pt,g)):Qm)=((t',r'),(mr,ms),(s'.map Aq.pt,g'))↔t=t'/\r=r'/\rd=mr/\kn=ms/\s.map Aq.pt=s'.map Aq.pt/\g=g'):=Aa (by simp only [Prod.mk.injEq,and_assoc]);obtain⟨q1,zm⟩:∃ q,decide (s.map Aq.pt=s'.map Aq.pt)=q:=⟨_,rfl⟩;obtain⟨q2,IZ⟩:∃ q,decide (g=g')=q:=⟨_,rfl⟩;rw [zm] at P;rw [IZ] at Q;obtain⟨en,xx⟩:∃ q,decide ((((t,r),(rd,kn),(s.map Aq.pt,g)):Qm)=((t',r'),(mr,ms),(s'.map Aq.pt,g')))=q:=⟨_,rfl⟩;rw [xx]
 have HD:Hid (en=true↔t=t'/\r=r'/\rd=mr/\kn=ms/\q1=true/\q2=true):=Aa (by
  rw [<-xx,<-zm,<-IZ,decide_eq_true_iff,decide_eq_true_iff,decide_eq_true_iff]
  exact HEn.out)
 clear xx zm IZ HEn ho hr hs F1 F2
 have no:∀ (P:Prop),(en=true->P)->¬ P->en=false:=fun P h1 h2=>by
  cases he:en
  ·rfl
  ·exact absurd (h1 he) h2
 have NO:=Aa no;clear no;by_cases c0:t=t';rotate_left
 ·have hE:=Aa (NO.out _ (fun h=>(HD.out.1 h).1) c0);go_enter Tryz.func119,Tryz.ntmps119;go_wp2_with fail;go_ret;exact⟨by rw [hE.out];rfl,al⟩
 subst c0;by_cases c1:r=r';rotate_left
 ·have hE:=Aa (NO.out _ (fun h=>(HD.out.1 h).2.1) c1);go_enter Tryz.func119,Tryz.ntmps119;go_wp2_with fail;go_ret;exact⟨by rw [hE.out];rfl,al⟩
 subst c1;by_cases c2:rd=mr;rotate_left
 ·have hE:=Aa (NO.out _ (fun h=>(HD.out.1 h).2.2.1) c2);have ll:(rd == mr)=false:=by simpa using c2
  go_enter Tryz.func119,Tryz.ntmps119;go_wp2_with fail;go_ret;exact⟨by rw [hE.out];rfl,al⟩
 subst c2;by_cases c3:kn=ms;rotate_left
 ·have hE:=Aa (NO.out _ (fun h=>(HD.out.1 h).2.2.2.1) c3);have ll:(kn == ms)=false:=by simpa using c3
  go_enter Tryz.func119,Tryz.ntmps119;go_wp2_with fail;go_ret;exact⟨by rw [hE.out];rfl,al⟩
 subst c3
 cases q1 with
 | false=>
   have hE:=Aa (NO.out _ (fun h=>(HD.out.1 h).2.2.2.2.1) (by decide));go_enter Tryz.func119,Tryz.ntmps119;go_wp2_with fail;refine P.out.mono ?_;rintro e w3 ⟨rfl,ag⟩;clear a0 a1 a2 a3 a4 a5 a6 a7 b0 b1 b2 b3 b4 b5 b6 b7;go_wp2_with fail;go_ret;exact⟨by rw [hE.out];rfl,Ad al ag⟩
 | true=>
   have hE:=Aa (show en=q2 by
    cases q2
    ·exact NO.out _ (fun h=>(HD.out.1 h).2.2.2.2.2) (by decide)
    ·exact HD.out.2 ⟨rfl,rfl,rfl,rfl,rfl,rfl⟩)
   go_enter Tryz.func119,Tryz.ntmps119;go_wp2_with fail;refine P.out.mono ?_;rintro e w3 ⟨rfl,ag⟩;clear a0 a1 a2 a3 a4 a5 a6 a7 b0 b1 b2 b3 b4 b5 b6 b7;obtain⟨a0,a1,a2,a3,a4,a5,a6,a7⟩:=(az.out.below ag).cells;obtain⟨b0,b1,b2,b3,b4,b5,b6,b7⟩:=(db.out.below ag).cells;go_wp2_with fail;refine (Q.out w3 ag).mono ?_;rintro e w4 ⟨rfl,aw⟩;clear a0 a1 a2 a3 a4 a5 a6 a7 b0 b1 b2 b3 b4 b5 b6 b7;go_wp2_with fail;go_ret;exact⟨by rw [hE.out];rfl,Ad (Ad al ag) aw⟩
theorem Ade (x y:Ay) (w:World) (hr:RT w w.heap.size x.sA x.s/\M3 w w.heap.size x.gA x.g) (hs:RT w w.heap.size y.sA y.s/\M3 w w.heap.size y.gA y.g) (ho:N5 x):
 Calls Tryz.prog 119 #[x.env,y.env] w fun e w'=>e= .returned (.bool (decide (x.en=y.en)))/\Below w.heap.size w w':=
 Add x.t x.r y.t y.r x.rd x.kn y.rd y.kn x.sA y.sA x.gA y.gA x.sc y.sc x.gc y.gc x.s y.s x.g y.g w hr hs ⟨ho.2.2.2.2.2.1,ho.2.2.2.2.2.2.2.1,ho.2.2.2.2.2.2.2.2⟩
theorem Ab9 (x y:Ay) (w:World) (hr:RT w w.heap.size x.hA x.h) (hs:RT w w.heap.size y.hA y.h) (ho:N5 x):
 Calls Tryz.prog 79 #[x.val,y.val] w fun e w'=>e= .returned (.bool (decide (x.hp=y.hp)))/\Below w.heap.size w w':=by
 unfold Ay.hp;unfold Ay.val;obtain⟨w1,au,F1,af,ac⟩:=Ct w (.int .u32 x.t) (.int .u8 x.r) (.bool x.rd) (.slice x.hA x.h.length x.hc) (.bool x.kn) (.slice x.sA x.s.length x.sc) (.slice x.gA x.g.length x.gc);obtain⟨w2,fc,F2,cd,ae⟩:=Ct w1 (.int .u32 y.t) (.int .u8 y.r) (.bool y.rd) (.slice y.hA y.h.length y.hc) (.bool y.kn) (.slice y.sA y.s.length y.sc) (.slice y.gA y.g.length y.gc);have al:=Ad ac ae;obtain⟨a0,a1,a2,a3,a4,a5,a6⟩:=(F1.below ae).cells;obtain⟨b0,b1,b2,b3,b4,b5,b6⟩:=F2.cells;have P:=Aa (Lx x.hA y.hA x.hc y.hc x.h.length y.h.length x.h y.h w2 ((hr.below al).more al.size) ((hs.below al).more al.size) rfl rfl ho.2.2.2.2.2.2.1 ho.2.2.2.2.1);obtain⟨s1,zm⟩:∃ q,decide (x.h.map Aq.pt=y.h.map Aq.pt)=q:=⟨_,rfl⟩;rw [zm] at P |-;clear zm hr hs ho F1 F2;go_enter Tryz.func79,Tryz.ntmps79;go_wp2_with fail;refine P.out.mono ?_;rintro e w3 ⟨rfl,ag⟩;clear a0 a1 a2 a3 a4 a5 a6 b0 b1 b2 b3 b4 b5 b6;go_wp2_with fail;go_ret;exact⟨rfl,Ad al ag⟩
theorem Abx (A B:Option Addr) (c d n k:Nat) (L M:List Ay) (w:World) (hr:RE w w.heap.size A L) (hs:RE w w.heap.size B M) (hn:L.length=n) (hk:M.length=k) (hl:n < 1073741824) (ho:∀ x∈L,N5 x):
 Calls Tryz.prog 118 #[.slice A n c,.slice B k d,.func (.func 119) #[] #[]] w fun e w'=>e= .returned (.bool (decide (L.map Ay.en=M.map Ay.en)))/\Below w.heap.size w w':=by
 subst hn hk;by_cases ak:(L.length:Int)=(M.length:Int)
 ·have E:=Aa (show L.length=M.length by omega);have ng:((L.length:Int) == (M.length:Int))=true:=by simpa using ak
  have ot:((L.length:Int) != (M.length:Int))=false:=by simpa using ak
  have HR:=Aa hr;have HS:=Aa hs;clear ak hr hs;go_enter Tryz.func118,Tryz.ntmps118;go_wp2_with fail
  go_loopw [17] (fun i wr=>∃ j:Nat,j<=L.length/\i= .int .i64 (j:Int)/\Hid ((L.take j).map Ay.en=(M.take j).map Ay.en)/\Below w.heap.size w wr) (fun i _=>L.length - (intOf i).toNat)
  case atStart=>exact⟨0,by omega,rfl,Aa rfl,Below.refl _ _⟩
  case round=>
   obtain⟨j,hj,rfl,hT,hb⟩:=hrel;by_cases ai:j < L.length
   ·have di:j < M.length:=by have:=E.out;omega
    have z0:(j:Int) < L.length:=by omega
    have z1:(j:Int) < M.length:=by omega
    have z4:(0:Int)<=j:=by omega
    obtain⟨x,hx⟩:∃ x,L[j]=x:=⟨_,rfl⟩;obtain⟨y,hy⟩:∃ x,M[j]=x:=⟨_,rfl⟩;have ba:x∈L:=by rw [<-hx];exact List.getElem_mem ai
    have m9:y∈M:=by rw [<-hy];exact List.getElem_mem di
    obtain⟨p0,o0,rfl,py,er⟩:=RE.cell (HR.out.below hb) (by omega);obtain⟨d0,d1,d2,d3,d4,d5,d6,d7⟩:=er j ai;rw [hx] at d0 d1 d2 d5 d6 d7;obtain⟨w1,au,F1,af,ac⟩:=Df wr (.int .u32 x.t) (.int .u8 x.r) (.bool x.rd) (.bool false) (.int .i64 0) (.bool x.kn) (.slice x.sA x.s.length x.sc) (.slice x.gA x.g.length x.gc);obtain⟨w2,fc,F2,cd,ae⟩:=Df w1 (.int .u32 y.t) (.int .u8 y.r) (.bool y.rd) (.bool false) (.int .i64 0) (.bool y.kn) (.slice y.sA y.s.length y.sc) (.slice y.gA y.g.length y.gc);have vf:=Ad hb ac;have gk:=Ad vf ae;obtain⟨p1,o1,rfl,eb,kh⟩:=RE.cell (HS.out.below vf) (by omega);obtain⟨e0,e1,e2,e3,e4,e5,e6,e7⟩:=kh j di;rw [hy] at e0 e1 e2 e5 e6 e7;obtain⟨a0,a1,a2,a3,a4,a5,a6,a7⟩:=(F1.below ae).cells;obtain⟨b0,b1,b2,b3,b4,b5,b6,b7⟩:=F2.cells;have RX:=(HR.out.below gk).more gk.size;have RY:=(HS.out.below gk).more gk.size;have HP:=Aa (Ade x y w2 (RX.2 x ba) (RY.2 y m9) (ho x ba));obtain⟨bv,iu⟩:∃ q,decide (Ay.en x=Ay.en y)=q:=⟨_,rfl⟩;rw [iu] at HP;clear er kh F1 F2 RX RY;cases bv
    ·have hf:=Aa (show decide (L.map Ay.en=M.map Ay.en)=false by
      rw [decide_eq_false_iff_not]
      intro e
      have h1:(L.map Ay.en)[j]?=(M.map Ay.en)[j]?:=by rw [e]
      rw [List.getElem?_map,List.getElem?_map,List.getElem?_eq_getElem ai,List.getElem?_eq_getElem di,hx,hy] at h1
      simp only [Option.map_some,Option.some.injEq] at h1
      exact (decide_eq_false_iff_not.1 iu) h1)
     clear hx hy ba m9 iu;go_wp2_with fail;refine HP.out.mono ?_;rintro e w3 ⟨rfl,ag⟩;clear d0 d1 d2 d3 d4 d5 d6 d7 e0 e1 e2 e3 e4 e5 e6 e7 a0 a1 a2 a3 a4 a5 a6 a7 b0 b1 b2 b3 b4 b5 b6 b7;go_wp2_with fail;go_ret;exact⟨Ae hf.out.symm,Ad gk ag⟩
    ·have IY:=Aa (show (L.take (j+1)).map Ay.en=(M.take (j+1)).map Ay.en by
      rw [List.take_succ_eq_append_getElem ai,List.take_succ_eq_append_getElem di,List.map_append,List.map_append,hT.out,hx,hy]
      simp only [List.map_cons,List.map_nil]
      rw [of_decide_eq_true iu])
     clear hx hy ba m9 iu;go_wp2_with fail;refine HP.out.mono ?_;rintro e w3 ⟨rfl,ag⟩;clear d0 d1 d2 d3 d4 d5 d6 d7 e0 e1 e2 e3 e4 e5 e6 e7 a0 a1 a2 a3 a4 a5 a6 a7 b0 b1 b2 b3 b4 b5 b6 b7;go_wp2_with fail;go_roundw
     case rel=>exact⟨j+1,by omega,by go_num,IY,Ad gk ag⟩
     case measure=>simp [intOf];omega
   ·have qv:¬ (j:Int) < L.length:=by omega
    have fin:=Aa (show decide (L.map Ay.en=M.map Ay.en)=true by
     have h1:=hT.out
     rw [List.take_of_length_le (by omega),List.take_of_length_le (by have:=E.out;omega)] at h1
     exact decide_eq_true h1)
    go_wp2_with fail;go_ret;exact⟨Ae fin.out.symm,hb⟩
 ·have ng:((L.length:Int) == (M.length:Int))=false:=by simpa using ak
  have ot:((L.length:Int) != (M.length:Int))=true:=by simpa using ak
  have fin:=Aa (show decide (L.map Ay.en=M.map Ay.en)=false by
   rw [decide_eq_false_iff_not]
   intro e
   have h1:=congrArg List.length e
   rw [List.length_map,List.length_map] at h1
   exact ak (by rw [h1]))
  clear ak;go_enter Tryz.func118,Tryz.ntmps118;go_wp2_with fail;go_ret;exact⟨Ae fin.out.symm,Below.refl _ _⟩
theorem W3 (A B:Option Addr) (c d n k:Nat) (L M:List Ay) (w:World) (hr:RE w w.heap.size A L) (hs:RE w w.heap.size B M) (hn:L.length=n) (hk:M.length=k) (hl:n < 1073741824) (ho:∀ x∈L,N5 x):
 Calls Tryz.prog 76 #[.slice A n c,.slice B k d] w fun e w'=>e= .returned (.bool (decide (L.map Ay.en=M.map Ay.en)))/\Below w.heap.size w w':=by
 have C:=Aa (Abx A B c d n k L M w hr hs hn hk hl ho);clear hn hk;go_enter Tryz.func76,Tryz.ntmps76;go_wp2_with fail;refine (Ag C).mono ?_;rintro e w1 ⟨rfl,ac⟩;go_wp2_with fail;go_ret;exact⟨rfl,ac⟩
theorem Aak (A B:Option Addr) (c d n k:Nat) (L M:List Ay) (w:World) (hr:RW w w.heap.size A L) (hs:RW w w.heap.size B M) (hn:L.length=n) (hk:M.length=k) (hl:n < 1073741824) (ho:∀ x∈L,N5 x):
 Calls Tryz.prog 78 #[.slice A n c,.slice B k d,.func (.func 79) #[] #[]] w fun e w'=>e= .returned (.bool (decide (L.map Ay.hp=M.map Ay.hp)))/\Below w.heap.size w w':=by
 subst hn hk;by_cases ak:(L.length:Int)=(M.length:Int)
 ·have E:=Aa (show L.length=M.length by omega);have ng:((L.length:Int) == (M.length:Int))=true:=by simpa using ak
  have ot:((L.length:Int) != (M.length:Int))=false:=by simpa using ak
  have HR:=Aa hr;have HS:=Aa hs;clear ak hr hs;go_enter Tryz.func78,Tryz.ntmps78;go_wp2_with fail
  go_loopw [17] (fun i wr=>∃ j:Nat,j<=L.length/\i= .int .i64 (j:Int)/\Hid ((L.take j).map Ay.hp=(M.take j).map Ay.hp)/\Below w.heap.size w wr) (fun i _=>L.length - (intOf i).toNat)
  case atStart=>exact⟨0,by omega,rfl,Aa rfl,Below.refl _ _⟩
  case round=>
   obtain⟨j,hj,rfl,hT,hb⟩:=hrel;by_cases ai:j < L.length
   ·have di:j < M.length:=by have:=E.out;omega
    have z0:(j:Int) < L.length:=by omega
    have z1:(j:Int) < M.length:=by omega
    have z4:(0:Int)<=j:=by omega
    obtain⟨x,hx⟩:∃ x,L[j]=x:=⟨_,rfl⟩;obtain⟨y,hy⟩:∃ x,M[j]=x:=⟨_,rfl⟩;have ba:x∈L:=by rw [<-hx];exact List.getElem_mem ai
    have m9:y∈M:=by rw [<-hy];exact List.getElem_mem di
    obtain⟨p0,o0,rfl,py,er⟩:=RW.cell (HR.out.below hb) (by omega);obtain⟨d0,d1,d2,d3,d4,d5,d6⟩:=er j ai;rw [hx] at d0 d1 d2 d3 d4 d5 d6;obtain⟨w1,au,F1,af,ac⟩:=Ct wr (.int .u32 x.t) (.int .u8 x.r) (.bool x.rd) (.slice x.hA x.h.length x.hc) (.bool x.kn) (.slice x.sA x.s.length x.sc) (.slice x.gA x.g.length x.gc);obtain⟨w2,fc,F2,cd,ae⟩:=Ct w1 (.int .u32 y.t) (.int .u8 y.r) (.bool y.rd) (.slice y.hA y.h.length y.hc) (.bool y.kn) (.slice y.sA y.s.length y.sc) (.slice y.gA y.g.length y.gc);have vf:=Ad hb ac;have gk:=Ad vf ae;obtain⟨p1,o1,rfl,eb,kh⟩:=RW.cell (HS.out.below vf) (by omega);obtain⟨e0,e1,e2,e3,e4,e5,e6⟩:=kh j di;rw [hy] at e0 e1 e2 e3 e4 e5 e6;obtain⟨a0,a1,a2,a3,a4,a5,a6⟩:=(F1.below ae).cells;obtain⟨b0,b1,b2,b3,b4,b5,b6⟩:=F2.cells;have RX:=(HR.out.below gk).more gk.size;have RY:=(HS.out.below gk).more gk.size;have HP:=Aa (Ab9 x y w2 (RX.2 x ba).1 (RY.2 y m9).1 (ho x ba));obtain⟨bv,iu⟩:∃ q,decide (Ay.hp x=Ay.hp y)=q:=⟨_,rfl⟩;rw [iu] at HP;clear er kh F1 F2 RX RY;cases bv
    ·have hf:=Aa (show decide (L.map Ay.hp=M.map Ay.hp)=false by
      rw [decide_eq_false_iff_not]
      intro e
      have h1:(L.map Ay.hp)[j]?=(M.map Ay.hp)[j]?:=by rw [e]
      rw [List.getElem?_map,List.getElem?_map,List.getElem?_eq_getElem ai,List.getElem?_eq_getElem di,hx,hy] at h1
      simp only [Option.map_some,Option.some.injEq] at h1
      exact (decide_eq_false_iff_not.1 iu) h1)
     clear hx hy ba m9 iu;go_wp2_with fail;refine HP.out.mono ?_;rintro e w3 ⟨rfl,ag⟩;clear d0 d1 d2 d3 d4 d5 d6 e0 e1 e2 e3 e4 e5 e6 a0 a1 a2 a3 a4 a5 a6 b0 b1 b2 b3 b4 b5 b6;go_wp2_with fail;go_ret;exact⟨Ae hf.out.symm,Ad gk ag⟩
    ·have IY:=Aa (show (L.take (j+1)).map Ay.hp=(M.take (j+1)).map Ay.hp by
      rw [List.take_succ_eq_append_getElem ai,List.take_succ_eq_append_getElem di,List.map_append,List.map_append,hT.out,hx,hy]
      simp only [List.map_cons,List.map_nil]
      rw [of_decide_eq_true iu])
     clear hx hy ba m9 iu;go_wp2_with fail;refine HP.out.mono ?_;rintro e w3 ⟨rfl,ag⟩;clear d0 d1 d2 d3 d4 d5 d6 e0 e1 e2 e3 e4 e5 e6 a0 a1 a2 a3 a4 a5 a6 b0 b1 b2 b3 b4 b5 b6;go_wp2_with fail;go_roundw
     case rel=>exact⟨j+1,by omega,by go_num,IY,Ad gk ag⟩
     case measure=>simp [intOf];omega
   ·have qv:¬ (j:Int) < L.length:=by omega
    have fin:=Aa (show decide (L.map Ay.hp=M.map Ay.hp)=true by
     have h1:=hT.out
     rw [List.take_of_length_le (by omega),List.take_of_length_le (by have:=E.out;omega)] at h1
     exact decide_eq_true h1)
    go_wp2_with fail;go_ret;exact⟨Ae fin.out.symm,hb⟩
 ·have ng:((L.length:Int) == (M.length:Int))=false:=by simpa using ak
  have ot:((L.length:Int) != (M.length:Int))=true:=by simpa using ak
  have fin:=Aa (show decide (L.map Ay.hp=M.map Ay.hp)=false by
   rw [decide_eq_false_iff_not]
   intro e
   have h1:=congrArg List.length e
   rw [List.length_map,List.length_map] at h1
   exact ak (by rw [h1]))
  clear ak;go_enter Tryz.func78,Tryz.ntmps78;go_wp2_with fail;go_ret;exact⟨Ae fin.out.symm,Below.refl _ _⟩
def Fb (t r:Int):Prop:=(t=0/\r=0)\/Ep t r
instance (t r:Int):Decidable (Fb t r):=by unfold Fb;infer_instance
def Gr (e:Qm):Prop:=Fb e.1.1 e.1.2/\(if e.2.1.2=true then e.2.1.1=false/\Dj e.2.2.1/\I0 e.2.2.1<=1024/\(e.2.2.2.length:Int)=(I0 e.2.2.1+7) / 8 else e.2.2.1.length=0/\e.2.2.2.length=0)
instance (e:Qm):Decidable (Gr e):=by unfold Gr;infer_instance
def D9 (P:List PT):Prop:=Dj P/\I0 P<=1024
instance (P:List PT):Decidable (D9 P):=by unfold D9;infer_instance
theorem Ul (t r:Int) (w:World):
 Calls Tryz.prog 113 #[.agg #[.int .u32 t,.int .u8 r]] w fun e w'=>e= .returned (.bool (decide (Fb t r)))/\Below w.heap.size w w':=by
 obtain⟨w1,au,F1,af,ac⟩:=Dr w (.int .u32 t) (.int .u8 r) 46;obtain⟨a0,a1⟩:=F1.cells;by_cases hz:t=0/\r=0
 ·have hE:=Aa (show decide (Fb t r)=true from decide_eq_true (.inl hz));rw [hE.out];obtain⟨rfl,rfl⟩:=hz;clear hE F1;go_enter Tryz.func113,Tryz.ntmps113;go_wp2_with fail;go_ret;exact⟨rfl,ac⟩
 ·have hE:decide (Fb t r)=decide (Ep t r):=by
   simp only [Fb,hz,false_or]
  rw [hE];have P:=Aa (Jo t r w1);have fu:(¬ t=0)\/(t=0/\¬ r=0):=by
   by_cases h0:t=0
   ·exact .inr ⟨h0,fun h=>hz ⟨h0,h⟩⟩
   ·exact .inl h0
  clear hz hE F1;by_cases hm:Ep t r
  ·rw [show Vh t r=0 from if_pos hm] at P;rw [show decide (Ep t r)=true from decide_eq_true hm];clear hm;rcases fu with h | ⟨rfl,h⟩
   all_goals
    go_enter Tryz.func113,Tryz.ntmps113;go_wp2_with fail;refine P.out.mono ?_;rintro e w2 ⟨rfl,ae⟩;clear a0 a1;go_wp2_with fail;go_ret;exact⟨rfl,Ad ac ae⟩
  ·rw [show Vh t r=8 from if_neg hm] at P;rw [show decide (Ep t r)=false from decide_eq_false hm];clear hm;rcases fu with h | ⟨rfl,h⟩
   all_goals
    go_enter Tryz.func113,Tryz.ntmps113;go_wp2_with fail;refine P.out.mono ?_;rintro e w2 ⟨rfl,ae⟩;clear a0 a1;go_wp2_with fail;go_ret;exact⟨rfl,Ad ac ae⟩
theorem Xx (A:Option Addr) (n c:Nat) (L:List Aq) (w:World) (hr:RT w w.heap.size A L) (hn:L.length=n) (ax:∀ x∈L,M1 x) (AF:n < 1073741824):
 Calls Tryz.prog 111 #[.slice A n c] w fun e w'=>e= .returned (.bool (decide (D9 (L.map Aq.pt))))/\Below w.heap.size w w':=by
 have P:=Aa (Kr A n c L w hr hn ax AF);have Q:=Aa (fun W (h:Below w.heap.size w W)=>Nu A n c L W ((hr.below h).more h.size) hn ax AF);by_cases hm:Dj (L.map Aq.pt)
 ·rw [show N9 (L.map Aq.pt)=0 from if_pos hm] at P;have hE:=Aa (show decide (D9 (L.map Aq.pt))=decide (I0 (L.map Aq.pt)<=1024) by simp only [D9,hm,true_and]);rw [hE.out];obtain⟨k,hk⟩:∃ q,q=I0 (L.map Aq.pt):=⟨_,rfl⟩;rw [<-hk] at Q |-;clear hm hE hk hr hn ax;go_enter Tryz.func111,Tryz.ntmps111;go_wp2_with fail;refine P.out.mono ?_;rintro e w2 ⟨rfl,ae⟩;go_wp2_with fail;refine (Q.out w2 ae).mono ?_;rintro e w3 ⟨rfl,ag⟩;go_wp2_with fail;go_ret;exact⟨rfl,Ad ae ag⟩
 ·rw [show N9 (L.map Aq.pt)=8 from if_neg hm] at P;have hE:=Aa (show decide (D9 (L.map Aq.pt))=false from decide_eq_false fun h=>hm h.1);rw [hE.out];clear hm hE hr hn ax;go_enter Tryz.func111,Tryz.ntmps111;go_wp2_with fail;refine P.out.mono ?_;rintro e w2 ⟨rfl,ae⟩;go_wp2_with fail;go_ret;exact⟨rfl,ae⟩
theorem W8 (P:List PT):0<=I0 P/\I0 P<=9663676425:=by
 unfold I0;split
 ·rename_i h
  have h1:=Ga _ _ (by omega) h;have h2:=Mf P fun y hy=>(Ey _ _ h y hy).1;rcases h1 with h1 | rfl
  ·omega
  ·simp [Gh]
 ·omega
theorem Acr (t r:Int) (rd kn:Bool) (sA gA:Option Addr) (sn sc gn gc:Nat) (s:List Aq) (g:List Bool) (w:World) (hr:RT w w.heap.size sA s) (ho:∀ y∈s,M1 y) (GZ:sn < 1073741824) (CD:s.length=sn) (EN:g.length=gn):
 Calls Tryz.prog 173 #[Go.Proofs.YtmkpfdcnikgokaaGreat.env t r rd kn (.slice sA sn sc) (.slice gA gn gc)] w fun e w'=>e= .returned (.bool (decide (Gr ((t,r),(rd,kn),(s.map Aq.pt,g)))))/\Below w.heap.size w w':=by
 obtain⟨w1,au,F1,af,ac⟩:=Df w (.int .u32 t) (.int .u8 r) (.bool rd) (.bool false) (.int .i64 0) (.bool kn) (.slice sA sn sc) (.slice gA gn gc);obtain⟨a0,a1,a2,a3,a4,a5,a6,a7⟩:=F1.cells;have az:=Aa F1;by_cases fj:Fb t r;rotate_left
 ·have hE:=Aa (show decide (Gr ((t,r),(rd,kn),(s.map Aq.pt,g)))=false from decide_eq_false fun h=>fj h.1);rw [hE.out];have hz:¬ (t=0/\r=0):=fun h=>fj (.inl h);have hm:¬ Ep t r:=fun h=>fj (.inr h);have P:=Aa (Jo t r w1);rw [show Vh t r=8 from if_neg hm] at P;have fu:(¬ t=0)\/(t=0/\¬ r=0):=by
   by_cases h0:t=0
   ·exact .inr ⟨h0,fun h=>hz ⟨h0,h⟩⟩
   ·exact .inl h0
  clear hz hE F1 hm fj hr ho;rcases fu with h | ⟨rfl,h⟩
  all_goals
   go_enter Tryz.func173,Tryz.ntmps173;go_wp2_with fail;refine P.out.mono ?_;rintro e w2 ⟨rfl,ae⟩;clear a0 a1 a2 a3 a4 a5 a6 a7;go_wp2_with fail;go_ret;exact⟨rfl,Ad ac ae⟩
 have fu:(t=0/\r=0)\/((¬ t=0)\/(t=0/\¬ r=0))/\Ep t r:=by
  by_cases h0:t=0
  ·by_cases h1:r=0
   ·exact .inl ⟨h0,h1⟩
   ·exact .inr ⟨.inr ⟨h0,h1⟩,fj.resolve_left fun h=>h1 h.2⟩
  ·exact .inr ⟨.inl h0,fj.resolve_left fun h=>h0 h.1⟩
 cases kn with
 | false=>
   have hE:=Aa (show decide (Gr ((t,r),(rd,false),(s.map Aq.pt,g)))=(decide (sn=0) && decide (gn=0)) by
    simp only [Gr,fj,true_and,Bool.false_eq_true,if_false,List.length_map,CD,EN,Bool.decide_and])
   rw [hE.out]
   have P:=Aa (fun h:Ep t r=>by
    have:=Jo t r w1
    rwa [show Vh t r=0 from if_pos h] at this)
   clear hE fj F1 hr ho;by_cases h1:sn=0
   ·subst h1;by_cases h2:gn=0
    ·subst h2;rcases fu with⟨rfl,rfl⟩ | ⟨h | ⟨rfl,h⟩,hm⟩
     ·clear P;go_enter Tryz.func173,Tryz.ntmps173;go_wp2_with fail;go_ret;exact⟨rfl,ac⟩
     all_goals
      have P2:=Aa (P.out hm);clear hm P;go_enter Tryz.func173,Tryz.ntmps173;go_wp2_with fail;refine P2.out.mono ?_;rintro e w2 ⟨rfl,ae⟩;clear a0 a1 a2 a3 a4 a5 a6 a7;obtain⟨a0,a1,a2,a3,a4,a5,a6,a7⟩:=(az.out.below ae).cells;go_wp2_with fail;go_ret;exact⟨rfl,Ad ac ae⟩
    ·have z:¬ (gn:Int)=0:=by omega
     have zb:((gn:Int) == 0)=false:=beq_eq_false_iff_ne.2 z;rw [decide_eq_false h2];rcases fu with⟨rfl,rfl⟩ | ⟨h | ⟨rfl,h⟩,hm⟩
     ·clear P;go_enter Tryz.func173,Tryz.ntmps173;go_wp2_with fail;go_ret;exact⟨rfl,ac⟩
     all_goals
      have P2:=Aa (P.out hm);clear hm P;go_enter Tryz.func173,Tryz.ntmps173;go_wp2_with fail;refine P2.out.mono ?_;rintro e w2 ⟨rfl,ae⟩;clear a0 a1 a2 a3 a4 a5 a6 a7;obtain⟨a0,a1,a2,a3,a4,a5,a6,a7⟩:=(az.out.below ae).cells;go_wp2_with fail;go_ret;exact⟨rfl,Ad ac ae⟩
   ·have z:¬ (sn:Int)=0:=by omega
    have zb:((sn:Int) == 0)=false:=beq_eq_false_iff_ne.2 z;rw [decide_eq_false h1];rcases fu with⟨rfl,rfl⟩ | ⟨h | ⟨rfl,h⟩,hm⟩
    ·clear P;go_enter Tryz.func173,Tryz.ntmps173;go_wp2_with fail;go_ret;exact⟨rfl,ac⟩
    all_goals
     have P2:=Aa (P.out hm);clear hm P;go_enter Tryz.func173,Tryz.ntmps173;go_wp2_with fail;refine P2.out.mono ?_;rintro e w2 ⟨rfl,ae⟩;clear a0 a1 a2 a3 a4 a5 a6 a7;obtain⟨a0,a1,a2,a3,a4,a5,a6,a7⟩:=(az.out.below ae).cells;go_wp2_with fail;go_ret;exact⟨rfl,Ad ac ae⟩
 | true=>
   have P:=Aa (fun h:Ep t r=>by
    have:=Jo t r w1
    rwa [show Vh t r=0 from if_pos h] at this)
   have Q:=Aa (fun W (h:Below w1.heap.size w1 W)=>Nu sA sn sc s W ((hr.below (Ad ac h)).more (Ad ac h).size) CD ho GZ);have R:=Aa (fun W (h:Below w1.heap.size w1 W)=>Kr sA sn sc s W ((hr.below (Ad ac h)).more (Ad ac h).size) CD ho GZ);obtain⟨k0,k9⟩:=W8 (s.map Aq.pt);obtain⟨DM,hDM⟩:∃ q,q=decide (Dj (s.map Aq.pt)):=⟨_,rfl⟩;have ww:N9 (s.map Aq.pt)=if DM=true then 0 else 8:=by
    unfold N9;rw [hDM];by_cases h:Dj (s.map Aq.pt) <;> simp [h]
   have hE:=Aa (show decide (Gr ((t,r),(rd,true),(s.map Aq.pt,g)))=(!rd && DM && decide (I0 (s.map Aq.pt)<=1024) && decide ((gn:Int)=(I0 (s.map Aq.pt)+7) / 8)) by
    simp only [Gr,fj,true_and,if_true,EN,Bool.decide_and,hDM]
    cases rd <;> simp [Bool.and_assoc])
   rw [hE.out];rw [ww] at R;obtain⟨k,hk⟩:∃ q,q=I0 (s.map Aq.pt):=⟨_,rfl⟩;rw [<-hk] at Q k0 k9 |-;have q1:IntKind.i64.wrap (k+8)=k+8:=IntWalk.i64_in _ (by omega);have q2:IntKind.i64.wrap (k+8 - 1)=k+8 - 1:=IntWalk.i64_in _ (by omega);clear hE fj F1 hr ho hk hDM ww;rcases fu with⟨rfl,rfl⟩ | ⟨h | ⟨rfl,h⟩,hm⟩;rotate_left
   all_goals
    try have P2:=Aa (P.out hm)
    try clear hm
    go_enter Tryz.func173,Tryz.ntmps173;go_wp2_with fail
    first
     | (refine P2.out.mono ?_
        rintro e w2 ⟨rfl,ae⟩
        clear a0 a1 a2 a3 a4 a5 a6 a7
        obtain⟨a0,a1,a2,a3,a4,a5,a6,a7⟩:=(az.out.below ae).cells
        go_wp2_with fail)
     | (have ae:Below w1.heap.size w1 w1:=Below.refl _ _)
    refine (Q.out _ ae).mono ?_;rintro e w3 ⟨rfl,ag⟩;have du:=Ad ae ag;clear a0 a1 a2 a3 a4 a5 a6 a7;obtain⟨a0,a1,a2,a3,a4,a5,a6,a7⟩:=(az.out.below du).cells
    cases rd with
    | true=>
      go_wp2_with fail;go_ret;exact⟨rfl,Ad ac du⟩
    | false=>
      go_wp2_with fail;refine (R.out w3 du).mono ?_;rintro e w4 ⟨rfl,aw⟩;have cv:=Ad du aw;clear a0 a1 a2 a3 a4 a5 a6 a7;obtain⟨a0,a1,a2,a3,a4,a5,a6,a7⟩:=(az.out.below cv).cells
      cases DM with
      | false=>
        go_wp2_with fail;go_ret;exact⟨rfl,Ad ac cv⟩
      | true=>
        by_cases mx:k<=1024
        ·have HV:=Aa (show decide (k<=1024)=true/\((gn:Int) == (k+8 - 1) / 8)=decide ((gn:Int)=(k+7) / 8) from⟨decide_eq_true mx,by
          rw [show k+8 - 1=k+7 by omega]
          rfl⟩)
         go_wp2_with fail;go_ret;exact⟨by rw [HV.out.1,<-HV.out.2];rfl,Ad ac cv⟩
        ·have hdec:=Aa (decide_eq_false mx);go_wp2_with fail;go_ret;exact⟨by rw [hdec.out];rfl,Ad ac cv⟩
end Go.Proofs.YtmkpfdcnikgokaaGreat
