/-
  Texts of this claim, put together: MailEq2, MailMay. What each theorem asks stands in its statement.
-/
import Derived.Test.YtmkpfdcnikgokaaGreatLt14
set_option linter.unusedVariables false
set_option linter.unusedSimpArgs false
set_option maxRecDepth 100000
set_option maxHeartbeats 25600000
namespace Go.Proofs.YtmkpfdcnikgokaaGreat
open Go.RowKit
/-- slices.Equal: the same truths. -/
theorem blequal_any (A B:Option Addr) (c d n k:Nat) (l m:List Bool) (w:World) (hr:RBl w w.heap.size A l) (hs:RBl w w.heap.size B m) (hn:l.length=n) (hk:m.length=k) (hl:n < 1073741824):
 Calls Tryz.prog 120 #[.slice A n c,.slice B k d] w fun e w'=>e= .returned (.bool (decide (l=m)))∧Below w.heap.size w w':=by
 subst hn hk
 by_cases hne:(l.length:Int)=(m.length:Int)
 ·have E:=hide (show l.length=m.length by omega)
  have hbe:((l.length:Int) == (m.length:Int))=true:=by simpa using hne
  have hbn:((l.length:Int) != (m.length:Int))=false:=by simpa using hne
  have HR:=hide hr
  have HS:=hide hs
  clear hne hr hs
  go_enter Tryz.func120,Tryz.ntmps120
  go_wp2_with fail
  go_loopw [13] (fun i wr=>∃ k:Nat,k≤l.length∧i= .int .i64 (k:Int)∧Hid (l.take k=m.take k)∧Below w.heap.size w wr) (fun i _=>l.length - (intOf i).toNat)
  case atStart=>exact⟨0,by omega,rfl,hide rfl,Below.refl _ _⟩
  case round=>
   obtain⟨k,hk,rfl,hT,hb⟩:=hrel
   by_cases hlt:k < l.length
   ·have hltm:k < m.length:=by have:=E.out;omega
    obtain⟨b0,o0,rfl,hB0,hC0⟩:=RBl.cell (RD.below HR.out hb) (by omega)
    obtain⟨b1,o1,rfl,hB1,hC1⟩:=RBl.cell (RD.below HS.out hb) (by omega)
    have d0:=hC0 k hlt
    have e0:=hC1 k hltm
    clear hC0 hC1
    have z0:(k:Int) < l.length:=by omega
    have z1:(k:Int) < m.length:=by omega
    have z4:(0:Int)≤k:=by omega
    obtain⟨x,hx⟩:∃ x,l[k]=x:=⟨_,rfl⟩
    obtain⟨y,hy⟩:∃ x,m[k]=x:=⟨_,rfl⟩
    rw [hx] at d0
    rw [hy] at e0
    have hX:=hide hx
    have hY:=hide hy
    clear hx hy
    by_cases hxy:x=y
    ·subst hxy
     have hbb:(x != x)=false:=by simp
     go_wp2_with fail
     go_quiet (fail)
     go_wp2_with fail
     go_roundw
     case rel=>
      refine⟨k+1,by omega,by go_num,hide ?_,below_drewN hb _⟩
      rw [List.take_succ_eq_append_getElem hlt,List.take_succ_eq_append_getElem hltm,hT.out,hX.out,hY.out]
     case measure=>simp [intOf];omega
    ·have hbb:(x != y)=true:=by simpa using hxy
     have hbb2:(x == y)=false:=beq_eq_false_iff_ne.2 hxy
     have hf:=hide (show decide (l=m)=false by
      rw [decide_eq_false_iff_not]
      intro e
      subst e
      exact hxy (hX.out.symm.trans hY.out))
     clear hxy
     go_wp2_with fail
     go_quiet (fail)
     go_wp2_with fail
     go_ret
     exact⟨ret_bool hf.out.symm,below_drewN hb _⟩
   ·have hkl:¬ (k:Int) < l.length:=by omega
    have fin:=hide (show decide (l=m)=true by
     have h1:=hT.out
     rw [List.take_of_length_le (by omega),List.take_of_length_le (by have:=E.out;omega)] at h1
     exact decide_eq_true h1)
    go_wp2_with fail
    go_ret
    exact⟨ret_bool fin.out.symm,hb⟩
 ·have hbe:((l.length:Int) == (m.length:Int))=false:=by simpa using hne
  have hbn:((l.length:Int) != (m.length:Int))=true:=by simpa using hne
  have fin:=hide (show decide (l=m)=false by
   rw [decide_eq_false_iff_not]
   intro e
   exact hne (by rw [e]))
  clear hne
  go_enter Tryz.func120,Tryz.ntmps120
  go_wp2_with fail
  go_ret
  exact⟨ret_bool fin.out.symm,Below.refl _ _⟩
/-- A wish as an entry. -/
abbrev EnP:=(Int×Int)×(Bool×Bool)×(List PT×List Bool)
instance:DecidableEq EnP:=@instDecidableEqProd _ _ inferInstance (@instDecidableEqProd _ _ inferInstance inferInstance)
def WsL.en (x:WsL):EnP:=((x.t,x.r),(x.rd,x.kn),(x.s.map TmL.pt,x.g))
def WsL.hp (x:WsL):List PT:=x.h.map TmL.pt
abbrev WsL.env (x:WsL):Value:=Go.Proofs.YtmkpfdcnikgokaaGreat.env x.t x.r x.rd x.kn (.slice x.sA x.s.length x.sc) (.slice x.gA x.g.length x.gc)
theorem ensameP (t r t' r':Int) (rd kn rd' kn':Bool) (sA sA' gA gA':Option Addr) (sc sc' gc gc':Nat) (s s':List TmL) (g g':List Bool) (w:World) (hr:RT w w.heap.size sA s∧RBl w w.heap.size gA g) (hs:RT w w.heap.size sA' s'∧RBl w w.heap.size gA' g') (ho:(∀ y∈s,okT y)∧s.length < 1073741824∧g.length < 1073741824):
 Calls Tryz.prog 119 #[Go.Proofs.YtmkpfdcnikgokaaGreat.env t r rd kn (.slice sA s.length sc) (.slice gA g.length gc),Go.Proofs.YtmkpfdcnikgokaaGreat.env t' r' rd' kn' (.slice sA' s'.length sc') (.slice gA' g'.length gc')] w fun e w'=>e= .returned (.bool (decide ((((t,r),(rd,kn),(s.map TmL.pt,g)):EnP)=((t',r'),(rd',kn'),(s'.map TmL.pt,g')))))∧Below w.heap.size w w':=by
 obtain⟨w1,hw1,F1,hs1,hb1⟩:=entry_box w (.int .u32 t) (.int .u8 r) (.bool rd) (.bool false) (.int .i64 0) (.bool kn) (.slice sA s.length sc) (.slice gA g.length gc)
 obtain⟨w2,hw2,F2,hs2,hb2⟩:=entry_box w1 (.int .u32 t') (.int .u8 r') (.bool rd') (.bool false) (.int .i64 0) (.bool kn') (.slice sA' s'.length sc') (.slice gA' g'.length gc')
 have hb02:=fresh hb1 hb2
 have HF1:=hide (F1.below hb2)
 have HF2:=hide F2
 obtain⟨a0,a1,a2,a3,a4,a5,a6,a7⟩:=HF1.out.cells
 obtain⟨b0,b1,b2,b3,b4,b5,b6,b7⟩:=F2.cells
 have P:=hide (tmsame_any sA sA' sc sc' s.length s'.length s s' w2 ((hr.1.below hb02).more hb02.size) ((hs.1.below hb02).more hb02.size) rfl rfl ho.2.1 ho.1)
 have Q:=hide (fun W (h:Below w2.heap.size w2 W)=>blequal_any gA gA' gc gc' g.length g'.length g g' W (RD.more (RD.below (RD.more (RD.below hr.2 hb02) hb02.size) h) h.size) (RD.more (RD.below (RD.more (RD.below hs.2 hb02) hb02.size) h) h.size) rfl rfl ho.2.2)
 have HEn:Hid ((((t,r),(rd,kn),(s.map TmL.pt,g)):EnP)=((t',r'),(rd',kn'),(s'.map TmL.pt,g'))↔t=t'∧r=r'∧rd=rd'∧kn=kn'∧s.map TmL.pt=s'.map TmL.pt∧g=g'):=hide (by simp only [Prod.mk.injEq,and_assoc])
 obtain⟨q1,hS1⟩:∃ q,decide (s.map TmL.pt=s'.map TmL.pt)=q:=⟨_,rfl⟩
 obtain⟨q2,hS2⟩:∃ q,decide (g=g')=q:=⟨_,rfl⟩
 rw [hS1] at P
 rw [hS2] at Q
 obtain⟨en,hen⟩:∃ q,decide ((((t,r),(rd,kn),(s.map TmL.pt,g)):EnP)=((t',r'),(rd',kn'),(s'.map TmL.pt,g')))=q:=⟨_,rfl⟩
 rw [hen]
 have HD:Hid (en=true↔t=t'∧r=r'∧rd=rd'∧kn=kn'∧q1=true∧q2=true):=hide (by
  rw [←hen,←hS1,←hS2,decide_eq_true_iff,decide_eq_true_iff,decide_eq_true_iff]
  exact HEn.out)
 clear hen hS1 hS2 HEn ho hr hs F1 F2
 have no:∀ (P:Prop),(en=true→P)→¬ P→en=false:=fun P h1 h2=>by
  cases he:en
  ·rfl
  ·exact absurd (h1 he) h2
 have NO:=hide no
 clear no
 by_cases c0:t=t'
 rotate_left
 ·have hE:=hide (NO.out _ (fun h=>(HD.out.1 h).1) c0)
  go_enter Tryz.func119,Tryz.ntmps119
  go_wp2_with fail
  go_ret
  exact⟨by rw [hE.out];rfl,hb02⟩
 subst c0
 by_cases c1:r=r'
 rotate_left
 ·have hE:=hide (NO.out _ (fun h=>(HD.out.1 h).2.1) c1)
  go_enter Tryz.func119,Tryz.ntmps119
  go_wp2_with fail
  go_ret
  exact⟨by rw [hE.out];rfl,hb02⟩
 subst c1
 by_cases c2:rd=rd'
 rotate_left
 ·have hE:=hide (NO.out _ (fun h=>(HD.out.1 h).2.2.1) c2)
  have hbb:(rd == rd')=false:=by simpa using c2
  go_enter Tryz.func119,Tryz.ntmps119
  go_wp2_with fail
  go_ret
  exact⟨by rw [hE.out];rfl,hb02⟩
 subst c2
 by_cases c3:kn=kn'
 rotate_left
 ·have hE:=hide (NO.out _ (fun h=>(HD.out.1 h).2.2.2.1) c3)
  have hbb:(kn == kn')=false:=by simpa using c3
  go_enter Tryz.func119,Tryz.ntmps119
  go_wp2_with fail
  go_ret
  exact⟨by rw [hE.out];rfl,hb02⟩
 subst c3
 cases q1 with
 | false=>
   have hE:=hide (NO.out _ (fun h=>(HD.out.1 h).2.2.2.2.1) (by decide))
   go_enter Tryz.func119,Tryz.ntmps119
   go_wp2_with fail
   refine P.out.mono ?_
   rintro e w3 ⟨rfl,hb3⟩
   clear a0 a1 a2 a3 a4 a5 a6 a7 b0 b1 b2 b3 b4 b5 b6 b7
   go_wp2_with fail
   go_ret
   exact⟨by rw [hE.out];rfl,fresh hb02 hb3⟩
 | true=>
   have hE:=hide (show en=q2 by
    cases q2
    ·exact NO.out _ (fun h=>(HD.out.1 h).2.2.2.2.2) (by decide)
    ·exact HD.out.2 ⟨rfl,rfl,rfl,rfl,rfl,rfl⟩)
   go_enter Tryz.func119,Tryz.ntmps119
   go_wp2_with fail
   refine P.out.mono ?_
   rintro e w3 ⟨rfl,hb3⟩
   clear a0 a1 a2 a3 a4 a5 a6 a7 b0 b1 b2 b3 b4 b5 b6 b7
   obtain⟨a0,a1,a2,a3,a4,a5,a6,a7⟩:=(HF1.out.below hb3).cells
   obtain⟨b0,b1,b2,b3,b4,b5,b6,b7⟩:=(HF2.out.below hb3).cells
   go_wp2_with fail
   refine (Q.out w3 hb3).mono ?_
   rintro e w4 ⟨rfl,hb4⟩
   clear a0 a1 a2 a3 a4 a5 a6 a7 b0 b1 b2 b3 b4 b5 b6 b7
   go_wp2_with fail
   go_ret
   exact⟨by rw [hE.out];rfl,fresh (fresh hb02 hb3) hb4⟩
theorem ensame1 (x y:WsL) (w:World) (hr:RT w w.heap.size x.sA x.s∧RBl w w.heap.size x.gA x.g) (hs:RT w w.heap.size y.sA y.s∧RBl w w.heap.size y.gA y.g) (ho:okW x):
 Calls Tryz.prog 119 #[x.env,y.env] w fun e w'=>e= .returned (.bool (decide (x.en=y.en)))∧Below w.heap.size w w':=
 ensameP x.t x.r y.t y.r x.rd x.kn y.rd y.kn x.sA y.sA x.gA y.gA x.sc y.sc x.gc y.gc x.s y.s x.g y.g w hr hs ⟨ho.2.2.2.2.2.1,ho.2.2.2.2.2.2.2.1,ho.2.2.2.2.2.2.2.2⟩
theorem wssame1 (x y:WsL) (w:World) (hr:RT w w.heap.size x.hA x.h) (hs:RT w w.heap.size y.hA y.h) (ho:okW x):
 Calls Tryz.prog 79 #[x.val,y.val] w fun e w'=>e= .returned (.bool (decide (x.hp=y.hp)))∧Below w.heap.size w w':=by
 unfold WsL.hp
 unfold WsL.val
 obtain⟨w1,hw1,F1,hs1,hb1⟩:=wish_box w (.int .u32 x.t) (.int .u8 x.r) (.bool x.rd) (.slice x.hA x.h.length x.hc) (.bool x.kn) (.slice x.sA x.s.length x.sc) (.slice x.gA x.g.length x.gc)
 obtain⟨w2,hw2,F2,hs2,hb2⟩:=wish_box w1 (.int .u32 y.t) (.int .u8 y.r) (.bool y.rd) (.slice y.hA y.h.length y.hc) (.bool y.kn) (.slice y.sA y.s.length y.sc) (.slice y.gA y.g.length y.gc)
 have hb02:=fresh hb1 hb2
 obtain⟨a0,a1,a2,a3,a4,a5,a6⟩:=(F1.below hb2).cells
 obtain⟨b0,b1,b2,b3,b4,b5,b6⟩:=F2.cells
 have P:=hide (tmsame_any x.hA y.hA x.hc y.hc x.h.length y.h.length x.h y.h w2 ((hr.below hb02).more hb02.size) ((hs.below hb02).more hb02.size) rfl rfl ho.2.2.2.2.2.2.1 ho.2.2.2.2.1)
 obtain⟨s1,hS1⟩:∃ q,decide (x.h.map TmL.pt=y.h.map TmL.pt)=q:=⟨_,rfl⟩
 rw [hS1] at P ⊢
 clear hS1 hr hs ho F1 F2
 go_enter Tryz.func79,Tryz.ntmps79
 go_wp2_with fail
 refine P.out.mono ?_
 rintro e w3 ⟨rfl,hb3⟩
 clear a0 a1 a2 a3 a4 a5 a6 b0 b1 b2 b3 b4 b5 b6
 go_wp2_with fail
 go_ret
 exact⟨rfl,fresh hb02 hb3⟩
theorem eneq_any (A B:Option Addr) (c d n k:Nat) (L M:List WsL) (w:World) (hr:RE w w.heap.size A L) (hs:RE w w.heap.size B M) (hn:L.length=n) (hk:M.length=k) (hl:n < 1073741824) (ho:∀ x∈L,okW x):
 Calls Tryz.prog 118 #[.slice A n c,.slice B k d,.func (.func 119) #[] #[]] w fun e w'=>e= .returned (.bool (decide (L.map WsL.en=M.map WsL.en)))∧Below w.heap.size w w':=by
 subst hn hk
 by_cases hne:(L.length:Int)=(M.length:Int)
 ·have E:=hide (show L.length=M.length by omega)
  have hbe:((L.length:Int) == (M.length:Int))=true:=by simpa using hne
  have hbn:((L.length:Int) != (M.length:Int))=false:=by simpa using hne
  have HR:=hide hr
  have HS:=hide hs
  clear hne hr hs
  go_enter Tryz.func118,Tryz.ntmps118
  go_wp2_with fail
  go_loopw [17] (fun i wr=>∃ j:Nat,j≤L.length∧i= .int .i64 (j:Int)∧Hid ((L.take j).map WsL.en=(M.take j).map WsL.en)∧Below w.heap.size w wr) (fun i _=>L.length - (intOf i).toNat)
  case atStart=>exact⟨0,by omega,rfl,hide rfl,Below.refl _ _⟩
  case round=>
   obtain⟨j,hj,rfl,hT,hb⟩:=hrel
   by_cases hlt:j < L.length
   ·have hltm:j < M.length:=by have:=E.out;omega
    have z0:(j:Int) < L.length:=by omega
    have z1:(j:Int) < M.length:=by omega
    have z4:(0:Int)≤j:=by omega
    obtain⟨x,hx⟩:∃ x,L[j]=x:=⟨_,rfl⟩
    obtain⟨y,hy⟩:∃ x,M[j]=x:=⟨_,rfl⟩
    have hxm:x∈L:=by rw [←hx];exact List.getElem_mem hlt
    have hym:y∈M:=by rw [←hy];exact List.getElem_mem hltm
    obtain⟨p0,o0,rfl,hB0,hC0⟩:=RE.cell (HR.out.below hb) (by omega)
    obtain⟨d0,d1,d2,d3,d4,d5,d6,d7⟩:=hC0 j hlt
    rw [hx] at d0 d1 d2 d5 d6 d7
    obtain⟨w1,hw1,F1,hs1,hb1⟩:=entry_box wr (.int .u32 x.t) (.int .u8 x.r) (.bool x.rd) (.bool false) (.int .i64 0) (.bool x.kn) (.slice x.sA x.s.length x.sc) (.slice x.gA x.g.length x.gc)
    obtain⟨w2,hw2,F2,hs2,hb2⟩:=entry_box w1 (.int .u32 y.t) (.int .u8 y.r) (.bool y.rd) (.bool false) (.int .i64 0) (.bool y.kn) (.slice y.sA y.s.length y.sc) (.slice y.gA y.g.length y.gc)
    have hbb1:=fresh hb hb1
    have hbb2:=fresh hbb1 hb2
    obtain⟨p1,o1,rfl,hB1,hC1⟩:=RE.cell (HS.out.below hbb1) (by omega)
    obtain⟨e0,e1,e2,e3,e4,e5,e6,e7⟩:=hC1 j hltm
    rw [hy] at e0 e1 e2 e5 e6 e7
    obtain⟨a0,a1,a2,a3,a4,a5,a6,a7⟩:=(F1.below hb2).cells
    obtain⟨b0,b1,b2,b3,b4,b5,b6,b7⟩:=F2.cells
    have RX:=(HR.out.below hbb2).more hbb2.size
    have RY:=(HS.out.below hbb2).more hbb2.size
    have HP:=hide (ensame1 x y w2 (RX.2 x hxm) (RY.2 y hym) (ho x hxm))
    obtain⟨bv,hbv⟩:∃ q,decide (WsL.en x=WsL.en y)=q:=⟨_,rfl⟩
    rw [hbv] at HP
    clear hC0 hC1 F1 F2 RX RY
    cases bv
    ·have hf:=hide (show decide (L.map WsL.en=M.map WsL.en)=false by
      rw [decide_eq_false_iff_not]
      intro e
      have h1:(L.map WsL.en)[j]?=(M.map WsL.en)[j]?:=by rw [e]
      rw [List.getElem?_map,List.getElem?_map,List.getElem?_eq_getElem hlt,List.getElem?_eq_getElem hltm,hx,hy] at h1
      simp only [Option.map_some,Option.some.injEq] at h1
      exact (decide_eq_false_iff_not.1 hbv) h1)
     clear hx hy hxm hym hbv
     go_wp2_with fail
     refine HP.out.mono ?_
     rintro e w3 ⟨rfl,hb3⟩
     clear d0 d1 d2 d3 d4 d5 d6 d7 e0 e1 e2 e3 e4 e5 e6 e7 a0 a1 a2 a3 a4 a5 a6 a7 b0 b1 b2 b3 b4 b5 b6 b7
     go_wp2_with fail
     go_ret
     exact⟨ret_bool hf.out.symm,fresh hbb2 hb3⟩
    ·have hT2:=hide (show (L.take (j+1)).map WsL.en=(M.take (j+1)).map WsL.en by
      rw [List.take_succ_eq_append_getElem hlt,List.take_succ_eq_append_getElem hltm,List.map_append,List.map_append,hT.out,hx,hy]
      simp only [List.map_cons,List.map_nil]
      rw [of_decide_eq_true hbv])
     clear hx hy hxm hym hbv
     go_wp2_with fail
     refine HP.out.mono ?_
     rintro e w3 ⟨rfl,hb3⟩
     clear d0 d1 d2 d3 d4 d5 d6 d7 e0 e1 e2 e3 e4 e5 e6 e7 a0 a1 a2 a3 a4 a5 a6 a7 b0 b1 b2 b3 b4 b5 b6 b7
     go_wp2_with fail
     go_roundw
     case rel=>exact⟨j+1,by omega,by go_num,hT2,fresh hbb2 hb3⟩
     case measure=>simp [intOf];omega
   ·have hkl:¬ (j:Int) < L.length:=by omega
    have fin:=hide (show decide (L.map WsL.en=M.map WsL.en)=true by
     have h1:=hT.out
     rw [List.take_of_length_le (by omega),List.take_of_length_le (by have:=E.out;omega)] at h1
     exact decide_eq_true h1)
    go_wp2_with fail
    go_ret
    exact⟨ret_bool fin.out.symm,hb⟩
 ·have hbe:((L.length:Int) == (M.length:Int))=false:=by simpa using hne
  have hbn:((L.length:Int) != (M.length:Int))=true:=by simpa using hne
  have fin:=hide (show decide (L.map WsL.en=M.map WsL.en)=false by
   rw [decide_eq_false_iff_not]
   intro e
   have h1:=congrArg List.length e
   rw [List.length_map,List.length_map] at h1
   exact hne (by rw [h1]))
  clear hne
  go_enter Tryz.func118,Tryz.ntmps118
  go_wp2_with fail
  go_ret
  exact⟨ret_bool fin.out.symm,Below.refl _ _⟩
theorem ensame_any (A B:Option Addr) (c d n k:Nat) (L M:List WsL) (w:World) (hr:RE w w.heap.size A L) (hs:RE w w.heap.size B M) (hn:L.length=n) (hk:M.length=k) (hl:n < 1073741824) (ho:∀ x∈L,okW x):
 Calls Tryz.prog 76 #[.slice A n c,.slice B k d] w fun e w'=>e= .returned (.bool (decide (L.map WsL.en=M.map WsL.en)))∧Below w.heap.size w w':=by
 have C:=hide (eneq_any A B c d n k L M w hr hs hn hk hl ho)
 clear hn hk
 go_enter Tryz.func76,Tryz.ntmps76
 go_wp2_with fail
 refine (unhide C).mono ?_
 rintro e w1 ⟨rfl,hb1⟩
 go_wp2_with fail
 go_ret
 exact⟨rfl,hb1⟩
theorem wseq_any (A B:Option Addr) (c d n k:Nat) (L M:List WsL) (w:World) (hr:RW w w.heap.size A L) (hs:RW w w.heap.size B M) (hn:L.length=n) (hk:M.length=k) (hl:n < 1073741824) (ho:∀ x∈L,okW x):
 Calls Tryz.prog 78 #[.slice A n c,.slice B k d,.func (.func 79) #[] #[]] w fun e w'=>e= .returned (.bool (decide (L.map WsL.hp=M.map WsL.hp)))∧Below w.heap.size w w':=by
 subst hn hk
 by_cases hne:(L.length:Int)=(M.length:Int)
 ·have E:=hide (show L.length=M.length by omega)
  have hbe:((L.length:Int) == (M.length:Int))=true:=by simpa using hne
  have hbn:((L.length:Int) != (M.length:Int))=false:=by simpa using hne
  have HR:=hide hr
  have HS:=hide hs
  clear hne hr hs
  go_enter Tryz.func78,Tryz.ntmps78
  go_wp2_with fail
  go_loopw [17] (fun i wr=>∃ j:Nat,j≤L.length∧i= .int .i64 (j:Int)∧Hid ((L.take j).map WsL.hp=(M.take j).map WsL.hp)∧Below w.heap.size w wr) (fun i _=>L.length - (intOf i).toNat)
  case atStart=>exact⟨0,by omega,rfl,hide rfl,Below.refl _ _⟩
  case round=>
   obtain⟨j,hj,rfl,hT,hb⟩:=hrel
   by_cases hlt:j < L.length
   ·have hltm:j < M.length:=by have:=E.out;omega
    have z0:(j:Int) < L.length:=by omega
    have z1:(j:Int) < M.length:=by omega
    have z4:(0:Int)≤j:=by omega
    obtain⟨x,hx⟩:∃ x,L[j]=x:=⟨_,rfl⟩
    obtain⟨y,hy⟩:∃ x,M[j]=x:=⟨_,rfl⟩
    have hxm:x∈L:=by rw [←hx];exact List.getElem_mem hlt
    have hym:y∈M:=by rw [←hy];exact List.getElem_mem hltm
    obtain⟨p0,o0,rfl,hB0,hC0⟩:=RW.cell (HR.out.below hb) (by omega)
    obtain⟨d0,d1,d2,d3,d4,d5,d6⟩:=hC0 j hlt
    rw [hx] at d0 d1 d2 d3 d4 d5 d6
    obtain⟨w1,hw1,F1,hs1,hb1⟩:=wish_box wr (.int .u32 x.t) (.int .u8 x.r) (.bool x.rd) (.slice x.hA x.h.length x.hc) (.bool x.kn) (.slice x.sA x.s.length x.sc) (.slice x.gA x.g.length x.gc)
    obtain⟨w2,hw2,F2,hs2,hb2⟩:=wish_box w1 (.int .u32 y.t) (.int .u8 y.r) (.bool y.rd) (.slice y.hA y.h.length y.hc) (.bool y.kn) (.slice y.sA y.s.length y.sc) (.slice y.gA y.g.length y.gc)
    have hbb1:=fresh hb hb1
    have hbb2:=fresh hbb1 hb2
    obtain⟨p1,o1,rfl,hB1,hC1⟩:=RW.cell (HS.out.below hbb1) (by omega)
    obtain⟨e0,e1,e2,e3,e4,e5,e6⟩:=hC1 j hltm
    rw [hy] at e0 e1 e2 e3 e4 e5 e6
    obtain⟨a0,a1,a2,a3,a4,a5,a6⟩:=(F1.below hb2).cells
    obtain⟨b0,b1,b2,b3,b4,b5,b6⟩:=F2.cells
    have RX:=(HR.out.below hbb2).more hbb2.size
    have RY:=(HS.out.below hbb2).more hbb2.size
    have HP:=hide (wssame1 x y w2 (RX.2 x hxm).1 (RY.2 y hym).1 (ho x hxm))
    obtain⟨bv,hbv⟩:∃ q,decide (WsL.hp x=WsL.hp y)=q:=⟨_,rfl⟩
    rw [hbv] at HP
    clear hC0 hC1 F1 F2 RX RY
    cases bv
    ·have hf:=hide (show decide (L.map WsL.hp=M.map WsL.hp)=false by
      rw [decide_eq_false_iff_not]
      intro e
      have h1:(L.map WsL.hp)[j]?=(M.map WsL.hp)[j]?:=by rw [e]
      rw [List.getElem?_map,List.getElem?_map,List.getElem?_eq_getElem hlt,List.getElem?_eq_getElem hltm,hx,hy] at h1
      simp only [Option.map_some,Option.some.injEq] at h1
      exact (decide_eq_false_iff_not.1 hbv) h1)
     clear hx hy hxm hym hbv
     go_wp2_with fail
     refine HP.out.mono ?_
     rintro e w3 ⟨rfl,hb3⟩
     clear d0 d1 d2 d3 d4 d5 d6 e0 e1 e2 e3 e4 e5 e6 a0 a1 a2 a3 a4 a5 a6 b0 b1 b2 b3 b4 b5 b6
     go_wp2_with fail
     go_ret
     exact⟨ret_bool hf.out.symm,fresh hbb2 hb3⟩
    ·have hT2:=hide (show (L.take (j+1)).map WsL.hp=(M.take (j+1)).map WsL.hp by
      rw [List.take_succ_eq_append_getElem hlt,List.take_succ_eq_append_getElem hltm,List.map_append,List.map_append,hT.out,hx,hy]
      simp only [List.map_cons,List.map_nil]
      rw [of_decide_eq_true hbv])
     clear hx hy hxm hym hbv
     go_wp2_with fail
     refine HP.out.mono ?_
     rintro e w3 ⟨rfl,hb3⟩
     clear d0 d1 d2 d3 d4 d5 d6 e0 e1 e2 e3 e4 e5 e6 a0 a1 a2 a3 a4 a5 a6 b0 b1 b2 b3 b4 b5 b6
     go_wp2_with fail
     go_roundw
     case rel=>exact⟨j+1,by omega,by go_num,hT2,fresh hbb2 hb3⟩
     case measure=>simp [intOf];omega
   ·have hkl:¬ (j:Int) < L.length:=by omega
    have fin:=hide (show decide (L.map WsL.hp=M.map WsL.hp)=true by
     have h1:=hT.out
     rw [List.take_of_length_le (by omega),List.take_of_length_le (by have:=E.out;omega)] at h1
     exact decide_eq_true h1)
    go_wp2_with fail
    go_ret
    exact⟨ret_bool fin.out.symm,hb⟩
 ·have hbe:((L.length:Int) == (M.length:Int))=false:=by simpa using hne
  have hbn:((L.length:Int) != (M.length:Int))=true:=by simpa using hne
  have fin:=hide (show decide (L.map WsL.hp=M.map WsL.hp)=false by
   rw [decide_eq_false_iff_not]
   intro e
   have h1:=congrArg List.length e
   rw [List.length_map,List.length_map] at h1
   exact hne (by rw [h1]))
  clear hne
  go_enter Tryz.func78,Tryz.ntmps78
  go_wp2_with fail
  go_ret
  exact⟨ret_bool fin.out.symm,Below.refl _ _⟩
/-- May a stamp be a section's? -/
def secI (t r:Int):Prop:=(t=0∧r=0)∨mayI t r
instance (t r:Int):Decidable (secI t r):=by unfold secI;infer_instance
/-- May an entry be? -/
def oneP (e:EnP):Prop:=secI e.1.1 e.1.2∧(if e.2.1.2=true then e.2.1.1=false∧mayT e.2.2.1∧cntT e.2.2.1≤1024∧(e.2.2.2.length:Int)=(cntT e.2.2.1+7) / 8 else e.2.2.1.length=0∧e.2.2.2.length=0)
instance (e:EnP):Decidable (oneP e):=by unfold oneP;infer_instance
/-- May a clock be mail's? -/
def idsP (P:List PT):Prop:=mayT P∧cntT P≤1024
instance (P:List PT):Decidable (idsP P):=by unfold idsP;infer_instance
theorem section_any (t r:Int) (w:World):
 Calls Tryz.prog 113 #[.agg #[.int .u32 t,.int .u8 r]] w fun e w'=>e= .returned (.bool (decide (secI t r)))∧Below w.heap.size w w':=by
 obtain⟨w1,hw1,F1,hs1,hb1⟩:=two_pb w (.int .u32 t) (.int .u8 r) 46
 obtain⟨a0,a1⟩:=F1.cells
 by_cases hz:t=0∧r=0
 ·have hE:=hide (show decide (secI t r)=true from decide_eq_true (.inl hz))
  rw [hE.out]
  obtain⟨rfl,rfl⟩:=hz
  clear hE F1
  go_enter Tryz.func113,Tryz.ntmps113
  go_wp2_with fail
  go_ret
  exact⟨rfl,hb1⟩
 ·have hE:decide (secI t r)=decide (mayI t r):=by
   simp only [secI,hz,false_or]
  rw [hE]
  have P:=hide (scheck_any t r w1)
  have hcs:(¬ t=0)∨(t=0∧¬ r=0):=by
   by_cases h0:t=0
   ·exact .inr ⟨h0,fun h=>hz ⟨h0,h⟩⟩
   ·exact .inl h0
  clear hz hE F1
  by_cases hm:mayI t r
  ·rw [show chkI t r=0 from if_pos hm] at P
   rw [show decide (mayI t r)=true from decide_eq_true hm]
   clear hm
   rcases hcs with h | ⟨rfl,h⟩
   all_goals
    go_enter Tryz.func113,Tryz.ntmps113
    go_wp2_with fail
    refine P.out.mono ?_
    rintro e w2 ⟨rfl,hb2⟩
    clear a0 a1
    go_wp2_with fail
    go_ret
    exact⟨rfl,fresh hb1 hb2⟩
  ·rw [show chkI t r=8 from if_neg hm] at P
   rw [show decide (mayI t r)=false from decide_eq_false hm]
   clear hm
   rcases hcs with h | ⟨rfl,h⟩
   all_goals
    go_enter Tryz.func113,Tryz.ntmps113
    go_wp2_with fail
    refine P.out.mono ?_
    rintro e w2 ⟨rfl,hb2⟩
    clear a0 a1
    go_wp2_with fail
    go_ret
    exact⟨rfl,fresh hb1 hb2⟩
theorem ids_any (A:Option Addr) (n c:Nat) (L:List TmL) (w:World) (hr:RT w w.heap.size A L) (hn:L.length=n) (hok:∀ x∈L,okT x) (hn9:n < 1073741824):
 Calls Tryz.prog 111 #[.slice A n c] w fun e w'=>e= .returned (.bool (decide (idsP (L.map TmL.pt))))∧Below w.heap.size w w':=by
 have P:=hide (tmcheck_any A n c L w hr hn hok hn9)
 have Q:=hide (fun W (h:Below w.heap.size w W)=>tmcount_any A n c L W ((hr.below h).more h.size) hn hok hn9)
 by_cases hm:mayT (L.map TmL.pt)
 ·rw [show chkT (L.map TmL.pt)=0 from if_pos hm] at P
  have hE:=hide (show decide (idsP (L.map TmL.pt))=decide (cntT (L.map TmL.pt)≤1024) by simp only [idsP,hm,true_and])
  rw [hE.out]
  obtain⟨k,hk⟩:∃ q,q=cntT (L.map TmL.pt):=⟨_,rfl⟩
  rw [←hk] at Q ⊢
  clear hm hE hk hr hn hok
  go_enter Tryz.func111,Tryz.ntmps111
  go_wp2_with fail
  refine P.out.mono ?_
  rintro e w2 ⟨rfl,hb2⟩
  go_wp2_with fail
  refine (Q.out w2 hb2).mono ?_
  rintro e w3 ⟨rfl,hb3⟩
  go_wp2_with fail
  go_ret
  exact⟨rfl,fresh hb2 hb3⟩
 ·rw [show chkT (L.map TmL.pt)=8 from if_neg hm] at P
  have hE:=hide (show decide (idsP (L.map TmL.pt))=false from decide_eq_false fun h=>hm h.1)
  rw [hE.out]
  clear hm hE hr hn hok
  go_enter Tryz.func111,Tryz.ntmps111
  go_wp2_with fail
  refine P.out.mono ?_
  rintro e w2 ⟨rfl,hb2⟩
  go_wp2_with fail
  go_ret
  exact⟨rfl,hb2⟩
theorem cntT_bound (P:List PT):0≤cntT P∧cntT P≤9663676425:=by
 unfold cntT
 split
 ·rename_i h
  have h1:=chainT_len _ _ (by omega) h
  have h2:=sumT_le P fun y hy=>(chainT_all _ _ h y hy).1
  rcases h1 with h1 | rfl
  ·omega
  ·simp [sumT]
 ·omega
theorem one_any (t r:Int) (rd kn:Bool) (sA gA:Option Addr) (sn sc gn gc:Nat) (s:List TmL) (g:List Bool) (w:World) (hr:RT w w.heap.size sA s) (ho:∀ y∈s,okT y) (hs9:sn < 1073741824) (hsn:s.length=sn) (hgn:g.length=gn):
 Calls Tryz.prog 173 #[Go.Proofs.YtmkpfdcnikgokaaGreat.env t r rd kn (.slice sA sn sc) (.slice gA gn gc)] w fun e w'=>e= .returned (.bool (decide (oneP ((t,r),(rd,kn),(s.map TmL.pt,g)))))∧Below w.heap.size w w':=by
 obtain⟨w1,hw1,F1,hs1,hb1⟩:=entry_box w (.int .u32 t) (.int .u8 r) (.bool rd) (.bool false) (.int .i64 0) (.bool kn) (.slice sA sn sc) (.slice gA gn gc)
 obtain⟨a0,a1,a2,a3,a4,a5,a6,a7⟩:=F1.cells
 have HF1:=hide F1
 by_cases hsec:secI t r
 rotate_left
 ·have hE:=hide (show decide (oneP ((t,r),(rd,kn),(s.map TmL.pt,g)))=false from decide_eq_false fun h=>hsec h.1)
  rw [hE.out]
  have hz:¬ (t=0∧r=0):=fun h=>hsec (.inl h)
  have hm:¬ mayI t r:=fun h=>hsec (.inr h)
  have P:=hide (scheck_any t r w1)
  rw [show chkI t r=8 from if_neg hm] at P
  have hcs:(¬ t=0)∨(t=0∧¬ r=0):=by
   by_cases h0:t=0
   ·exact .inr ⟨h0,fun h=>hz ⟨h0,h⟩⟩
   ·exact .inl h0
  clear hz hE F1 hm hsec hr ho
  rcases hcs with h | ⟨rfl,h⟩
  all_goals
   go_enter Tryz.func173,Tryz.ntmps173
   go_wp2_with fail
   refine P.out.mono ?_
   rintro e w2 ⟨rfl,hb2⟩
   clear a0 a1 a2 a3 a4 a5 a6 a7
   go_wp2_with fail
   go_ret
   exact⟨rfl,fresh hb1 hb2⟩
 have hcs:(t=0∧r=0)∨((¬ t=0)∨(t=0∧¬ r=0))∧mayI t r:=by
  by_cases h0:t=0
  ·by_cases h1:r=0
   ·exact .inl ⟨h0,h1⟩
   ·exact .inr ⟨.inr ⟨h0,h1⟩,hsec.resolve_left fun h=>h1 h.2⟩
  ·exact .inr ⟨.inl h0,hsec.resolve_left fun h=>h0 h.1⟩
 cases kn with
 | false=>
   have hE:=hide (show decide (oneP ((t,r),(rd,false),(s.map TmL.pt,g)))=(decide (sn=0) && decide (gn=0)) by
    simp only [oneP,hsec,true_and,Bool.false_eq_true,if_false,List.length_map,hsn,hgn,Bool.decide_and])
   rw [hE.out]
   have P:=hide (fun h:mayI t r=>by
    have:=scheck_any t r w1
    rwa [show chkI t r=0 from if_pos h] at this)
   clear hE hsec F1 hr ho
   by_cases h1:sn=0
   ·subst h1
    by_cases h2:gn=0
    ·subst h2
     rcases hcs with⟨rfl,rfl⟩ | ⟨h | ⟨rfl,h⟩,hm⟩
     ·clear P
      go_enter Tryz.func173,Tryz.ntmps173
      go_wp2_with fail
      go_ret
      exact⟨rfl,hb1⟩
     all_goals
      have P2:=hide (P.out hm)
      clear hm P
      go_enter Tryz.func173,Tryz.ntmps173
      go_wp2_with fail
      refine P2.out.mono ?_
      rintro e w2 ⟨rfl,hb2⟩
      clear a0 a1 a2 a3 a4 a5 a6 a7
      obtain⟨a0,a1,a2,a3,a4,a5,a6,a7⟩:=(HF1.out.below hb2).cells
      go_wp2_with fail
      go_ret
      exact⟨rfl,fresh hb1 hb2⟩
    ·have z:¬ (gn:Int)=0:=by omega
     have zb:((gn:Int) == 0)=false:=beq_eq_false_iff_ne.2 z
     rw [decide_eq_false h2]
     rcases hcs with⟨rfl,rfl⟩ | ⟨h | ⟨rfl,h⟩,hm⟩
     ·clear P
      go_enter Tryz.func173,Tryz.ntmps173
      go_wp2_with fail
      go_ret
      exact⟨rfl,hb1⟩
     all_goals
      have P2:=hide (P.out hm)
      clear hm P
      go_enter Tryz.func173,Tryz.ntmps173
      go_wp2_with fail
      refine P2.out.mono ?_
      rintro e w2 ⟨rfl,hb2⟩
      clear a0 a1 a2 a3 a4 a5 a6 a7
      obtain⟨a0,a1,a2,a3,a4,a5,a6,a7⟩:=(HF1.out.below hb2).cells
      go_wp2_with fail
      go_ret
      exact⟨rfl,fresh hb1 hb2⟩
   ·have z:¬ (sn:Int)=0:=by omega
    have zb:((sn:Int) == 0)=false:=beq_eq_false_iff_ne.2 z
    rw [decide_eq_false h1]
    rcases hcs with⟨rfl,rfl⟩ | ⟨h | ⟨rfl,h⟩,hm⟩
    ·clear P
     go_enter Tryz.func173,Tryz.ntmps173
     go_wp2_with fail
     go_ret
     exact⟨rfl,hb1⟩
    all_goals
     have P2:=hide (P.out hm)
     clear hm P
     go_enter Tryz.func173,Tryz.ntmps173
     go_wp2_with fail
     refine P2.out.mono ?_
     rintro e w2 ⟨rfl,hb2⟩
     clear a0 a1 a2 a3 a4 a5 a6 a7
     obtain⟨a0,a1,a2,a3,a4,a5,a6,a7⟩:=(HF1.out.below hb2).cells
     go_wp2_with fail
     go_ret
     exact⟨rfl,fresh hb1 hb2⟩
 | true=>
   have P:=hide (fun h:mayI t r=>by
    have:=scheck_any t r w1
    rwa [show chkI t r=0 from if_pos h] at this)
   have Q:=hide (fun W (h:Below w1.heap.size w1 W)=>tmcount_any sA sn sc s W ((hr.below (fresh hb1 h)).more (fresh hb1 h).size) hsn ho hs9)
   have R:=hide (fun W (h:Below w1.heap.size w1 W)=>tmcheck_any sA sn sc s W ((hr.below (fresh hb1 h)).more (fresh hb1 h).size) hsn ho hs9)
   obtain⟨k0,k9⟩:=cntT_bound (s.map TmL.pt)
   obtain⟨DM,hDM⟩:∃ q,q=decide (mayT (s.map TmL.pt)):=⟨_,rfl⟩
   have hchk:chkT (s.map TmL.pt)=if DM=true then 0 else 8:=by
    unfold chkT
    rw [hDM]
    by_cases h:mayT (s.map TmL.pt) <;> simp [h]
   have hE:=hide (show decide (oneP ((t,r),(rd,true),(s.map TmL.pt,g)))=(!rd && DM && decide (cntT (s.map TmL.pt)≤1024) && decide ((gn:Int)=(cntT (s.map TmL.pt)+7) / 8)) by
    simp only [oneP,hsec,true_and,if_true,hgn,Bool.decide_and,hDM]
    cases rd <;> simp [Bool.and_assoc])
   rw [hE.out]
   rw [hchk] at R
   obtain⟨k,hk⟩:∃ q,q=cntT (s.map TmL.pt):=⟨_,rfl⟩
   rw [←hk] at Q k0 k9 ⊢
   have q1:IntKind.i64.wrap (k+8)=k+8:=IntWalk.i64_in _ (by omega)
   have q2:IntKind.i64.wrap (k+8 - 1)=k+8 - 1:=IntWalk.i64_in _ (by omega)
   clear hE hsec F1 hr ho hk hDM hchk
   rcases hcs with⟨rfl,rfl⟩ | ⟨h | ⟨rfl,h⟩,hm⟩
   rotate_left
   all_goals
    try have P2:=hide (P.out hm)
    try clear hm
    go_enter Tryz.func173,Tryz.ntmps173
    go_wp2_with fail
    first
     | (refine P2.out.mono ?_
        rintro e w2 ⟨rfl,hb2⟩
        clear a0 a1 a2 a3 a4 a5 a6 a7
        obtain⟨a0,a1,a2,a3,a4,a5,a6,a7⟩:=(HF1.out.below hb2).cells
        go_wp2_with fail)
     | (have hb2:Below w1.heap.size w1 w1:=Below.refl _ _)
    refine (Q.out _ hb2).mono ?_
    rintro e w3 ⟨rfl,hb3⟩
    have hb03:=fresh hb2 hb3
    clear a0 a1 a2 a3 a4 a5 a6 a7
    obtain⟨a0,a1,a2,a3,a4,a5,a6,a7⟩:=(HF1.out.below hb03).cells
    cases rd with
    | true=>
      go_wp2_with fail
      go_ret
      exact⟨rfl,fresh hb1 hb03⟩
    | false=>
      go_wp2_with fail
      refine (R.out w3 hb03).mono ?_
      rintro e w4 ⟨rfl,hb4⟩
      have hb04:=fresh hb03 hb4
      clear a0 a1 a2 a3 a4 a5 a6 a7
      obtain⟨a0,a1,a2,a3,a4,a5,a6,a7⟩:=(HF1.out.below hb04).cells
      cases DM with
      | false=>
        go_wp2_with fail
        go_ret
        exact⟨rfl,fresh hb1 hb04⟩
      | true=>
        by_cases hk9:k≤1024
        ·have HV:=hide (show decide (k≤1024)=true∧((gn:Int) == (k+8 - 1) / 8)=decide ((gn:Int)=(k+7) / 8) from⟨decide_eq_true hk9,by
          rw [show k+8 - 1=k+7 by omega]
          rfl⟩)
         go_wp2_with fail
         go_ret
         exact⟨by rw [HV.out.1,←HV.out.2];rfl,fresh hb1 hb04⟩
        ·have hdec:=hide (decide_eq_false hk9)
         go_wp2_with fail
         go_ret
         exact⟨by rw [hdec.out];rfl,fresh hb1 hb04⟩
end Go.Proofs.YtmkpfdcnikgokaaGreat
