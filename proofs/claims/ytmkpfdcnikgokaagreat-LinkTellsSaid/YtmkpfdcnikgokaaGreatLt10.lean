/-
  Texts of this claim, put together: Clocks, Eye. What each theorem asks stands in its statement.
-/
import Derived.Test.YtmkpfdcnikgokaaGreatLt9
set_option linter.unusedVariables false
set_option linter.unusedSimpArgs false
set_option maxRecDepth 100000
set_option maxHeartbeats 25600000
namespace Go.Proofs.YtmkpfdcnikgokaaGreat
open Go.RowKit
/-- slices.Equal: the same spans. -/
theorem spequal_any (A B:Option Addr) (c d n k:Nat) (l m:List Sp) (w:World) (hr:RS w w.heap.size A l) (hs:RS w w.heap.size B m) (hn:l.length=n) (hk:m.length=k) (hl:n < 1073741824):
 Calls Tryz.prog 154 #[.slice A n c,.slice B k d] w fun e w'=>e= .returned (.bool (decide (l=m)))∧Below w.heap.size w w':=by
 subst hn hk
 by_cases hne:(l.length:Int)=(m.length:Int)
 ·have hll:l.length=m.length:=by omega
  have E:=hide hll
  have hbe:((l.length:Int) == (m.length:Int))=true:=by simpa using hne
  have hbn:((l.length:Int) != (m.length:Int))=false:=by simpa using hne
  clear hne
  go_enter Tryz.func154,Tryz.ntmps154
  clear hll
  go_wp2_with fail
  go_loopw [13] (fun i wr=>∃ k:Nat,k≤l.length∧i= .int .i64 (k:Int)∧Hid (l.take k=m.take k)∧Below w.heap.size w wr) (fun i _=>l.length - (intOf i).toNat)
  case atStart=>exact⟨0,by omega,rfl,hide rfl,Below.refl _ _⟩
  case round=>
   obtain⟨k,hk,rfl,hT,hb⟩:=hrel
   by_cases hlt:k < l.length
   ·have hltm:k < m.length:=by have:=E.out;omega
    obtain⟨b0,o0,rfl,hB0,hC0⟩:=RS.cell (RD.below hr hb) (by omega)
    obtain⟨b1,o1,rfl,hB1,hC1⟩:=RS.cell (RD.below hs hb) (by omega)
    obtain⟨d0,d1⟩:=hC0 k hlt
    obtain⟨e0,e1⟩:=hC1 k hltm
    clear hC0 hC1
    have z0:(k:Int) < l.length:=by omega
    have z1:(k:Int) < m.length:=by omega
    have z4:(0:Int)≤k:=by omega
    obtain⟨x0,hx0⟩:∃ x,x=l[k].1:=⟨_,rfl⟩
    obtain⟨x1,hx1⟩:∃ x,x=l[k].2:=⟨_,rfl⟩
    obtain⟨y0,hy0⟩:∃ x,x=m[k].1:=⟨_,rfl⟩
    obtain⟨y1,hy1⟩:∃ x,x=m[k].2:=⟨_,rfl⟩
    rw [←hx0] at d0
    rw [←hx1] at d1
    rw [←hy0] at e0
    rw [←hy1] at e1
    have hX:=hide (show l[k]=(x0,x1) by rw [hx0,hx1])
    have hY:=hide (show m[k]=(y0,y1) by rw [hy0,hy1])
    clear hx0 hx1 hy0 hy1
    by_cases hxy:x0=y0∧x1=y1
    ·obtain⟨rfl,rfl⟩:=hxy
     go_wp2_with fail
     go_quiet (fail)
     go_wp2_with fail
     go_roundw
     case rel=>
      refine⟨k+1,by omega,by go_num,hide ?_,below_drewN hb _⟩
      rw [List.take_succ_eq_append_getElem hlt,List.take_succ_eq_append_getElem hltm,hT.out,hX.out,hY.out]
     case measure=>simp [intOf];omega
    ·have hcs:(¬ x0=y0)∨(x0=y0∧¬ x1=y1):=by
      by_cases h0:x0=y0
      ·exact .inr ⟨h0,fun h1=>hxy ⟨h0,h1⟩⟩
      ·exact .inl h0
     have hf:=hide (show decide (l=m)=false by
      rw [decide_eq_false_iff_not]
      intro e
      subst e
      have:=hX.out.symm.trans hY.out
      simp only [Prod.mk.injEq] at this
      exact hxy this)
     clear hxy
     rcases hcs with h0 | ⟨rfl,h1⟩
     all_goals
      go_wp2_with fail
      go_quiet (fail)
      go_wp2_with fail
      go_ret
      exact⟨ret_bool hf.out.symm,below_drewN hb _⟩
   ·have hkl:¬ (k:Int) < l.length:=by omega
    have fin:=hide (show decide (l=m)=true by
     have h1:=hT.out
     rw [List.take_of_length_le (by omega),List.take_of_length_le (by have:=E.out;omega)] at h1
     exact decide_eq_true h1)
    go_wp2_with fail
    go_ret
    exact⟨ret_bool fin.out.symm,hb⟩
 ·have hbe:((l.length:Int) == (m.length:Int))=false:=by simpa using hne
  have hbn:((l.length:Int) != (m.length:Int))=true:=by simpa using hne
  have fin:=hide (show decide (l=m)=false by
   rw [decide_eq_false_iff_not]
   intro e
   exact hne (by rw [e]))
  clear hne
  go_enter Tryz.func154,Tryz.ntmps154
  go_wp2_with fail
  go_ret
  exact⟨ret_bool fin.out.symm,Below.refl _ _⟩
theorem spsame_any (A B:Option Addr) (c d n k:Nat) (l m:List Sp) (w:World) (hr:RS w w.heap.size A l) (hs:RS w w.heap.size B m) (hn:l.length=n) (hk:m.length=k) (hl:n < 1073741824):
 Calls Tryz.prog 116 #[.slice A n c,.slice B k d] w fun e w'=>e= .returned (.bool (decide (l=m)))∧Below w.heap.size w w':=by
 have C:=hide (spequal_any A B c d n k l m w hr hs hn hk hl)
 clear hn hk
 go_enter Tryz.func116,Tryz.ntmps116
 go_wp2_with fail
 refine (unhide C).mono ?_
 rintro e w1 ⟨rfl,hb1⟩
 go_wp2_with fail
 go_ret
 exact⟨rfl,hb1⟩
/-- A replica's times, wherever they lie; as they lie. -/
abbrev PT:=Int×List Sp
structure TmL where
 R:Int
 A:Option Addr
 c:Nat
 s:List Sp
def TmL.pt (x:TmL):PT:=(x.R,x.s)
def TmL.cells (x:TmL):List Value:= [.int .u8 x.R,.slice x.A x.s.length x.c]
abbrev tmv (R:Int) (A:Option Addr) (n c:Nat):Value:= .agg #[.int .u8 R,.slice A n c]
def tms (L:List TmL):List Value:=L.flatMap TmL.cells
theorem tms_append (L M:List TmL):tms (L++M)=tms L++tms M:=by simp [tms]
theorem tms_get (L:List TmL):∀ (i:Nat) (h:i < L.length),(tms L)[i * 2]?=some (.int .u8 L[i].R)∧(tms L)[i * 2+1]?=some (.slice L[i].A L[i].s.length L[i].c):=by
 induction L with
 | nil=>intro i h;simp at h
 | cons a l ih=>
   intro i h
   have e:tms (a :: l)= .int .u8 a.R :: .slice a.A a.s.length a.c :: tms l:=rfl
   rw [e]
   cases i with
   | zero=>exact⟨rfl,rfl⟩
   | succ i=>
     have:=ih i (by simpa using h)
     rw [show (i+1) * 2=i * 2+2 by omega]
     exact this
theorem tms_one (L:List TmL):∀ u∈tms L,u.oneCell'=true:=by
 intro u hu
 simp only [tms,List.mem_flatMap] at hu
 obtain⟨a,_,h⟩:=hu
 simp [TmL.cells] at h
 rcases h with rfl | rfl <;> rfl
/-- A clock that is read. -/
def RT (w:World) (B:Nat) (A:Option Addr) (L:List TmL):Prop:=RD w B 2 A L.length (tms L)∧∀ x∈L,RS w B x.A x.s
theorem RT.below {w w':World} {B:Nat} {A:Option Addr} {L:List TmL} (h:RT w B A L) (hb:Below B w w'):RT w' B A L:=⟨RD.below h.1 hb,fun x hx=>RD.below (h.2 x hx) hb⟩
theorem RT.more {w:World} {B B':Nat} {A:Option Addr} {L:List TmL} (h:RT w B A L) (hB:B≤B'):RT w B' A L:=⟨RD.more h.1 hB,fun x hx=>RD.more (h.2 x hx) hB⟩
theorem RT.cell {w:World} {B:Nat} {A:Option Addr} {L:List TmL} (h:RT w B A L) (hl:0 < L.length):
 ∃ b off,A=some ⟨b,off,none⟩∧b < B∧∀ j (hj:j < L.length),w.cell? ⟨b,off+j * 2,none⟩=some (.int .u8 L[j].R)∧w.cell? ⟨b,off+j * 2+1,none⟩=some (.slice L[j].A L[j].s.length L[j].c):=by
 obtain⟨b,off,e,hb,hc⟩:=h.1.2 hl
 refine⟨b,off,e,hb,fun j hj=>⟨hc (j * 2) _ (tms_get L j hj).1,?_⟩⟩
 have:=hc (j * 2+1) _ (tms_get L j hj).2
 rwa [←Nat.add_assoc] at this
/-- A clock's parts are of their types. -/
def okT (x:TmL):Prop:=0≤x.R∧x.R < 256∧(∀ y∈x.s,okS y)∧x.s.length < 1073741824
/-- May a clock be, behind a replica? -/
def chainT:Int→List PT→Prop
 | _, []=>True
 | last,x :: l=>last < x.1∧x.1 < 8∧1≤x.2.length∧mayS x.2∧chainT x.1 l
instance decChainT:∀ (last:Int) (l:List PT),Decidable (chainT last l)
 | _, []=> .isTrue trivial
 | last,x :: l=>by
   have:=decChainT x.1 l
   unfold chainT
   infer_instance
def mayT (P:List PT):Prop:=chainT (-1) P
instance (P:List PT):Decidable (mayT P):=by unfold mayT;infer_instance
def chkT (P:List PT):Int:=if mayT P then 0 else 8
def sumT:List PT→Int
 | []=>0
 | x :: l=>sumS x.2+sumT l
def cntT (P:List PT):Int:=if mayT P then sumT P else 0
theorem sumT_snoc (l:List PT) (x:PT):sumT (l++ [x])=sumT l+sumS x.2:=by
 induction l with
 | nil=>simp [sumT]
 | cons y l ih=>simp only [List.cons_append,sumT,ih];omega
theorem chainT_len:∀ (l:List PT) (last:Int),-1≤last→chainT last l→(l.length:Int)≤7 - last∨l= []
 | [],_,_,_=> .inr rfl
 | x :: l,last,h,hc=>by
   obtain⟨h1,h2,-,-,h5⟩:=hc
   left
   rw [List.length_cons]
   rcases chainT_len l x.1 (by omega) h5 with h | rfl
   ·omega
   ·simp only [List.length_nil];omega
theorem sumS_may {l:List Sp} (h:mayS l):0≤sumS l∧sumS l≤1073741825:=by
 obtain⟨h1,h2⟩:=sumS_le l 1 (by omega) h.2
 refine⟨h1,?_⟩
 by_cases hn:l= []
 ·subst hn;simp [sumS]
 ·have:=h2 hn;omega
theorem sumT_le:∀ (l:List PT),(∀ x∈l,mayS x.2)→0≤sumT l∧sumT l≤1073741825 * l.length
 | [],_=>by simp [sumT]
 | x :: l,h=>by
   have h1:=sumT_le l fun y hy=>h y (List.mem_cons_of_mem _ hy)
   have h2:=sumS_may (h x List.mem_cons_self)
   simp only [sumT,List.length_cons]
   omega
theorem chainT_all:∀ (l:List PT) (last:Int),chainT last l→∀ x∈l,mayS x.2∧1≤x.2.length
 | x :: l,last,h,y,hy=>by
   obtain⟨-,-,h3,h4,h5⟩:=h
   rcases List.mem_cons.1 hy with rfl | hy
   ·exact⟨h4,h3⟩
   ·exact chainT_all l _ h5 y hy
theorem tmcheck_any (A:Option Addr) (n c:Nat) (L:List TmL) (w:World) (hr:RT w w.heap.size A L) (hn:L.length=n) (hok:∀ x∈L,okT x) (hn9:n < 1073741824):
 Calls Tryz.prog 148 #[.slice A n c] w fun e w'=>e= .returned (.int .i64 (chkT (L.map TmL.pt)))∧Below w.heap.size w w':=by
 have Hok:=hide hok
 have Hn:=hide hn
 have HR:=hide hr
 clear hok hn hr
 go_enter Tryz.func148,Tryz.ntmps148
 go_wp2_with fail
 go_loopw [3,8] (fun lv i wr=>∃ (j:Nat) (v:Int),j≤n∧i= .int .i64 (j:Int)∧lv= .int .i64 v∧-1≤v∧v < 256∧Hid (chainT (-1) (L.map TmL.pt)↔chainT v ((L.drop j).map TmL.pt))∧Below w.heap.size w wr) (fun _ i _=>n - (intOf i).toNat)
 case atStart=>exact⟨0,-1,by omega,rfl,rfl,by omega,by omega,hide Iff.rfl,Below.refl _ _⟩
 case round=>
  obtain⟨j,v,hj,rfl,rfl,hv1,hv2,HC,hb⟩:=hrel
  by_cases hlt:j < n
  ·have hltL:j < L.length:=by rw [Hn.out];exact hlt
   have z0:(j:Int) < n:=by omega
   have zj:(0:Int)≤j:=by omega
   obtain⟨bb,bo,rfl,hB,hCc⟩:=RT.cell (HR.out.below hb) (by omega)
   obtain⟨d0,d1⟩:=hCc j hltL
   obtain⟨x,hx⟩:∃ x,L[j]=x:=⟨_,rfl⟩
   rw [hx] at d0 d1
   have hxm:x∈L:=by rw [←hx];exact List.getElem_mem hltL
   obtain⟨q1,q2,q3,q4⟩:=Hok.out x hxm
   have hdr:L.drop j=x :: L.drop (j+1):=by rw [←hx];exact List.drop_eq_getElem_cons hltL
   have HC1:=HC
   rw [hdr] at HC1
   have HC2:Hid (chainT (-1) (L.map TmL.pt)↔v < x.R∧x.R < 8∧1≤x.s.length∧mayS x.s∧chainT x.R ((L.drop (j+1)).map TmL.pt)):=hide HC1.out
   obtain⟨wx,hwx,FX,hsx,hbx⟩:=two_pb wr (.int .u8 x.R) (.slice x.A x.s.length x.c) 123
   obtain⟨y0,y1⟩:=FX.cells
   have hbxx:=fresh hb hbx
   have hP:=hide (spcheck_any x.A x.s.length x.c x.s wx (RD.more (RD.below (((HR.out.below hb).more hb.size).2 x hxm) hbx) hbx.size) rfl q3)
   have zc:IntKind.i64.wrap x.R=x.R:=IntWalk.i64_in _ (by omega)
   have HFX:=hide FX
   clear hCc hx hdr HC HC1 FX hxm q3
   by_cases c1:x.R≤v
   ·have HE:=hide (show chkT (L.map TmL.pt)=8 from if_neg (fun h=>by have:=(HC2.out.1 h).1;omega))
    go_wp2_with fail
    go_ret
    exact⟨by rw [HE.out];rfl,hbxx⟩
   by_cases c2:(8:Int)≤x.R
   ·have HE:=hide (show chkT (L.map TmL.pt)=8 from if_neg (fun h=>by have:=(HC2.out.1 h).2.1;omega))
    go_wp2_with fail
    go_ret
    exact⟨by rw [HE.out];rfl,hbxx⟩
   by_cases c3:(x.s.length:Int) < 1
   ·have HE:=hide (show chkT (L.map TmL.pt)=8 from if_neg (fun h=>by have:=(HC2.out.1 h).2.2.1;omega))
    go_wp2_with fail
    go_ret
    exact⟨by rw [HE.out];rfl,hbxx⟩
   by_cases c4:mayS x.s
   rotate_left
   ·have HE:=hide (show chkT (L.map TmL.pt)=8 from if_neg (fun h=>c4 (HC2.out.1 h).2.2.2.1))
    rw [show chkS x.s=8 from if_neg c4] at hP
    clear c4
    go_wp2_with fail
    refine hP.out.mono ?_
    rintro e w2 ⟨rfl,hb2⟩
    clear y0 y1 d0 d1
    go_wp2_with fail
    go_ret
    exact⟨by rw [HE.out];rfl,fresh hbxx hb2⟩
   ·have HC3:=hide (show chainT (-1) (L.map TmL.pt)↔chainT x.R ((L.drop (j+1)).map TmL.pt) from⟨fun h=>(HC2.out.1 h).2.2.2.2,fun h=>HC2.out.2 ⟨by omega,by omega,by omega,c4,h⟩⟩)
    rw [show chkS x.s=0 from if_pos c4] at hP
    clear c4
    go_wp2_with fail
    refine hP.out.mono ?_
    rintro e w2 ⟨rfl,hb2⟩
    clear y0 y1 d0 d1
    obtain⟨y0,y1⟩:=(HFX.out.below hb2).cells
    go_wp2_with fail
    go_roundw
    case rel=>exact⟨j+1,x.R,by omega,by go_num,rfl,by omega,by omega,HC3,fresh hbxx hb2⟩
    case measure=>simp [intOf];omega
  ·have z0:¬ (j:Int) < n:=by omega
   have HE:=hide (show chkT (L.map TmL.pt)=0 from if_pos (HC.out.2 (by rw [List.drop_eq_nil_of_le (by rw [Hn.out];omega)];trivial)))
   go_wp2_with fail
   go_ret
   exact⟨by rw [HE.out];rfl,hb⟩
theorem tmcount_any (A:Option Addr) (n c:Nat) (L:List TmL) (w:World) (hr:RT w w.heap.size A L) (hn:L.length=n) (hok:∀ x∈L,okT x) (hn9:n < 1073741824):
 Calls Tryz.prog 149 #[.slice A n c] w fun e w'=>e= .returned (.int .i64 (cntT (L.map TmL.pt)))∧Below w.heap.size w w':=by
 have hP:=hide (tmcheck_any A n c L w hr hn hok hn9)
 by_cases hm:mayT (L.map TmL.pt)
 rotate_left
 ·rw [show chkT (L.map TmL.pt)=8 from if_neg hm] at hP
  have HE:=hide (show cntT (L.map TmL.pt)=0 from if_neg hm)
  clear hm hr hn hok
  go_enter Tryz.func149,Tryz.ntmps149
  go_wp2_with fail
  refine hP.out.mono ?_
  rintro e w2 ⟨rfl,hb2⟩
  go_wp2_with fail
  go_ret
  exact⟨by rw [HE.out];rfl,hb2⟩
 rw [show chkT (L.map TmL.pt)=0 from if_pos hm] at hP
 have HE:=hide (show cntT (L.map TmL.pt)=sumT (L.map TmL.pt) from if_pos hm)
 have HM:=hide (chainT_all _ _ hm)
 have hn8:n≤8:=by
  have h1:=chainT_len _ _ (by omega) hm
  rw [List.length_map] at h1
  rcases h1 with h | h
  ·omega
  ·have:=congrArg List.length h;rw [List.length_map] at this;simp only [List.length_nil] at this;omega
 have Hok:=hide hok
 have Hn:=hide hn
 have HR:=hide hr
 clear hm hr hn hok
 go_enter Tryz.func149,Tryz.ntmps149
 go_wp2_with fail
 refine hP.out.mono ?_
 rintro e w2 ⟨rfl,hb2⟩
 go_wp2_with fail
 go_loopw [2,10] (fun s i wr=>∃ j:Nat,j≤n∧i= .int .i64 (j:Int)∧s= .int .i64 (sumT ((L.take j).map TmL.pt))∧Below w.heap.size w wr) (fun _ i _=>n - (intOf i).toNat)
 case atStart=>exact⟨0,by omega,rfl,rfl,hb2⟩
 case round=>
  obtain⟨j,hj,rfl,rfl,hb⟩:=hrel
  by_cases hlt:j < n
  ·have hltL:j < L.length:=by rw [Hn.out];exact hlt
   have z0:(j:Int) < n:=by omega
   have zj:(0:Int)≤j:=by omega
   obtain⟨bb,bo,rfl,hB,hCc⟩:=RT.cell (HR.out.below hb) (by omega)
   obtain⟨d0,d1⟩:=hCc j hltL
   obtain⟨x,hx⟩:∃ x,L[j]=x:=⟨_,rfl⟩
   rw [hx] at d0 d1
   have hxm:x∈L:=by rw [←hx];exact List.getElem_mem hltL
   obtain⟨q1,q2,q3,q4⟩:=Hok.out x hxm
   have hmx:=(HM.out x.pt (List.mem_map_of_mem hxm)).1
   have hsx:=sumS_may hmx
   have hcx:cntS x.s=sumS x.s:=if_pos hmx
   have Ht:=hide (show sumT ((L.take (j+1)).map TmL.pt)=sumT ((L.take j).map TmL.pt)+sumS x.s by rw [List.take_succ_eq_append_getElem hltL,hx,List.map_append];exact sumT_snoc _ _)
   have htl:=sumT_le ((L.take j).map TmL.pt) (fun y hy=>by
    obtain⟨z,hz,rfl⟩:=List.mem_map.1 hy
    exact (HM.out z.pt (List.mem_map_of_mem (List.mem_of_mem_take hz))).1)
   rw [List.length_map,List.length_take] at htl
   obtain⟨wx,hwx,FX,hsxx,hbx⟩:=two_pb wr (.int .u8 x.R) (.slice x.A x.s.length x.c) 123
   obtain⟨y0,y1⟩:=FX.cells
   have hbxx:=fresh hb hbx
   have hP:=hide (spcount_any x.A x.s.length x.c x.s wx (RD.more (RD.below (((HR.out.below hb).more hb.size).2 x hxm) hbx) hbx.size) rfl q3)
   rw [hcx] at hP
   obtain⟨TT,hTT⟩:∃ t,t=sumT ((L.take j).map TmL.pt):=⟨_,rfl⟩
   rw [←hTT] at htl Ht ⊢
   have hsx':0≤sumS x.s∧sumS x.s≤1073741825:=hsx
   obtain⟨SS,hSS⟩:∃ s,s=sumS x.s:=⟨_,rfl⟩
   rw [←hSS] at hP Ht hsx'
   have zw:IntKind.i64.wrap (TT+SS)=TT+SS:=IntWalk.i64_in _ (by omega)
   clear hCc hx FX hxm q3 hmx hsx hcx hTT hSS
   go_wp2_with fail
   refine hP.out.mono ?_
   rintro e w3 ⟨rfl,hb3⟩
   clear y0 y1 d0 d1
   go_wp2_with fail
   go_roundw
   case rel=>exact⟨j+1,by omega,by go_num,by rw [Ht.out],fresh hbxx hb3⟩
   case measure=>simp [intOf];omega
  ·have z0:¬ (j:Int) < n:=by omega
   rw [List.take_of_length_le (by rw [Hn.out];omega)]
   go_wp2_with fail
   go_ret
   exact⟨by rw [HE.out];rfl,hb⟩
theorem tmsame1 (x y:TmL) (n m:Nat) (w:World) (hr:RS w w.heap.size x.A x.s) (hs:RS w w.heap.size y.A y.s) (hn:x.s.length=n) (hm:y.s.length=m) (hl:n < 1073741824):
 Calls Tryz.prog 115 #[tmv x.R x.A n x.c,tmv y.R y.A m y.c] w fun e w'=>e= .returned (.bool (decide (x.pt=y.pt)))∧Below w.heap.size w w':=by
 obtain⟨w1,hw1,F1,hs1,hb1⟩:=two_pb w (.int .u8 x.R) (.slice x.A n x.c) 123
 obtain⟨w2,hw2,F2,hs2,hb2⟩:=two_pb w1 (.int .u8 y.R) (.slice y.A m y.c) 123
 have hb02:=fresh hb1 hb2
 obtain⟨c0,c1⟩:=(F1.below hb2).cells
 obtain⟨d0,d1⟩:=F2.cells
 have P:=hide (spsame_any x.A y.A x.c y.c n m x.s y.s w2 (RD.more (RD.below hr hb02) hb02.size) (RD.more (RD.below hs hb02) hb02.size) hn hm hl)
 have hpt:∀ (b:Bool),decide (x.s=y.s)=b→x.R=y.R→decide (x.pt=y.pt)=b:=fun b h1 h2=>by
  rw [←h1]
  simp [TmL.pt,h2]
 by_cases hR:x.R=y.R
 ·have hbe:(x.R == y.R)=true:=by simpa using hR
  obtain⟨bv,hbv⟩:∃ b,decide (x.s=y.s)=b:=⟨_,rfl⟩
  rw [hbv] at P
  have HE:=hide (hpt bv hbv hR)
  rw [HE.out]
  clear hr hs hn hm hpt hbv hR F1 F2
  go_enter Tryz.func115,Tryz.ntmps115
  go_wp2_with fail
  refine P.out.mono ?_
  rintro e w3 ⟨rfl,hb3⟩
  go_wp2_with fail
  go_ret
  exact⟨rfl,fresh hb02 hb3⟩
 ·have hbe:(x.R == y.R)=false:=by simpa using hR
  have HE:=hide (show decide (x.pt=y.pt)=false from decide_eq_false fun h=>hR (by have:=congrArg Prod.fst h;exact this))
  rw [HE.out]
  clear hr hs hn hm hpt hR F1 F2 P
  go_enter Tryz.func115,Tryz.ntmps115
  go_wp2_with fail
  go_ret
  exact⟨rfl,hb02⟩
/-- The eye's box. -/
def EYE (w:World) (g:Nat) (A:Option Addr) (n c:Nat) (bad:Bool):Prop:=w.heap[g]?=some (.cells #[.slice A n c,.bool bad] 94 (0,0))
theorem EYE.lt {w:World} {g n c:Nat} {A:Option Addr} {bad:Bool} (h:EYE w g A n c bad):g < w.heap.size:=(Array.getElem?_eq_some_iff.1 h).1
theorem EYE.cells {w:World} {g n c:Nat} {A:Option Addr} {bad:Bool} (h:EYE w g A n c bad):w.cell? ⟨g,0,none⟩=some (.slice A n c)∧w.cell? ⟨g,1,none⟩=some (.bool bad):=by
 refine⟨?_,?_⟩ <;> (rw [cell_of_row _ _ _ _ _ _ h];rfl)
theorem EYE.below {w w':World} {g n c:Nat} {A:Option Addr} {bad:Bool} (h:EYE w g A n c bad) (hb:Below w.heap.size w w'):EYE w' g A n c bad:=(hb.block g h.lt).trans h
theorem EYE.set0 {w:World} {g n c n' c':Nat} {A A':Option Addr} {bad:Bool} (h:EYE w g A n c bad):EYE (w.setCell ⟨g,0,none⟩ (.slice A' n' c')) g A' n' c' bad:=heap_setCell_same _ _ _ _ _ _ h
theorem EYE.set1 {w:World} {g n c:Nat} {A:Option Addr} {bad:Bool} (h:EYE w g A n c bad) (b2:Bool):EYE (w.setCell ⟨g,1,none⟩ (.bool b2)) g A n c b2:=heap_setCell_same _ _ _ _ _ _ h
/-- What is left to be read, and whether something was wrong. -/
abbrev ES:=List UInt8×Bool
/-- The next number, at most so much. -/
def eyeN (most:Int) (st:ES):Int×ES:=
 if st.2=true then (0,st) else match gget st.1 with
  | some (m,s)=>if most < (m:Int) then (0,(st.1,true)) else ((m:Int),(st.1.drop s,false))
  | none=>(0,(st.1,true))
/-- Bytes that are read, in a block of bytes ahead of a box. -/
def RBT (w:World) (g:Nat) (A:Option Addr) (l:List UInt8):Prop:=RB w g A l∧∀ q,A=some q→q.block < g∧∃ cs,w.heap[q.block]?=some (.cells cs 5 (0,0))
theorem RBT.below {w w':World} {g:Nat} {A:Option Addr} {l:List UInt8} (h:RBT w g A l) (hb:Below g w w'):RBT w' g A l:=
 ⟨RD.below h.1 hb,fun q hq=>⟨(h.2 q hq).1,by obtain⟨h1,cs,h2⟩:=h.2 q hq;exact⟨cs,(hb.block _ h1).trans h2⟩⟩⟩
theorem RBT.setO {w:World} {g gx:Nat} {A:Option Addr} {l:List UInt8} {T:TypeId} {cs:Array Value} (h:RBT w g A l) (hF:w.heap[gx]?=some (.cells cs T (0,0))) (hT:5≠T) (off:Nat) (u:Value):RBT (w.setCell ⟨gx,off,none⟩ u) g A l:=by
 have hne:∀ q,A=some q→q.block≠gx:=by
  intro q hq e
  obtain⟨-,c2,h2⟩:=h.2 q hq
  rw [e,hF] at h2
  simp only [Option.some.injEq,Obj.cells.injEq] at h2
  exact hT h2.2.1.symm
 refine⟨⟨h.1.1,fun hl=>?_⟩,fun q hq=>⟨(h.2 q hq).1,by obtain⟨-,c2,h2⟩:=h.2 q hq;exact⟨c2,(heap_setCell_other _ _ _ _ (hne q hq)).trans h2⟩⟩⟩
 obtain⟨b,o,e,hb,hc⟩:=h.1.2 hl
 refine⟨b,o,e,hb,fun j x hx=>?_⟩
 have:=hc j x hx
 unfold World.cell? at this ⊢
 rw [heap_setCell_other _ _ _ _ (by simpa using hne _ e)]
 exact this
theorem RBT.of_own {w:World} {base g c:Nat} {A:Option Addr} {l:List UInt8} (h:w.ownsRow base 5 1 (.slice A l.length c) l.length (u8s l)) (hg:w.heap.size≤g):RBT w g A l:=by
 refine⟨(RD.of_own h).more hg,fun q hq=>?_⟩
 subst hq
 rcases h.2 with⟨h1,-⟩ | ⟨k,cap,cur,h1,h2,h3,h4⟩
 ·cases h1
 ·simp only [Value.slice.injEq,Option.some.injEq] at h1
  obtain⟨rfl,-⟩:=h1
  exact⟨Nat.lt_of_lt_of_le (Array.getElem?_eq_some_iff.1 h3).1 hg,cur,h3⟩
/-- The eye, as it lies, its bytes being ahead of its box. -/
def EY (w:World) (g:Nat) (st:ES):Prop:=∃ A c,EYE w g A st.1.length c st.2∧RBT w g A st.1∧st.1.length≤c∧st.1.length < 1073741824∧(A=none→c=0)
theorem EY.below {w w':World} {g:Nat} {st:ES} (h:EY w g st) (hb:Below w.heap.size w w'):EY w' g st:=by
 obtain⟨A,c,h1,h2,h3⟩:=h
 exact⟨A,c,h1.below hb,RBT.below h2 (hb.mono (Nat.le_of_lt h1.lt)),h3⟩
theorem EY.other {w:World} {g:Nat} {st:ES} (h:EY w g st) {g':Nat} (hg:g < g') (off:Nat) (v:Value):EY (w.setCell ⟨g',off,none⟩ v) g st:=by
 obtain⟨A,c,h1,h2,h3⟩:=h
 refine⟨A,c,(heap_setCell_other _ _ _ _ (by simp only;omega)).trans h1,RBT.below h2 ((Below.refl g w).setCell (by simp only;omega) _),h3⟩
theorem EY.setO {w:World} {g gx:Nat} {st:ES} {T:TypeId} {cs:Array Value} (h:EY w g st) (hF:w.heap[gx]?=some (.cells cs T (0,0))) (hT:5≠T) (hne:g≠gx) (off:Nat) (u:Value):EY (w.setCell ⟨gx,off,none⟩ u) g st:=by
 obtain⟨A,c,h1,h2,h3⟩:=h
 exact⟨A,c,(heap_setCell_other _ _ _ _ hne).trans h1,h2.setO hF hT off u,h3⟩
theorem EY.lt {w:World} {g:Nat} {st:ES} (h:EY w g st):g < w.heap.size:=by
 obtain⟨A,c,h1,-⟩:=h
 exact h1.lt
theorem eyeN_max (most:Int) (st:ES) (h:0≤most):0≤(eyeN most st).1∧(eyeN most st).1≤most:=by
 unfold eyeN
 split
 ·simp only;omega
 ·split
  ·split
   ·simp only;omega
   ·simp only;omega
  ·simp only;omega
theorem eyenext (g:Nat) (most:Int) (st:ES) (w:World) (h:EY w g st):
 Calls Tryz.prog 57 #[.pointer (some ⟨g,0,none⟩),.int .i64 most] w fun e w'=>e= .returned (.int .i64 (eyeN most st).1)∧EY w' g (eyeN most st).2∧OnlyAt g w w':=by
 obtain⟨A,c,hE,hr,hc,hl,hA⟩:=h
 obtain⟨l,bad⟩:=st
 simp only at hE hr hc hl
 have hlt:=hE.lt
 obtain⟨c0,c1⟩:=hE.cells
 have f1:=frozen_of_row w g 1 _ _ hE
 have G:=hide (fun W (hW:W=w)=>by
  have:=get_any A c l W (by rw [hW];exact RD.more hr.1 (Nat.le_of_lt hlt)) hl
  exact this)
 have E1:=fun b2=>hE.set1 b2
 have e1:=fun b2=>(hE.set1 b2).cells
 cases hg:gget l with
 | none=>
   rw [hg] at G
   have HV:=hide (show eyeN most (l,bad)=(0,(l,true)) by
    unfold eyeN
    cases bad with
    | true=>rfl
    | false=>simp [hg])
   obtain⟨k0,k1⟩:=e1 true
   have HF:=hide (show EY (w.setCell ⟨g,1,none⟩ (.bool true)) g (l,true) from⟨A,c,E1 true,RBT.below hr ((Below.refl g w).setCell (Nat.le_refl _) _),hc,hl,hA⟩)
   have HO:=hide (OnlyAt.set g 1 w (.bool true))
   unfold gval at G
   clear hg hE hr hA e1 E1
   go_enter Tryz.func57,Tryz.ntmps57
   go_wp2_with fail
   refine (unhide G w rfl).mono ?_
   rintro e w2 ⟨rfl,rfl⟩
   cases bad
   all_goals
    go_wp2_with fail
    go_ret
    exact⟨by rw [HV.out];rfl,by rw [HV.out];exact HF.out,HO.out⟩
 | some q=>
   obtain⟨m,s⟩:=q
   obtain⟨-,v2,-,-⟩:=gget_inv hg
   have hs1:1≤s:=by
    obtain⟨-,-,v3,v4⟩:=gget_inv hg
    have:=nb_pos m
    omega
   rw [hg] at G
   unfold gval at G
   cases bad with
   | true=>
     have HV:=hide (show eyeN most (l,true)=(0,(l,true)) from rfl)
     obtain⟨k0,k1⟩:=e1 true
     have HF:=hide (show EY (w.setCell ⟨g,1,none⟩ (.bool true)) g (l,true) from⟨A,c,E1 true,RBT.below hr ((Below.refl g w).setCell (Nat.le_refl _) _),hc,hl,hA⟩)
     have HO:=hide (OnlyAt.set g 1 w (.bool true))
     clear hg hE hr hA e1 E1
     go_enter Tryz.func57,Tryz.ntmps57
     go_wp2_with fail
     refine (unhide G w rfl).mono ?_
     rintro e w2 ⟨rfl,rfl⟩
     go_wp2_with fail
     go_ret
     exact⟨by rw [HV.out];rfl,by rw [HV.out];exact HF.out,HO.out⟩
   | false=>
     by_cases hm:most < (m:Int)
     ·have HV:=hide (show eyeN most (l,false)=(0,(l,true)) by unfold eyeN;simp [hg,hm])
      obtain⟨k0,k1⟩:=e1 true
      have HF:=hide (show EY (w.setCell ⟨g,1,none⟩ (.bool true)) g (l,true) from⟨A,c,E1 true,RBT.below hr ((Below.refl g w).setCell (Nat.le_refl _) _),hc,hl,hA⟩)
      have HO:=hide (OnlyAt.set g 1 w (.bool true))
      clear hg hE hr hA e1 E1
      go_enter Tryz.func57,Tryz.ntmps57
      go_wp2_with fail
      refine (unhide G w rfl).mono ?_
      rintro e w2 ⟨rfl,rfl⟩
      go_wp2_with fail
      go_ret
      exact⟨by rw [HV.out];rfl,by rw [HV.out];exact HF.out,HO.out⟩
     ·have HV:=hide (show eyeN most (l,false)=((m:Int),(l.drop s,false)) by unfold eyeN;simp [hg,hm])
      obtain⟨k0,k1⟩:=e1 false
      obtain⟨b0,o0,rfl,hB0,-⟩:=RB.cell hr.1 (by omega)
      obtain⟨SA,SC,hSA⟩:∃ (SA:Option Addr) (SC:Nat),(c=s∧SA=some ⟨b0,o0,none⟩∧SC=0∨¬ c=s∧SA=some ⟨b0,o0+s,none⟩∧SC=c - s):=by
       by_cases h:c=s
       ·exact⟨_,_,.inl ⟨h,rfl,rfl⟩⟩
       ·exact⟨_,_,.inr ⟨h,rfl,rfl⟩⟩
      have hrs0:RB w g SA (l.drop s):=by
       rcases hSA with⟨h1,-,-⟩ | ⟨-,rfl,-⟩
       ·rw [List.drop_eq_nil_of_le (by omega)]
        exact RD.nil_
       ·have:=hr.1.sub s l.length (Nat.le_refl _)
        rwa [List.take_length] at this
      have hrs:RBT w g SA (l.drop s):=⟨hrs0,fun q hq=>by rcases hSA with⟨-,h2,-⟩ | ⟨-,h2,-⟩ <;> (rw [h2] at hq;cases hq;have h9:=hr.2 _ rfl;exact h9)⟩
      have E2:EYE ((w.setCell ⟨g,1,none⟩ (.bool false)).setCell ⟨g,0,none⟩ (.slice SA (l.length - s) SC)) g SA (l.length - s) SC false:=(E1 false).set0
      have f2:=frozen_of_row _ g 0 _ _ (E1 false)
      have HF:=hide (show EY ((w.setCell ⟨g,1,none⟩ (.bool false)).setCell ⟨g,0,none⟩ (.slice SA (l.length - s) SC)) g (l.drop s,false) from⟨SA,SC,by rw [List.length_drop];exact E2,RBT.below hrs (((Below.refl g w).setCell (Nat.le_refl _) _).setCell (Nat.le_refl _) _),by
       rw [List.length_drop]
       rcases hSA with⟨h1,-,h2⟩ | ⟨h1,-,h2⟩ <;> omega,by rw [List.length_drop];omega,fun h=>by rcases hSA with⟨-,h2,-⟩ | ⟨-,h2,-⟩ <;> (rw [h2] at h;cases h)⟩)
      have HO:=hide ((OnlyAt.set g 1 w (.bool false)).trans (OnlyAt.set g 0 _ (.slice SA (l.length - s) SC)))
      have zs0:(0:Int)≤s:=by omega
      have zs1:(s:Int)≤l.length:=by omega
      have zs2:(s:Int)≤c:=by omega
      have zs3:(l.length:Int)≤c:=by omega
      have Hll:=hide hl
      have hmd:decide (most < (m:Int))=false:=decide_eq_false hm
      clear hg hE hr hA e1 E1 E2 hrs hrs0
      go_enter Tryz.func57,Tryz.ntmps57
      go_wp2_with fail
      refine (unhide G w rfl).mono ?_
      rintro e w2 ⟨rfl,rfl⟩
      rcases hSA with⟨hca,rfl,rfl⟩ | ⟨hca,rfl,rfl⟩
      all_goals
       go_wp2_with fail
       go_ret
       exact⟨by rw [HV.out];rfl,by rw [HV.out];exact HF.out,HO.out⟩
theorem EY.cell1 {w:World} {g:Nat} {st:ES} (h:EY w g st):w.cell? ⟨g,1,none⟩=some (.bool st.2):=by
 obtain⟨A,c,h1,-⟩:=h
 exact h1.cells.2
theorem EY.fr1 {w:World} {g:Nat} {st:ES} (h:EY w g st):w.frozen? ⟨g,1,none⟩=false:=by
 obtain⟨A,c,h1,-⟩:=h
 exact frozen_of_row w g 1 _ _ h1
theorem EY.setBad {w:World} {g:Nat} {st:ES} (h:EY w g st) (b:Bool):EY (w.setCell ⟨g,1,none⟩ (.bool b)) g (st.1,b):=by
 obtain⟨A,c,h1,h2,h3⟩:=h
 exact⟨A,c,h1.set1 b,RBT.below h2 ((Below.refl g w).setCell (Nat.le_refl _) _),h3⟩
theorem OnlyAt.more {g:Nat} {a b c:World} (h:OnlyAt g a b) (hb:Below a.heap.size b c) (hg:g≤a.heap.size):OnlyAt g a c:=
 ⟨h.1.trans (hb.mono hg),fun x hx hl=>(hb.block x hl).trans (h.2 x hx hl)⟩
theorem OnlyAt.setNew {g:Nat} {a b:World} (h:OnlyAt g a b) {k:Nat} (hk:a.heap.size≤k) (hg:g≤a.heap.size) (off:Nat) (v:Value):OnlyAt g a (b.setCell ⟨k,off,none⟩ v):=
 h.more ((Below.refl _ _).setCell hk _) hg
theorem own_at {w w':World} {base g size n:Nat} {e:TypeId} {v:Value} {L:List Value} (h:w.ownsRow base e size v n L) (hg:g < base) (ho:OnlyAt g w w'):w'.ownsRow base e size v n L:=by
 refine⟨h.1,?_⟩
 rcases h.2 with h0 | ⟨q,cap,cur,h1,h2,h3,h4⟩
 ·exact .inl h0
 ·exact .inr ⟨q,cap,cur,h1,h2,(ho.2 q (by omega) (Array.getElem?_eq_some_iff.1 h3).1).trans h3,h4⟩
theorem PB.only {w w':World} {g g':Nat} {a b:Value} {T:TypeId} (h:PB w g a b T) (ho:OnlyAt g' w w') (hne:g≠g'):PB w' g a b T:=(ho.2 g hne (Array.getElem?_eq_some_iff.1 h).1).trans h
theorem PB.fr {w:World} {g:Nat} {a b:Value} {T:TypeId} (h:PB w g a b T) (off:Nat):w.frozen? ⟨g,off,none⟩=false:=frozen_of_row w g off _ _ h
theorem PB.set1 {w:World} {g:Nat} {a b:Value} {T:TypeId} (h:PB w g a b T) (v:Value):PB (w.setCell ⟨g,1,none⟩ v) g a v T:=heap_setCell_same _ _ _ _ _ _ h
theorem PB.set0 {w:World} {g:Nat} {a b:Value} {T:TypeId} (h:PB w g a b T) (v:Value):PB (w.setCell ⟨g,0,none⟩ v) g v b T:=heap_setCell_same _ _ _ _ _ _ h
/-- next, its answer being named. -/
theorem eye_at (g:Nat) (most:Int) (st:ES) (w:World) (h:EY w g st) (x:Int) (s2:ES) (hx:eyeN most st=(x,s2)) (h0:0≤most):
 Calls Tryz.prog 57 #[.pointer (some ⟨g,0,none⟩),.int .i64 most] w fun e w'=>e= .returned (.int .i64 x)∧EY w' g s2∧OnlyAt g w w'∧0≤x∧x≤most:=by
 have h1:=eyeN_max most st h0
 rw [hx] at h1
 refine (eyenext g most st w h).mono ?_
 rintro e w' ⟨he,h2,h3⟩
 rw [hx] at he h2
 exact⟨he,h2,h3,h1⟩
/-- The next stamp. -/
def eyeS (st:ES):(Int×Int)×ES:=(((eyeN 1073741824 st).1,(eyeN 7 (eyeN 1073741824 st).2).1),(eyeN 7 (eyeN 1073741824 st).2).2)
theorem eyestamp (g:Nat) (st:ES) (w:World) (h:EY w g st) (t r:Int) (s2:ES) (hx:eyeS st=((t,r),s2)):
 Calls Tryz.prog 61 #[.pointer (some ⟨g,0,none⟩)] w fun e w'=>e= .returned (.agg #[.int .u32 t,.int .u8 r])∧EY w' g s2∧OnlyAt g w w'∧0≤t∧t≤1073741824∧0≤r∧r≤7:=by
 unfold eyeS at hx
 obtain⟨x,s1,h1⟩:∃ x s,eyeN 1073741824 st=(x,s):=⟨_,_,rfl⟩
 rw [h1] at hx
 simp only at hx
 obtain⟨y,s3,h2⟩:∃ x s,eyeN 7 s1=(x,s):=⟨_,_,rfl⟩
 rw [h2] at hx
 simp only [Prod.mk.injEq] at hx
 obtain⟨⟨rfl,rfl⟩,rfl⟩:=hx
 obtain⟨w1,hw1,F1,hs1,hb1⟩:=two_pb w (.int .u32 0) (.int .u8 0) 46
 have hlt:=h.lt
 have H1:=hide h1
 have H2:=hide h2
 have HE1:=hide (h.below hb1)
 have HO1:=hide (OnlyAt.below hb1 (Nat.le_of_lt hlt))
 have HF1:=hide F1
 have Hne:=hide (show w.heap.size≠g by omega)
 obtain⟨gx,hgx⟩:∃ q,q=w.heap.size:=⟨_,rfl⟩
 have Hgx:=hide hgx
 have Hg:=hide (show g < gx by omega)
 have Hlt:=hide (Nat.le_of_lt hlt)
 rw [←hgx] at HF1 Hne
 clear h1 h2 F1 hb1 hs1 h hlt
 go_enter Tryz.func61,Tryz.ntmps61
 go_wp2_with fail
 rw [←hgx]
 clear hgx hw1
 refine (eye_at g 1073741824 st w1 HE1.out x s1 H1.out (by decide)).mono ?_
 rintro e w2 ⟨rfl,hE2,ho2,x0,x1⟩
 have HE2:=hide hE2
 have HO2:=hide (HO1.out.trans ho2)
 have HF2:=hide (HF1.out.only ho2 Hne.out)
 have hxu:IntKind.u32.wrap x=x:=IntWalk.u32_in _ (by omega)
 clear hE2 ho2
 go_wp2_with fail
 refine (eye_at g 7 s1 w2 HE2.out y s3 H2.out (by decide)).mono ?_
 rintro e w3 ⟨rfl,hE3,ho3,y0,y1⟩
 have hyu:IntKind.u8.wrap y=y:=by simp [IntKind.wrap,IntKind.bits,IntKind.signed];omega
 have HF3:=hide (HF2.out.only ho3 Hne.out)
 have HO3:=hide (HO2.out.trans ho3)
 have HE3:=hide hE3
 obtain⟨c0,c1⟩:=HF3.out.cells
 have f0:=HF3.out.fr 0
 have f1:=HF3.out.fr 1
 clear hE3 ho3
 go_wp2_with fail
 have F5:PB ((w3.setCell ⟨gx,0,none⟩ (.int .u32 x)).setCell ⟨gx,1,none⟩ (.int .u8 y)) gx (.int .u32 x) (.int .u8 y) 46:=(HF3.out.set0 _).set1 _
 have E5:EY ((w3.setCell ⟨gx,0,none⟩ (.int .u32 x)).setCell ⟨gx,1,none⟩ (.int .u8 y)) g s3:=(HE3.out.other Hg.out 0 _).other Hg.out 1 _
 have O5:OnlyAt g w ((w3.setCell ⟨gx,0,none⟩ (.int .u32 x)).setCell ⟨gx,1,none⟩ (.int .u8 y)):=(HO3.out.setNew (Nat.le_of_eq Hgx.out.symm) Hlt.out 0 _).setNew (Nat.le_of_eq Hgx.out.symm) Hlt.out 1 _
 generalize (w3.setCell ⟨gx,0,none⟩ (.int .u32 x)).setCell ⟨gx,1,none⟩ (.int .u8 y)=WW at F5 E5 O5 ⊢
 obtain⟨v0,v1⟩:=F5.cells
 exact bodyPost_ret (v:= .agg #[.int .u32 x,.int .u8 y]) (by simp [results,Tryz.results61,go_sem,v0,v1]) rfl ⟨rfl,E5,O5,x0,x1,y0,y1⟩
end Go.Proofs.YtmkpfdcnikgokaaGreat
