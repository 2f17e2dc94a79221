/-
  Texts of this claim, put together: SpanRef, ClockRef. What each theorem asks stands in its statement.
-/
import Derived.Test.YtmkpfdcnikgokaaGreatLt1
import Derived.Test.YtmkpfdcnikgokaaGreatLt5
import Derived.Test.YtmkpfdcnikgokaaGreatLt9
import Derived.Test.YtmkpfdcnikgokaaGreatLt10
import Derived.Test.YtmkpfdcnikgokaaGreatLt15
set_option linter.unusedVariables false
set_option linter.unusedSimpArgs false
set_option maxRecDepth 100000
set_option maxHeartbeats 25600000
namespace Go.Proofs.YtmkpfdcnikgokaaGreat
open Go.RowKit
theorem rspmay_any (A:Option Addr) (n c:Nat) (l:List Sp) (w:World) (hr:RS w w.heap.size A l) (hn:l.length=n) (hok:∀ x∈l,okS x) (hn9:n < 1073741824):
 Calls Tryz.prog 162 #[.slice A n c] w fun e w'=>e= .returned (.bool (decide (mayS l)))∧Below w.heap.size w w':=by
 have Hok:=hide hok
 have Hn:=hide hn
 have HR:=hide hr
 clear hok hn hr
 go_enter Tryz.func162,Tryz.ntmps162
 go_wp2_with fail
 go_loopw [3] (fun i wr=>∃ (j:Nat) (v p:Int),j≤n∧i= .int .i64 (j:Int)∧1≤v∧v≤1073741826∧Hid (chainS 1 l↔chainS v (l.drop j))∧Hid (j=0∧v=1∨0 < j∧v=p+2∧∀ h:j - 1 < l.length,l[j - 1].2=p)∧Below w.heap.size w wr) (fun i _=>n - (intOf i).toNat)
 case atStart=>exact⟨0,1,0,by omega,rfl,by omega,by omega,hide Iff.rfl,hide (.inl ⟨rfl,rfl⟩),Below.refl _ _⟩
 case round=>
  obtain⟨j,v,p,hj,rfl,hv1,hv2,HC,HV,hb⟩:=hrel
  by_cases hlt:j < n
  ·have hltL:j < l.length:=by rw [Hn.out];exact hlt
   have z0:(j:Int) < n:=by omega
   have zj:(0:Int)≤j:=by omega
   obtain⟨bb,bo,rfl,hB,hCc⟩:=RS.cell (RD.below HR.out hb) (by omega)
   have hB1:=Nat.lt_of_lt_of_le hB hb.size
   clear hB
   obtain⟨d0,d1⟩:=hCc j hltL
   obtain⟨x,hx⟩:∃ x,l[j]=x:=⟨_,rfl⟩
   rw [hx] at d0 d1
   have hox:=Hok.out x (by rw [←hx];exact List.getElem_mem hltL)
   have hdr:l.drop j=x :: l.drop (j+1):=by rw [←hx];exact List.drop_eq_getElem_cons hltL
   have HC1:=HC
   rw [hdr] at HC1
   obtain⟨q1,q2,q3,q4⟩:=hox
   obtain⟨x1,hx1⟩:∃ a,x.1=a:=⟨_,rfl⟩
   obtain⟨x2,hx2⟩:∃ a,x.2=a:=⟨_,rfl⟩
   have HC2:Hid (chainS 1 l↔v≤x1∧x1≤x2∧x2≤1073741824∧chainS (x2+2) (l.drop (j+1))):=hide (by rw [←hx1,←hx2];exact HC1.out)
   have HN:=hide (show ∀ h:j+1 - 1 < l.length,l[j+1 - 1].2=x2 from fun h=>by simp only [Nat.add_sub_cancel];rw [hx,hx2])
   rw [hx1] at d0 q1 q2
   rw [hx2] at d1 q3 q4
   clear hx hdr HC HC1 hx1 hx2
   by_cases c1:x1 < 1
   ·have HE:=hide (show decide (mayS l)=false from decide_eq_false (fun h=>by have:=(HC2.out.1 h.2).1;omega))
    clear hCc
    go_wp2_with fail
    refine wp_region_wq (by kernel_rfl) (by kernel_rfl) ?_
    repeat (
     refine WQ.step (fun K hK=>?_)
     go_simp
     refine hK _ ?_
     clear hK K)
    refine WQ.nil ?_
    intro u
    have hbu:=fresh hb (below_past _ u)
    go_wp2_with fail
    go_ret
    exact⟨ret_bool HE.out.symm,hbu⟩
   by_cases c2:x2 < x1
   ·have HE:=hide (show decide (mayS l)=false from decide_eq_false (fun h=>by have:=(HC2.out.1 h.2).2.1;omega))
    clear hCc
    go_wp2_with fail
    refine wp_region_wq (by kernel_rfl) (by kernel_rfl) ?_
    repeat (
     refine WQ.step (fun K hK=>?_)
     go_simp
     refine hK _ ?_
     clear hK K)
    refine WQ.nil ?_
    intro u
    have hbu:=fresh hb (below_past _ u)
    go_wp2_with fail
    go_ret
    exact⟨ret_bool HE.out.symm,hbu⟩
   by_cases c3:(1073741824:Int) < x2
   ·have HE:=hide (show decide (mayS l)=false from decide_eq_false (fun h=>by have:=(HC2.out.1 h.2).2.2.1;omega))
    clear hCc
    go_wp2_with fail
    refine wp_region_wq (by kernel_rfl) (by kernel_rfl) ?_
    repeat (
     refine WQ.step (fun K hK=>?_)
     go_simp
     refine hK _ ?_
     clear hK K)
    refine WQ.nil ?_
    intro u
    have hbu:=fresh hb (below_past _ u)
    go_wp2_with fail
    go_ret
    exact⟨ret_bool HE.out.symm,hbu⟩
   by_cases hj0:j=0
   ·subst hj0
    have HC3:=hide (show chainS 1 l↔chainS (x2+2) (l.drop (0+1)) from⟨fun h=>(HC2.out.1 h).2.2.2,fun h=>HC2.out.2 ⟨by have:=HV.out;omega,by omega,by omega,h⟩⟩)
    simp only [Nat.zero_mul,Nat.add_zero] at d0 d1
    clear hCc
    go_wp2_with fail
    refine wp_region_wq (by kernel_rfl) (by kernel_rfl) ?_
    repeat (
     refine WQ.step (fun K hK=>?_)
     go_simp
     refine hK _ ?_
     clear hK K)
    refine WQ.nil ?_
    intro u
    have hbu:=fresh hb (below_past _ u)
    go_wp2_with fail
    go_roundw
    case rel=>exact⟨0+1,x2+2,x2,by omega,by go_num,by omega,by omega,HC3,hide (.inr ⟨by omega,rfl,HN.out⟩),hbu⟩
    case measure=>simp [intOf];omega
   ·obtain⟨-,e1⟩:=hCc (j - 1) (by omega)
    have hvp:v=p+2:=by have:=HV.out;omega
    have hp:l[j - 1].2=p:=by
     rcases HV.out with h | h
     ·omega
     ·exact h.2.2 _
    rw [hp] at e1
    clear hCc hp
    have z5:(0:Int) < j:=by omega
    have z9:0 < j:=by omega
    have z6:(0:Int)≤(j:Int) - 1:=by omega
    have z7:(j:Int) - 1 < n:=by omega
    have z8:((j:Int) - 1).toNat=j - 1:=by omega
    have z10:(1:Int)≤j:=by omega
    have zw:IntKind.i64.wrap ((j:Int) - 1)=(j:Int) - 1:=IntWalk.i64_in _ (by omega)
    have zx:IntKind.i64.wrap x1=x1:=IntWalk.i64_in _ (by omega)
    have zp:IntKind.i64.wrap p=p:=IntWalk.i64_in _ (by omega)
    have zq:IntKind.i64.wrap (p+2)=p+2:=IntWalk.i64_in _ (by omega)
    by_cases c4:x1 < p+2
    ·have HE:=hide (show decide (mayS l)=false from decide_eq_false (fun h=>by have:=(HC2.out.1 h.2).1;omega))
     go_wp2_with fail
     refine wp_region_wq (by kernel_rfl) (by kernel_rfl) ?_
     repeat (
      refine WQ.step (fun K hK=>?_)
      go_simp
      refine hK _ ?_
      clear hK K)
     refine WQ.nil ?_
     intro u
     have hbu:=fresh hb (below_past _ u)
     go_wp2_with fail
     go_ret
     exact⟨ret_bool HE.out.symm,hbu⟩
    ·have HC3:=hide (show chainS 1 l↔chainS (x2+2) (l.drop (j+1)) from⟨fun h=>(HC2.out.1 h).2.2.2,fun h=>HC2.out.2 ⟨by omega,by omega,by omega,h⟩⟩)
     clear hvp
     go_wp2_with fail
     refine wp_region_wq (by kernel_rfl) (by kernel_rfl) ?_
     repeat (
      refine WQ.step (fun K hK=>?_)
      go_simp
      refine hK _ ?_
      clear hK K)
     refine WQ.nil ?_
     intro u
     have hbu:=fresh hb (below_past _ u)
     go_wp2_with fail
     go_roundw
     case rel=>exact⟨j+1,x2+2,x2,by omega,by go_num,by omega,by omega,HC3,hide (.inr ⟨by omega,rfl,HN.out⟩),hbu⟩
     case measure=>simp [intOf];omega
  ·have z0:¬ (j:Int) < n:=by omega
   have HE:=hide (show decide ((n:Int)≤1024)=decide (mayS l) from decide_eq_decide.2 ⟨fun h=>⟨by rw [Hn.out];omega,HC.out.2 (by rw [List.drop_eq_nil_of_le (by rw [Hn.out];omega)];trivial)⟩,fun h=>by have:=h.1;rw [Hn.out] at this;omega⟩)
   go_wp2_with fail
   go_ret
   exact⟨ret_bool HE.out,hb⟩
theorem rspmany_any (A:Option Addr) (n c:Nat) (l:List Sp) (w:World) (hr:RS w w.heap.size A l) (hn:l.length=n) (hok:∀ x∈l,okS x) (hm:mayS l):
 Calls Tryz.prog 163 #[.slice A n c] w fun e w'=>e= .returned (.int .i64 (sumS l))∧Below w.heap.size w w':=by
 have HM:=hide hm.2
 have hn9:n≤1024:=by rw [←hn];exact hm.1
 have Hn:=hide hn
 have HR:=hide hr
 have Hok:=hide hok
 clear hm hr hn hok
 go_enter Tryz.func163,Tryz.ntmps163
 go_wp2_with fail
 go_loopw [3,4] (fun s i wr=>∃ j:Nat,j≤n∧i= .int .i64 (j:Int)∧s= .int .i64 (sumS (l.take j))∧Below w.heap.size w wr) (fun _ i _=>n - (intOf i).toNat)
 case atStart=>exact⟨0,by omega,rfl,rfl,Below.refl _ _⟩
 case round=>
  obtain⟨j,hj,rfl,rfl,hb⟩:=hrel
  by_cases hlt:j < n
  ·have hltL:j < l.length:=by rw [Hn.out];exact hlt
   have z0:(j:Int) < n:=by omega
   have zj:(0:Int)≤j:=by omega
   obtain⟨bb,bo,rfl,hB,hCc⟩:=RS.cell (RD.below HR.out hb) (by omega)
   have hB1:=Nat.lt_of_lt_of_le hB hb.size
   clear hB
   obtain⟨d0,d1⟩:=hCc j hltL
   obtain⟨k1,k2,k3⟩:=chainS_at l 1 j hltL HM.out
   obtain⟨x,hx⟩:∃ x,l[j]=x:=⟨_,rfl⟩
   have hox:=Hok.out x (by rw [←hx];exact List.getElem_mem hltL)
   rw [hx] at d0 d1 k1 k2 k3
   have Ht:=hide (show sumS (l.take (j+1))=sumS (l.take j)+(x.2 - x.1+1) by rw [List.take_succ_eq_append_getElem hltL,hx,sumS_snoc])
   have hs:=sumS_le (l.take j) 1 (by omega) (chainS_take l 1 j HM.out)
   have hs2:sumS (l.take j)≤1073741825:=by
    by_cases h:l.take j= []
    ·rw [h];simp [sumS]
    ·have:=hs.2 h;omega
   have hs1:=hs.1
   obtain⟨TT,hTT⟩:∃ t,t=sumS (l.take j):=⟨_,rfl⟩
   rw [←hTT] at hs1 hs2 Ht ⊢
   obtain⟨x1,hx1⟩:∃ a,x.1=a:=⟨_,rfl⟩
   obtain⟨x2,hx2⟩:∃ a,x.2=a:=⟨_,rfl⟩
   obtain⟨q1,q2,q3,q4⟩:=hox
   rw [hx1] at d0 k1 k3 Ht
   rw [hx2] at d1 k1 k2 Ht
   rw [hx1] at q1 q2
   clear hCc hx hx1 hx2 hs hTT q3 q4
   have zs:IntKind.u32.wrap (x2 - x1)=x2 - x1:=IntWalk.u32_in _ (by omega)
   have z1:IntKind.i64.wrap (x2 - x1)=x2 - x1:=IntWalk.i64_in _ (by omega)
   have z2:IntKind.i64.wrap (x2 - x1+1)=x2 - x1+1:=IntWalk.i64_in _ (by omega)
   have z3:IntKind.i64.wrap (TT+(x2 - x1+1))=TT+(x2 - x1+1):=IntWalk.i64_in _ (by omega)
   go_wp2_with fail
   refine wp_region_wq (by kernel_rfl) (by kernel_rfl) ?_
   repeat (
    refine WQ.step (fun K hK=>?_)
    go_simp
    refine hK _ ?_
    clear hK K)
   refine WQ.nil ?_
   intro u
   have hbu:=fresh hb (below_past _ u)
   go_wp2_with fail
   go_roundw
   case rel=>exact⟨j+1,by omega,by go_num,by rw [Ht.out],hbu⟩
   case measure=>simp [intOf];omega
  ·have z0:¬ (j:Int) < n:=by omega
   rw [List.take_of_length_le (by rw [Hn.out];omega)]
   go_wp2_with fail
   go_ret
   exact⟨rfl,hb⟩
theorem rtmmay_any (A:Option Addr) (n c:Nat) (L:List TmL) (w:World) (hr:RT w w.heap.size A L) (hn:L.length=n) (hok:∀ x∈L,okT x) (hn9:n < 1073741824):
 Calls Tryz.prog 127 #[.slice A n c] w fun e w'=>e= .returned (.bool (decide (mayT (L.map TmL.pt))))∧Below w.heap.size w w':=by
 have Hok:=hide hok
 have Hn:=hide hn
 have HR:=hide hr
 clear hok hn hr
 go_enter Tryz.func127,Tryz.ntmps127
 go_wp2_with fail
 go_loopw [3] (fun i wr=>∃ (j:Nat) (v p:Int),j≤n∧i= .int .i64 (j:Int)∧-1≤v∧v < 256∧Hid (chainT (-1) (L.map TmL.pt)↔chainT v ((L.drop j).map TmL.pt))∧Hid (j=0∧v=-1∨0 < j∧v=p∧∀ h:j - 1 < L.length,L[j - 1].R=p)∧Below w.heap.size w wr) (fun i _=>n - (intOf i).toNat)
 case atStart=>exact⟨0,-1,0,by omega,rfl,by omega,by omega,hide Iff.rfl,hide (.inl ⟨rfl,rfl⟩),Below.refl _ _⟩
 case round=>
  obtain⟨j,v,p,hj,rfl,hv1,hv2,HC,HV,hb⟩:=hrel
  by_cases hlt:j < n
  ·have hltL:j < L.length:=by rw [Hn.out];exact hlt
   have z0:(j:Int) < n:=by omega
   have zj:(0:Int)≤j:=by omega
   have HRr:=HR.out.below hb
   obtain⟨bb,bo,rfl,hB,hCc⟩:=RT.cell HRr (by omega)
   have hB1:=Nat.lt_of_lt_of_le hB hb.size
   obtain⟨d0,d1⟩:=hCc j hltL
   obtain⟨x,hx⟩:∃ x,L[j]=x:=⟨_,rfl⟩
   rw [hx] at d0 d1
   have hxm:x∈L:=by rw [←hx];exact List.getElem_mem hltL
   obtain⟨q1,q2,q3,q4⟩:=Hok.out x hxm
   have hdr:L.drop j=x :: L.drop (j+1):=by rw [←hx];exact List.drop_eq_getElem_cons hltL
   have HC1:=HC
   rw [hdr] at HC1
   have HC2:Hid (chainT (-1) (L.map TmL.pt)↔v < x.R∧x.R < 8∧1≤x.s.length∧mayS x.s∧chainT x.R ((L.drop (j+1)).map TmL.pt)):=hide HC1.out
   have HN:=hide (show ∀ h:j+1 - 1 < L.length,L[j+1 - 1].R=x.R from fun h=>by simp only [Nat.add_sub_cancel];rw [hx])
   have E:=hide (fun u=>rspmay_any x.A x.s.length x.c x.s (past wr u) ((RD.below ((HRr.more hb.size).2 x hxm) (below_past wr u)).more (below_past wr u).size) rfl q3 q4)
   clear hdr HC HC1 hB HRr hxm q3
   by_cases c1:(8:Int)≤x.R
   ·have HE:=hide (show decide (mayT (L.map TmL.pt))=false from decide_eq_false (fun h=> by have:=(HC2.out.1 h).2.1;omega))
    clear hCc hx
    go_wp2_with fail
    refine wp_region_wq (by kernel_rfl) (by kernel_rfl) ?_
    repeat (
     refine WQ.step (fun K hK=>?_)
     go_simp
     first
      | (refine hK _ ?_;clear hK K)
      | (apply Exists.intro
         refine⟨fun _=>?_,hK _ ?_⟩
         (go_at_call 162;with_reducible exact past_call (unhide E _))
         clear hK K))
    refine WQ.nil ?_
    intro u
    have hbu:=fresh hb (below_past _ u)
    go_wp2_with fail
    go_ret
    exact⟨ret_bool HE.out.symm,hbu⟩
   by_cases hj0:j=0
   ·subst hj0
    have hvv:v=-1:=by have:=HV.out;omega
    simp only [Nat.zero_mul,Nat.add_zero] at d0 d1
    clear hCc hx
    by_cases c3:(x.s.length:Int) < 1
    ·have HE:=hide (show decide (mayT (L.map TmL.pt))=false from decide_eq_false (fun h=> by have:=(HC2.out.1 h).2.2.1;omega))
     go_wp2_with fail
     refine wp_region_wq (by kernel_rfl) (by kernel_rfl) ?_
     repeat (
      refine WQ.step (fun K hK=>?_)
      go_simp
      first
       | (refine hK _ ?_;clear hK K)
       | (apply Exists.intro
          refine⟨fun _=>?_,hK _ ?_⟩
          (go_at_call 162;with_reducible exact past_call (unhide E _))
          clear hK K))
     refine WQ.nil ?_
     intro u
     have hbu:=fresh hb (below_past _ u)
     go_wp2_with fail
     go_ret
     exact⟨ret_bool HE.out.symm,hbu⟩
    ·by_cases c4:mayS x.s
     ·rw [decide_eq_true c4] at E
      have HC3:=hide (show chainT (-1) (L.map TmL.pt)↔chainT x.R ((L.drop (0+1)).map TmL.pt) from⟨fun h=>(HC2.out.1 h).2.2.2.2,fun h=>HC2.out.2 ⟨by omega,by omega,by omega,c4,h⟩⟩)
      clear c4
      go_wp2_with fail
      refine wp_region_wq (by kernel_rfl) (by kernel_rfl) ?_
      repeat (
       refine WQ.step (fun K hK=>?_)
       go_simp
       first
        | (refine hK _ ?_;clear hK K)
        | (apply Exists.intro
           refine⟨fun _=>?_,hK _ ?_⟩
           (go_at_call 162;with_reducible exact past_call (unhide E _))
           clear hK K))
      refine WQ.nil ?_
      intro u
      have hbu:=fresh hb (below_past _ u)
      go_wp2_with fail
      go_roundw
      case rel=>exact⟨0+1,x.R,x.R,by omega,by go_num,by omega,by omega,HC3,hide (.inr ⟨by omega,rfl,HN.out⟩),hbu⟩
      case measure=>simp [intOf];omega
     ·rw [decide_eq_false c4] at E
      have HE:=hide (show decide (mayT (L.map TmL.pt))=false from decide_eq_false (fun h=> c4 (HC2.out.1 h).2.2.2.1))
      clear c4
      go_wp2_with fail
      refine wp_region_wq (by kernel_rfl) (by kernel_rfl) ?_
      repeat (
       refine WQ.step (fun K hK=>?_)
       go_simp
       first
        | (refine hK _ ?_;clear hK K)
        | (apply Exists.intro
           refine⟨fun _=>?_,hK _ ?_⟩
           (go_at_call 162;with_reducible exact past_call (unhide E _))
           clear hK K))
      refine WQ.nil ?_
      intro u
      have hbu:=fresh hb (below_past _ u)
      go_wp2_with fail
      go_ret
      exact⟨ret_bool HE.out.symm,hbu⟩
   ·obtain⟨e0,-⟩:=hCc (j - 1) (by omega)
    have hvp:v=p:=by have:=HV.out;omega
    have hp:L[j - 1].R=p:=by
     rcases HV.out with h | h
     ·omega
     ·exact h.2.2 _
    rw [hp] at e0
    clear hCc hp hx
    have z5:(0:Int) < j:=by omega
    have z9:0 < j:=by omega
    have z6:(0:Int)≤(j:Int) - 1:=by omega
    have z7:(j:Int) - 1 < n:=by omega
    have z8:((j:Int) - 1).toNat=j - 1:=by omega
    have z10:(1:Int)≤j:=by omega
    have zw:IntKind.i64.wrap ((j:Int) - 1)=(j:Int) - 1:=IntWalk.i64_in _ (by omega)
    subst hvp
    by_cases c2:x.R≤v
    ·have HE:=hide (show decide (mayT (L.map TmL.pt))=false from decide_eq_false (fun h=> by have:=(HC2.out.1 h).1;omega))
     go_wp2_with fail
     refine wp_region_wq (by kernel_rfl) (by kernel_rfl) ?_
     repeat (
      refine WQ.step (fun K hK=>?_)
      go_simp
      first
       | (refine hK _ ?_;clear hK K)
       | (apply Exists.intro
          refine⟨fun _=>?_,hK _ ?_⟩
          (go_at_call 162;with_reducible exact past_call (unhide E _))
          clear hK K))
     refine WQ.nil ?_
     intro u
     have hbu:=fresh hb (below_past _ u)
     go_wp2_with fail
     go_ret
     exact⟨ret_bool HE.out.symm,hbu⟩
    by_cases c3:(x.s.length:Int) < 1
    ·have HE:=hide (show decide (mayT (L.map TmL.pt))=false from decide_eq_false (fun h=> by have:=(HC2.out.1 h).2.2.1;omega))
     go_wp2_with fail
     refine wp_region_wq (by kernel_rfl) (by kernel_rfl) ?_
     repeat (
      refine WQ.step (fun K hK=>?_)
      go_simp
      first
       | (refine hK _ ?_;clear hK K)
       | (apply Exists.intro
          refine⟨fun _=>?_,hK _ ?_⟩
          (go_at_call 162;with_reducible exact past_call (unhide E _))
          clear hK K))
     refine WQ.nil ?_
     intro u
     have hbu:=fresh hb (below_past _ u)
     go_wp2_with fail
     go_ret
     exact⟨ret_bool HE.out.symm,hbu⟩
    ·by_cases c4:mayS x.s
     ·rw [decide_eq_true c4] at E
      have HC3:=hide (show chainT (-1) (L.map TmL.pt)↔chainT x.R ((L.drop (j+1)).map TmL.pt) from⟨fun h=>(HC2.out.1 h).2.2.2.2,fun h=>HC2.out.2 ⟨by omega,by omega,by omega,c4,h⟩⟩)
      clear c4
      go_wp2_with fail
      refine wp_region_wq (by kernel_rfl) (by kernel_rfl) ?_
      repeat (
       refine WQ.step (fun K hK=>?_)
       go_simp
       first
        | (refine hK _ ?_;clear hK K)
        | (apply Exists.intro
           refine⟨fun _=>?_,hK _ ?_⟩
           (go_at_call 162;with_reducible exact past_call (unhide E _))
           clear hK K))
      refine WQ.nil ?_
      intro u
      have hbu:=fresh hb (below_past _ u)
      go_wp2_with fail
      go_roundw
      case rel=>exact⟨j+1,x.R,x.R,by omega,by go_num,by omega,by omega,HC3,hide (.inr ⟨by omega,rfl,HN.out⟩),hbu⟩
      case measure=>simp [intOf];omega
     ·rw [decide_eq_false c4] at E
      have HE:=hide (show decide (mayT (L.map TmL.pt))=false from decide_eq_false (fun h=> c4 (HC2.out.1 h).2.2.2.1))
      clear c4
      go_wp2_with fail
      refine wp_region_wq (by kernel_rfl) (by kernel_rfl) ?_
      repeat (
       refine WQ.step (fun K hK=>?_)
       go_simp
       first
        | (refine hK _ ?_;clear hK K)
        | (apply Exists.intro
           refine⟨fun _=>?_,hK _ ?_⟩
           (go_at_call 162;with_reducible exact past_call (unhide E _))
           clear hK K))
      refine WQ.nil ?_
      intro u
      have hbu:=fresh hb (below_past _ u)
      go_wp2_with fail
      go_ret
      exact⟨ret_bool HE.out.symm,hbu⟩
  ·have z0:¬ (j:Int) < n:=by omega
   have HE:=hide (show decide (mayT (L.map TmL.pt))=true from decide_eq_true (HC.out.2 (by rw [List.drop_eq_nil_of_le (by rw [Hn.out];omega)];trivial)))
   go_wp2_with fail
   go_ret
   exact⟨ret_bool HE.out.symm,hb⟩
theorem rtmmany_any (A:Option Addr) (n c:Nat) (L:List TmL) (w:World) (hr:RT w w.heap.size A L) (hn:L.length=n) (hok:∀ x∈L,okT x) (hm:mayT (L.map TmL.pt)):
 Calls Tryz.prog 128 #[.slice A n c] w fun e w'=>e= .returned (.int .i64 (sumT (L.map TmL.pt)))∧Below w.heap.size w w':=by
 have HM:=hide (chainT_all _ _ hm)
 have hn8:n≤8:=by
  have h1:=chainT_len _ _ (by omega) hm
  rw [List.length_map] at h1
  rcases h1 with h | h
  ·omega
  ·have:=congrArg List.length h;rw [List.length_map] at this;simp only [List.length_nil] at this;omega
 have Hok:=hide hok
 have Hn:=hide hn
 have HR:=hide hr
 clear hm hr hn hok
 go_enter Tryz.func128,Tryz.ntmps128
 go_wp2_with fail
 go_loopw [3,4] (fun s i wr=>∃ j:Nat,j≤n∧i= .int .i64 (j:Int)∧s= .int .i64 (sumT ((L.take j).map TmL.pt))∧Below w.heap.size w wr) (fun _ i _=>n - (intOf i).toNat)
 case atStart=>exact⟨0,by omega,rfl,rfl,Below.refl _ _⟩
 case round=>
  obtain⟨j,hj,rfl,rfl,hb⟩:=hrel
  by_cases hlt:j < n
  ·have hltL:j < L.length:=by rw [Hn.out];exact hlt
   have z0:(j:Int) < n:=by omega
   have zj:(0:Int)≤j:=by omega
   have HRr:=HR.out.below hb
   obtain⟨bb,bo,rfl,hB,hCc⟩:=RT.cell HRr (by omega)
   obtain⟨d0,d1⟩:=hCc j hltL
   obtain⟨x,hx⟩:∃ x,L[j]=x:=⟨_,rfl⟩
   rw [hx] at d0 d1
   have hxm:x∈L:=by rw [←hx];exact List.getElem_mem hltL
   obtain⟨q1,q2,q3,q4⟩:=Hok.out x hxm
   have hmx:mayS x.s:=(HM.out x.pt (List.mem_map_of_mem hxm)).1
   have hsx:=sumS_may hmx
   have Ht:=hide (show sumT ((L.take (j+1)).map TmL.pt)=sumT ((L.take j).map TmL.pt)+sumS x.s by rw [List.take_succ_eq_append_getElem hltL,hx,List.map_append];exact sumT_snoc _ _)
   have htl:=sumT_le ((L.take j).map TmL.pt) (fun y hy=>by
    obtain⟨z,hz,rfl⟩:=List.mem_map.1 hy
    exact (HM.out z.pt (List.mem_map_of_mem (List.mem_of_mem_take hz))).1)
   rw [List.length_map,List.length_take] at htl
   have hP:=hide (rspmany_any x.A x.s.length x.c x.s wr ((HRr.more hb.size).2 x hxm) rfl q3 hmx)
   obtain⟨TT,hTT⟩:∃ t,t=sumT ((L.take j).map TmL.pt):=⟨_,rfl⟩
   rw [←hTT] at htl Ht ⊢
   obtain⟨SS,hSS⟩:∃ t,t=sumS x.s:=⟨_,rfl⟩
   rw [←hSS] at hP Ht hsx
   have zw:IntKind.i64.wrap (TT+SS)=TT+SS:=IntWalk.i64_in _ (by omega)
   clear hCc hx hxm q3 hmx hsx hTT hSS HRr htl
   go_wp2_with fail
   refine hP.out.mono ?_
   rintro e w3 ⟨rfl,hb3⟩
   clear d0 d1
   go_wp2_with fail
   go_roundw
   case rel=>exact⟨j+1,by omega,by go_num,by rw [Ht.out],fresh hb hb3⟩
   case measure=>simp [intOf];omega
  ·have z0:¬ (j:Int) < n:=by omega
   rw [List.take_of_length_le (by rw [Hn.out];omega)]
   go_wp2_with fail
   go_ret
   exact⟨rfl,hb⟩
theorem rids_any (A:Option Addr) (n c:Nat) (L:List TmL) (w:World) (hr:RT w w.heap.size A L) (hn:L.length=n) (hok:∀ x∈L,okT x) (hn9:n < 1073741824):
 Calls Tryz.prog 90 #[.slice A n c] w fun e w'=>e= .returned (.bool (decide (idsP (L.map TmL.pt))))∧Below w.heap.size w w':=by
 have P:=hide (rtmmay_any A n c L w hr hn hok hn9)
 by_cases hm:mayT (L.map TmL.pt)
 ·have Q:=hide (fun W (h:Below w.heap.size w W)=>rtmmany_any A n c L W ((hr.below h).more h.size) hn hok hm)
  rw [decide_eq_true hm] at P
  have hE:=hide (show decide (idsP (L.map TmL.pt))=decide (sumT (L.map TmL.pt)≤1024) by simp only [idsP,cntT,hm,true_and,if_true])
  rw [hE.out]
  obtain⟨k,hk⟩:∃ q,q=sumT (L.map TmL.pt):=⟨_,rfl⟩
  rw [←hk] at Q ⊢
  clear hm hE hk hr hn hok
  go_enter Tryz.func90,Tryz.ntmps90
  go_wp2_with fail
  refine P.out.mono ?_
  rintro e w2 ⟨rfl,hb2⟩
  go_wp2_with fail
  refine (Q.out w2 hb2).mono ?_
  rintro e w3 ⟨rfl,hb3⟩
  go_wp2_with fail
  go_ret
  exact⟨rfl,fresh hb2 hb3⟩
 ·rw [decide_eq_false hm] at P
  have hE:=hide (show decide (idsP (L.map TmL.pt))=false from decide_eq_false fun h=>hm h.1)
  rw [hE.out]
  clear hm hE hr hn hok
  go_enter Tryz.func90,Tryz.ntmps90
  go_wp2_with fail
  refine P.out.mono ?_
  rintro e w2 ⟨rfl,hb2⟩
  go_wp2_with fail
  go_ret
  exact⟨rfl,hb2⟩
theorem rsection_any (t r:Int) (w:World):
 Calls Tryz.prog 92 #[.agg #[.int .u32 t,.int .u8 r]] w fun e w'=>e= .returned (.bool (decide (secI t r)))∧Below w.heap.size w w':=by
 obtain⟨w1,hw1,F1,hs1,hb1⟩:=two_pb w (.int .u32 t) (.int .u8 r) 46
 obtain⟨a0,a1⟩:=F1.cells
 by_cases hz:t=0∧r=0
 ·have hE:=hide (show decide (secI t r)=true from decide_eq_true (.inl hz))
  rw [hE.out]
  obtain⟨rfl,rfl⟩:=hz
  clear hE F1
  go_enter Tryz.func92,Tryz.ntmps92
  go_wp2_with fail
  go_ret
  exact⟨rfl,hb1⟩
 ·have hE:decide (secI t r)=decide (mayI t r):=by
   simp only [secI,hz,false_or]
  rw [hE]
  have P:=hide (refmay_any t r w1)
  have hcs:(¬ t=0)∨(t=0∧¬ r=0):=by
   by_cases h0:t=0
   ·exact .inr ⟨h0,fun h=>hz ⟨h0,h⟩⟩
   ·exact .inl h0
  clear hz hE F1
  by_cases hm:mayI t r
  ·rw [decide_eq_true hm] at P
   rw [show decide (mayI t r)=true from decide_eq_true hm]
   clear hm
   rcases hcs with h | ⟨rfl,h⟩
   all_goals
    go_enter Tryz.func92,Tryz.ntmps92
    go_wp2_with fail
    refine P.out.mono ?_
    rintro e w2 ⟨rfl,hb2⟩
    clear a0 a1
    go_wp2_with fail
    go_ret
    exact⟨rfl,fresh hb1 hb2⟩
  ·rw [decide_eq_false hm] at P
   rw [show decide (mayI t r)=false from decide_eq_false hm]
   clear hm
   rcases hcs with h | ⟨rfl,h⟩
   all_goals
    go_enter Tryz.func92,Tryz.ntmps92
    go_wp2_with fail
    refine P.out.mono ?_
    rintro e w2 ⟨rfl,hb2⟩
    clear a0 a1
    go_wp2_with fail
    go_ret
    exact⟨rfl,fresh hb1 hb2⟩
end Go.Proofs.YtmkpfdcnikgokaaGreat
