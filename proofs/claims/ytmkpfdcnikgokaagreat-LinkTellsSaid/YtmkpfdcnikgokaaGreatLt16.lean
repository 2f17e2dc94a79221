/-
  Texts of this claim, put together: MailShelf, MailSome. What each theorem asks stands in its statement.
-/
import Derived.Test.YtmkpfdcnikgokaaGreatLt15
set_option linter.unusedVariables false
set_option linter.unusedSimpArgs false
set_option maxRecDepth 100000
set_option maxHeartbeats 25600000
namespace Go.Proofs.YtmkpfdcnikgokaaGreat
open Go.RowKit
/-- May entries be, behind one? -/
def chainE:Option (Int×Int)→List EnP→Prop
 | _, []=>True
 | none,x :: l=>oneP x∧chainE (some x.1) l
 | some p,x :: l=>oneP x∧lessB p.1 p.2 x.1.1 x.1.2=true∧chainE (some x.1) l
instance decChainE:∀ (p:Option (Int×Int)) (l:List EnP),Decidable (chainE p l)
 | p, []=>by unfold chainE;infer_instance
 | none,x :: l=>by
   have:=decChainE (some x.1) l
   unfold chainE
   infer_instance
 | some p,x :: l=>by
   have:=decChainE (some x.1) l
   unfold chainE
   infer_instance
def mayE (E:List EnP):Prop:=E.length≤65∧chainE none E
instance (E:List EnP):Decidable (mayE E):=by unfold mayE;infer_instance
def chkE (E:List EnP):Int:=if mayE E then 0 else 8
theorem encheck_any (A:Option Addr) (n c:Nat) (L:List WsL) (w:World) (hr:RE w w.heap.size A L) (hn:L.length=n) (hok:∀ x∈L,okW x):
 Calls Tryz.prog 150 #[.slice A n c] w fun e w'=>e= .returned (.int .i64 (chkE (L.map WsL.en)))∧Below w.heap.size w w':=by
 by_cases hbig:(65:Int) < n
 ·have HC:=hide (show chkE (L.map WsL.en)=8 from if_neg (fun h=>by have:=h.1;rw [List.length_map] at this;omega))
  clear hr hn hok
  go_enter Tryz.func150,Tryz.ntmps150
  go_wp2_with fail
  go_ret
  exact⟨by rw [HC.out];rfl,Below.refl _ _⟩
 have HM:=hide (show mayE (L.map WsL.en)↔chainE none (L.map WsL.en) from⟨fun h=>h.2,fun h=>⟨by rw [List.length_map];omega,h⟩⟩)
 have Hok:=hide hok
 have Hn:=hide hn
 have HR:=hide hr
 clear hr hn hok
 go_enter Tryz.func150,Tryz.ntmps150
 go_wp2_with fail
 go_loopw [10] (fun i wr=>∃ (j:Nat) (p:Option (Int×Int)),j≤n∧i= .int .i64 (j:Int)∧Hid (p=if j=0 then none else (L[j - 1]?).map fun x=>(x.t,x.r))∧Hid (chainE none (L.map WsL.en)↔chainE p ((L.drop j).map WsL.en))∧Below w.heap.size w wr) (fun i _=>n - (intOf i).toNat)
 case atStart=>exact⟨0,none,by omega,rfl,hide rfl,hide Iff.rfl,Below.refl _ _⟩
 case round=>
  obtain⟨j,p,hj,rfl,Hp,HC,hb⟩:=hrel
  by_cases hlt:j < n
  ·have hltL:j < L.length:=by rw [Hn.out];exact hlt
   have z0:(j:Int) < n:=by omega
   have zj:(0:Int)≤j:=by omega
   obtain⟨bb,bo,rfl,hB,hCc⟩:=RE.cell (HR.out.below hb) (by omega)
   obtain⟨d0,d1,d2,d3,d4,d5,d6,d7⟩:=hCc j hltL
   obtain⟨x,hx⟩:∃ x,L[j]=x:=⟨_,rfl⟩
   rw [hx] at d0 d1 d2 d5 d6 d7
   have hxm:x∈L:=by rw [←hx];exact List.getElem_mem hltL
   have hox:=Hok.out x hxm
   have hdr:(L.drop j).map WsL.en=x.en :: (L.drop (j+1)).map WsL.en:=by rw [List.drop_eq_getElem_cons hltL,hx];rfl
   have HC1:=HC
   rw [hdr] at HC1
   obtain⟨w1,hw1,F1,hs1,hb1⟩:=entry_box wr (.int .u32 x.t) (.int .u8 x.r) (.bool x.rd) (.bool false) (.int .i64 0) (.bool x.kn) (.slice x.sA x.s.length x.sc) (.slice x.gA x.g.length x.gc)
   obtain⟨a0,a1,a2,a3,a4,a5,a6,a7⟩:=F1.cells
   have hb01:=fresh hb hb1
   obtain⟨o,ho⟩:∃ q,decide (oneP x.en)=q:=⟨_,rfl⟩
   have P:=hide (fun u=>by
    have h1:=(((HR.out.below hb01).more hb01.size).2 x hxm)
    have h2:=one_any x.t x.r x.rd x.kn x.sA x.gA x.s.length x.sc x.g.length x.gc x.s x.g (past w1 u) ((h1.1.below (below_past w1 u)).more (below_past w1 u).size) hox.2.2.2.2.2.1 hox.2.2.2.2.2.2.2.1 rfl rfl
    rw [show decide (oneP ((x.t,x.r),(x.rd,x.kn),(x.s.map TmL.pt,x.g)))=o from ho] at h2
    exact h2)
   have Hpx:=hide (And.intro hx (And.intro hdr hox))
   cases o with
   | false=>
     have HE:=hide (show chkE (L.map WsL.en)=8 from if_neg (fun h=>by
      have h1:=HC1.out.1 (HM.out.1 h)
      cases p with
      | none=>exact (decide_eq_false_iff_not.1 ho) h1.1
      | some p=>exact (decide_eq_false_iff_not.1 ho) h1.1))
     clear hCc hx hxm hox hdr HC HC1 F1 ho Hpx Hp
     go_wp2_with fail
     refine wp_region_wq (by kernel_rfl) (by kernel_rfl) ?_
     repeat (
      refine WQ.step (fun K hK=>?_)
      go_simp
      first
       | (refine hK _ ?_;clear hK K)
       | (apply Exists.intro
          refine⟨fun _=>?_,hK _ ?_⟩
          (go_at_call 173;with_reducible exact past_call (unhide P _))
          clear hK K))
     refine WQ.nil ?_
     intro u
     go_wp2_with fail
     go_ret
     exact⟨by rw [HE.out];rfl,fresh hb01 (below_past w1 u)⟩
   | true=>
     have hone:oneP x.en:=decide_eq_true_iff.1 ho
     rcases Nat.eq_zero_or_pos j with hj0 | hj0
     ·have zg:decide (0 < j)=false:=decide_eq_false (by omega)
      have Hp0:p=none:=by rw [Hp.out,if_pos hj0]
      subst Hp0
      have Hnext:=hide (show some (x.t,x.r)=if j+1=0 then none else (L[j+1 - 1]?).map fun x=>(x.t,x.r) by rw [if_neg (Nat.succ_ne_zero j),Nat.add_sub_cancel,List.getElem?_eq_getElem hltL,hx];rfl)
      have HCn:=hide (HC1.out.trans (show chainE none (x.en :: (L.drop (j+1)).map WsL.en)↔chainE (some (x.t,x.r)) ((L.drop (j+1)).map WsL.en) from⟨fun h=>h.2,fun h=>⟨hone,h⟩⟩))
      clear hCc hx hxm hox hdr HC HC1 F1 ho Hpx Hp hone hj0
      go_wp2_with fail
      refine wp_region_wq (by kernel_rfl) (by kernel_rfl) ?_
      repeat (
       refine WQ.step (fun K hK=>?_)
       go_simp
       first
        | (refine hK _ ?_;clear hK K)
        | (apply Exists.intro
           refine⟨fun _=>?_,hK _ ?_⟩
           (go_at_call 173;with_reducible exact past_call (unhide P _))
           clear hK K))
      refine WQ.nil ?_
      intro u
      go_wp2_with fail
      go_roundw
      case rel=>exact⟨j+1,some (x.t,x.r),by omega,by go_num,Hnext,HCn,fresh hb01 (below_past w1 u)⟩
      case measure=>simp [intOf];omega
     ·have zg:decide (0 < j)=true:=decide_eq_true (by omega)
      have zs:(j:Int) - 1=((j - 1:Nat):Int):=by omega
      have zk:((j - 1:Nat):Int) < n:=by omega
      have zk0:(0:Int)≤((j - 1:Nat):Int):=by omega
      obtain⟨k,hk⟩:∃ k,j - 1=k:=⟨_,rfl⟩
      rw [hk] at zs zk zk0
      have zw:IntKind.i64.wrap (k:Int)=k:=IntWalk.i64_in _ (by omega)
      have hkL:k < L.length:=by omega
      obtain⟨e0,e1,-,-,-,-,-,-⟩:=hCc k hkL
      obtain⟨y,hy⟩:∃ y,L[k]=y:=⟨_,rfl⟩
      rw [hy] at e0 e1
      have hoy:=Hok.out y (by rw [←hy];exact List.getElem_mem hkL)
      have hbw:bb < wr.heap.size:=Nat.lt_of_lt_of_le hB hb.size
      have f0:=keep_cell hb1 hbw e0
      have f1:=keep_cell hb1 hbw e1
      have hbw1:bb < w1.heap.size:=Nat.lt_of_lt_of_le hbw hb1.size
      have Hp1:p=some (y.t,y.r):=by rw [Hp.out,if_neg (by omega),hk,List.getElem?_eq_getElem hkL,hy];rfl
      subst Hp1
      have Q:=hide (fun u=>less_any y.t y.r x.t x.r (past w1 u) hoy.1 hoy.2.1 hoy.2.2.1 (by have:=hoy.2.2.2.1;omega) hox.1 hox.2.1 hox.2.2.1 (by have:=hox.2.2.2.1;omega))
      cases hle:lessB y.t y.r x.t x.r with
      | false=>
        rw [hle] at Q
        have HE:=hide (show chkE (L.map WsL.en)=8 from if_neg (fun h=>by
         have h1:=HC1.out.1 (HM.out.1 h)
         have h2:lessB y.t y.r x.t x.r=true:=h1.2.1
         rw [hle] at h2
         cases h2))
        clear hCc hx hxm hox hdr HC HC1 ho Hpx Hp hone hj0 hk hy hoy hle e0 e1 F1
        go_wp2_with fail
        refine wp_region_wq (by kernel_rfl) (by kernel_rfl) ?_
        repeat (
         refine WQ.step (fun K hK=>?_)
         go_simp
         first
          | (refine hK _ ?_;clear hK K)
          | (apply Exists.intro
             refine⟨fun _=>?_,hK _ ?_⟩
             (first
               | (go_at_call 173;with_reducible exact past_call (unhide P _))
               | (go_at_call 174;with_reducible exact past_call (unhide Q _)))
             clear hK K))
        refine WQ.nil ?_
        intro u
        go_wp2_with fail
        go_ret
        exact⟨by rw [HE.out];rfl,fresh hb01 (below_past w1 u)⟩
      | true=>
        rw [hle] at Q
        have Hnext:=hide (show some (x.t,x.r)=if j+1=0 then none else (L[j+1 - 1]?).map fun x=>(x.t,x.r) by rw [if_neg (Nat.succ_ne_zero j),Nat.add_sub_cancel,List.getElem?_eq_getElem hltL,hx];rfl)
        have HCn:=hide (HC1.out.trans (show chainE (some (y.t,y.r)) (x.en :: (L.drop (j+1)).map WsL.en)↔chainE (some (x.t,x.r)) ((L.drop (j+1)).map WsL.en) from⟨fun h=>h.2.2,fun h=>⟨hone,hle,h⟩⟩))
        clear hCc hx hxm hox hdr HC HC1 ho Hpx Hp hone hj0 hk hy hoy hle e0 e1 F1
        go_wp2_with fail
        refine wp_region_wq (by kernel_rfl) (by kernel_rfl) ?_
        repeat (
         refine WQ.step (fun K hK=>?_)
         go_simp
         first
          | (refine hK _ ?_;clear hK K)
          | (apply Exists.intro
             refine⟨fun _=>?_,hK _ ?_⟩
             (first
               | (go_at_call 173;with_reducible exact past_call (unhide P _))
               | (go_at_call 174;with_reducible exact past_call (unhide Q _)))
             clear hK K))
        refine WQ.nil ?_
        intro u
        go_wp2_with fail
        go_roundw
        case rel=>exact⟨j+1,some (x.t,x.r),by omega,by go_num,Hnext,HCn,fresh hb01 (below_past w1 u)⟩
        case measure=>simp [intOf];omega
  ·have z0:¬ (j:Int) < n:=by omega
   have HE:=hide (show chkE (L.map WsL.en)=0 from if_pos (HM.out.2 (HC.out.2 (by
    rw [List.drop_eq_nil_of_le (by rw [Hn.out];omega)]
    cases p <;> trivial))))
   go_wp2_with fail
   go_ret
   exact⟨by rw [HE.out];rfl,hb⟩
/-- May operations be mail's? -/
def someP (P:List OpP) (m:Int):Prop:=1≤(P.length:Int)∧(P.length:Int)≤m∧∀ o∈P,mayP o
instance decMayP (o:OpP):Decidable (mayP o):=by unfold mayP;infer_instance
instance decSomeP (P:List OpP) (m:Int):Decidable (someP P m):=by
 have:Decidable (∀ o∈P,mayP o):=List.decidableBAll mayP P
 unfold someP
 infer_instance
theorem some1 (k t r z:Int) (A:Option Addr) (n c:Nat) (p:List Rn) (w:World) (hr:RR w w.heap.size A p) (hn:p.length=n) (hl:n < 1073741824) (hok:∀ x∈p,okR x) (k0:0≤k):
 Calls Tryz.prog 147 #[opv k t r A n c z] w fun e w'=>e= .returned (.bool (decide (¬ mayO k t r p z)))∧Below w.heap.size w w':=by
 obtain⟨w1,hw1,c0,c1,c2,c3,c4,hs1,hb1⟩:=five_box w (.int .u8 k) (.int .u32 t) (.int .u8 r) (.slice A n c) (.int .i64 z) 104
 have P:=hide (opcheck_any k t r z A n c p w1 ((RD.below hr hb1).more hb1.size) hn hl hok k0)
 clear hr hok
 by_cases hm:mayO k t r p z
 ·rw [show chkO k t r p z=0 from if_pos hm] at P
  have hE:=hide (show decide (¬ mayO k t r p z)=false from decide_eq_false fun h=>h hm)
  rw [hE.out]
  clear hm hE
  go_enter Tryz.func147,Tryz.ntmps147
  go_wp2_with fail
  refine P.out.mono ?_
  rintro e w2 ⟨rfl,hb2⟩
  clear c0 c1 c2 c3 c4
  go_wp2_with fail
  go_ret
  exact⟨rfl,fresh hb1 hb2⟩
 ·rw [show chkO k t r p z=8 from if_neg hm] at P
  have hE:=hide (show decide (¬ mayO k t r p z)=true from decide_eq_true hm)
  rw [hE.out]
  clear hm hE
  go_enter Tryz.func147,Tryz.ntmps147
  go_wp2_with fail
  refine P.out.mono ?_
  rintro e w2 ⟨rfl,hb2⟩
  clear c0 c1 c2 c3 c4
  go_wp2_with fail
  go_ret
  exact⟨rfl,fresh hb1 hb2⟩
theorem oindex (A:Option Addr) (n c:Nat) (L:List OpL) (w:World) (hr:RO w w.heap.size A L) (hn:L.length=n) (hl:n < 1073741824) (hok:∀ x∈L,okO x):
 Calls Tryz.prog 170 #[.slice A n c,.func (.func 147) #[] #[]] w fun e w'=>∃ m:Int,e= .returned (.int .i64 m)∧(m=-1∧(∀ x∈L,mayL x)∨0≤m∧¬ ∀ x∈L,mayL x)∧Below w.heap.size w w':=by
 have HR:=hide hr
 have Hn:=hide hn
 have Hok:=hide hok
 clear hr hn hok
 go_enter Tryz.func170,Tryz.ntmps170
 go_wp2_with fail
 go_loopw [8] (fun i wr=>∃ j:Nat,j≤n∧i= .int .i64 (j:Int)∧Hid (∀ x∈L.take j,mayL x)∧Below w.heap.size w wr) (fun i _=>n - (intOf i).toNat)
 case atStart=>exact⟨0,by omega,rfl,hide (fun x hx=>by cases hx),Below.refl _ _⟩
 case round=>
  obtain⟨j,hj,rfl,HM,hb⟩:=hrel
  by_cases hlt:j < n
  ·have hltL:j < L.length:=by rw [Hn.out];exact hlt
   have z0:(j:Int) < n:=by omega
   have zj:(0:Int)≤j:=by omega
   have HRr:=(HR.out.below hb).more hb.size
   obtain⟨bb,bo,rfl,hB,hC⟩:=RO.cell HRr (by omega)
   obtain⟨d0,d1,d2,d3,d4⟩:=hC j hltL
   obtain⟨x,hx⟩:∃ x,L[j]=x:=⟨_,rfl⟩
   rw [hx] at d0 d1 d2 d3 d4
   have hxm:x∈L:=by rw [←hx];exact List.getElem_mem hltL
   have Hx:=hide hxm
   have Htake:=hide (show L.take (j+1)=L.take j++ [x] by rw [List.take_succ_eq_append_getElem hltL,hx])
   have hox:=Hok.out x hxm
   have hP:=hide (some1 x.k x.t x.r x.z x.A x.p.length x.c x.p wr (HRr.2 x hxm) rfl hox.2.2.2 hox.2.2.1 hox.1)
   clear hC hx hxm hox HRr
   by_cases hm:mayO x.k x.t x.r x.p x.z
   rotate_left
   ·rw [decide_eq_true hm] at hP
    have Hm:=hide hm
    clear hm
    go_wp2_with fail
    refine hP.out.mono ?_
    rintro e w2 ⟨rfl,hb2⟩
    go_wp2_with fail
    go_ret
    exact⟨(j:Int),rfl,.inr ⟨by omega,fun h=>Hm.out (h x Hx.out)⟩,fresh hb hb2⟩
   ·rw [decide_eq_false (not_not_intro hm)] at hP
    have Hm:=hide hm
    clear hm
    go_wp2_with fail
    refine hP.out.mono ?_
    rintro e w2 ⟨rfl,hb2⟩
    go_wp2_with fail
    go_roundw
    case rel=>
     refine⟨j+1,by omega,by go_num,hide fun q hq=>?_,fresh hb hb2⟩
     rw [Htake.out] at hq
     rcases List.mem_append.1 hq with h | h
     ·exact HM.out q h
     ·simp only [List.mem_singleton] at h
      subst h
      exact Hm.out
    case measure=>simp [intOf];omega
  ·have z0:¬ (j:Int) < n:=by omega
   have Ha:=hide (show ∀ x∈L,mayL x by have:=HM.out;rwa [List.take_of_length_le (by rw [Hn.out];omega)] at this)
   go_wp2_with fail
   go_ret
   exact⟨-1,rfl,.inl ⟨rfl,Ha.out⟩,hb⟩
theorem ocontains (A:Option Addr) (n c:Nat) (L:List OpL) (w:World) (hr:RO w w.heap.size A L) (hn:L.length=n) (hl:n < 1073741824) (hok:∀ x∈L,okO x):
 Calls Tryz.prog 146 #[.slice A n c,.func (.func 147) #[] #[]] w fun e w'=>e= .returned (.bool (decide (¬ ∀ x∈L,mayL x)))∧Below w.heap.size w w':=by
 have hP:=hide (oindex A n c L w hr hn hl hok)
 clear hr hn hok
 go_enter Tryz.func146,Tryz.ntmps146
 go_wp2_with fail
 refine hP.out.mono ?_
 rintro e w2 ⟨m,rfl,hm,hb⟩
 rcases hm with⟨rfl,hm⟩ | ⟨h0,hm⟩
 ·have Hd:=hide (show decide (¬ ∀ x∈L,mayL x)=false from decide_eq_false (fun h=>h hm))
  clear hm
  go_wp2_with fail
  go_ret
  exact⟨by rw [Hd.out];rfl,hb⟩
 ·have Hd:=hide (show decide (¬ ∀ x∈L,mayL x)=true from decide_eq_true hm)
  clear hm
  go_wp2_with fail
  go_ret
  exact⟨by rw [Hd.out];exact ret_bool (by first | (simp;done) | simpa using h0),hb⟩
theorem some_any (A:Option Addr) (n c:Nat) (L:List OpL) (m:Int) (w:World) (hr:RO w w.heap.size A L) (hn:L.length=n) (hl:n < 1073741824) (hok:∀ x∈L,okO x):
 Calls Tryz.prog 110 #[.slice A n c,.int .i64 m] w fun e w'=>e= .returned (.bool (decide (someP (L.map OpL.op) m)))∧Below w.heap.size w w':=by
 have hP:=hide (ocontains A n c L w hr hn hl hok)
 have hall:(∀ o∈L.map OpL.op,mayP o)↔∀ x∈L,mayL x:=by
  constructor
  ·intro h x hx
   exact h _ (List.mem_map_of_mem hx)
  ·intro h o ho
   obtain⟨x,hx,rfl⟩:=List.mem_map.1 ho
   exact h x hx
 by_cases h1:(1:Int)≤n
 rotate_left
 ·have hE:=hide (show decide (someP (L.map OpL.op) m)=false from decide_eq_false fun h=>h1 (by have:=h.1;rw [List.length_map,hn] at this;exact this))
  rw [hE.out]
  clear hr hn hok hall hP hE
  go_enter Tryz.func110,Tryz.ntmps110
  go_wp2_with fail
  go_ret
  exact⟨rfl,Below.refl _ _⟩
 by_cases h2:(n:Int)≤m
 rotate_left
 ·have hE:=hide (show decide (someP (L.map OpL.op) m)=false from decide_eq_false fun h=>h2 (by have:=h.2.1;rw [List.length_map,hn] at this;exact this))
  rw [hE.out]
  clear hr hn hok hall hP hE
  go_enter Tryz.func110,Tryz.ntmps110
  go_wp2_with fail
  go_ret
  exact⟨rfl,Below.refl _ _⟩
 have hE:=hide (show decide (someP (L.map OpL.op) m)= !(decide (¬ ∀ x∈L,mayL x)) by
  by_cases h:∀ x∈L,mayL x
  ·rw [decide_eq_true (show someP (L.map OpL.op) m from⟨by rw [List.length_map,hn];exact h1,by rw [List.length_map,hn];exact h2,hall.2 h⟩),decide_eq_false (not_not_intro h)];rfl
  ·rw [decide_eq_false (fun h':someP (L.map OpL.op) m=>h (hall.1 h'.2.2)),decide_eq_true h];rfl)
 rw [hE.out]
 obtain⟨q,hq⟩:∃ q,q=decide (¬ ∀ x∈L,mayL x):=⟨_,rfl⟩
 rw [←hq] at hP ⊢
 clear hr hn hok hall hE hq
 go_enter Tryz.func110,Tryz.ntmps110
 go_wp2_with fail
 refine hP.out.mono ?_
 rintro e w2 ⟨rfl,hb⟩
 go_wp2_with fail
 go_ret
 exact⟨rfl,hb⟩
def WP.en (x:WP):EnP:=((x.t,x.r),(x.rd,x.kn),(x.S,x.G))
/-- May wishes be? -/
def wantsP (E:List WP):Prop:=mayE (E.map WP.en)∧∀ x∈E,idsP x.H
instance decWantsP (E:List WP):Decidable (wantsP E):=by
 have:Decidable (∀ x∈E,idsP x.H):=List.decidableBAll (fun x:WP=>idsP x.H) E
 unfold wantsP
 infer_instance
abbrev hpL (x:WsL):Prop:=idsP (x.h.map TmL.pt)
theorem wants1 (t r:Int) (rd kn:Bool) (hA:Option Addr) (hn hc:Nat) (h:List TmL) (sv gv:Value) (w:World) (hr:RT w w.heap.size hA h) (hh:h.length=hn) (hok:∀ x∈h,okT x) (hn9:hn < 1073741824):
 Calls Tryz.prog 152 #[wsv t r rd kn (.slice hA hn hc) sv gv] w fun e w'=>e= .returned (.bool (decide (¬ idsP (h.map TmL.pt))))∧Below w.heap.size w w':=by
 obtain⟨w1,hw1,F1,hs1,hb1⟩:=wish_box w (.int .u32 t) (.int .u8 r) (.bool rd) (.slice hA hn hc) (.bool kn) sv gv
 obtain⟨c0,c1,c2,c3,c4,c5,c6⟩:=F1.cells
 have P:=hide (ids_any hA hn hc h w1 ((hr.below hb1).more hb1.size) hh hok hn9)
 have hE:=hide (show decide (¬ idsP (h.map TmL.pt))= !(decide (idsP (h.map TmL.pt))) by
  by_cases hx:idsP (h.map TmL.pt)
  ·rw [decide_eq_false (not_not_intro hx),decide_eq_true hx];rfl
  ·rw [decide_eq_true hx,decide_eq_false hx];rfl)
 rw [hE.out]
 obtain⟨q,hq⟩:∃ q,q=decide (idsP (h.map TmL.pt)):=⟨_,rfl⟩
 rw [←hq] at P ⊢
 clear hr hok hE hq F1
 go_enter Tryz.func152,Tryz.ntmps152
 go_wp2_with fail
 refine P.out.mono ?_
 rintro e w2 ⟨rfl,hb2⟩
 clear c0 c1 c2 c3 c4 c5 c6
 go_wp2_with fail
 go_ret
 exact⟨rfl,fresh hb1 hb2⟩
theorem windex (A:Option Addr) (n c:Nat) (L:List WsL) (w:World) (hr:RW w w.heap.size A L) (hn:L.length=n) (hl:n < 1073741824) (hok:∀ x∈L,okW x):
 Calls Tryz.prog 175 #[.slice A n c,.func (.func 152) #[] #[]] w fun e w'=>∃ m:Int,e= .returned (.int .i64 m)∧(m=-1∧(∀ x∈L,hpL x)∨0≤m∧¬ ∀ x∈L,hpL x)∧Below w.heap.size w w':=by
 have HR:=hide hr
 have Hn:=hide hn
 have Hok:=hide hok
 clear hr hn hok
 go_enter Tryz.func175,Tryz.ntmps175
 go_wp2_with fail
 go_loopw [8] (fun i wr=>∃ j:Nat,j≤n∧i= .int .i64 (j:Int)∧Hid (∀ x∈L.take j,hpL x)∧Below w.heap.size w wr) (fun i _=>n - (intOf i).toNat)
 case atStart=>exact⟨0,by omega,rfl,hide (fun x hx=>by cases hx),Below.refl _ _⟩
 case round=>
  obtain⟨j,hj,rfl,HM,hb⟩:=hrel
  by_cases hlt:j < n
  ·have hltL:j < L.length:=by rw [Hn.out];exact hlt
   have z0:(j:Int) < n:=by omega
   have zj:(0:Int)≤j:=by omega
   have HRr:=(HR.out.below hb).more hb.size
   obtain⟨bb,bo,rfl,hB,hC⟩:=RW.cell HRr (by omega)
   obtain⟨d0,d1,d2,d3,d4,d5,d6⟩:=hC j hltL
   obtain⟨x,hx⟩:∃ x,L[j]=x:=⟨_,rfl⟩
   rw [hx] at d0 d1 d2 d3 d4 d5 d6
   have hxm:x∈L:=by rw [←hx];exact List.getElem_mem hltL
   have Hx:=hide hxm
   have Htake:=hide (show L.take (j+1)=L.take j++ [x] by rw [List.take_succ_eq_append_getElem hltL,hx])
   have hox:=Hok.out x hxm
   have hP:=hide (wants1 x.t x.r x.rd x.kn x.hA x.h.length x.hc x.h (.slice x.sA x.s.length x.sc) (.slice x.gA x.g.length x.gc) wr (HRr.2 x hxm).1 rfl hox.2.2.2.2.1 hox.2.2.2.2.2.2.1)
   clear hC hx hxm hox HRr
   by_cases hm:hpL x
   rotate_left
   ·rw [decide_eq_true hm] at hP
    have Hm:=hide hm
    clear hm
    go_wp2_with fail
    refine hP.out.mono ?_
    rintro e w2 ⟨rfl,hb2⟩
    go_wp2_with fail
    go_ret
    exact⟨(j:Int),rfl,.inr ⟨by omega,fun h=>Hm.out (h x Hx.out)⟩,fresh hb hb2⟩
   ·rw [decide_eq_false (not_not_intro hm)] at hP
    have Hm:=hide hm
    clear hm
    go_wp2_with fail
    refine hP.out.mono ?_
    rintro e w2 ⟨rfl,hb2⟩
    go_wp2_with fail
    go_roundw
    case rel=>
     refine⟨j+1,by omega,by go_num,hide fun q hq=>?_,fresh hb hb2⟩
     rw [Htake.out] at hq
     rcases List.mem_append.1 hq with h | h
     ·exact HM.out q h
     ·simp only [List.mem_singleton] at h
      subst h
      exact Hm.out
    case measure=>simp [intOf];omega
  ·have z0:¬ (j:Int) < n:=by omega
   have Ha:=hide (show ∀ x∈L,hpL x by have:=HM.out;rwa [List.take_of_length_le (by rw [Hn.out];omega)] at this)
   go_wp2_with fail
   go_ret
   exact⟨-1,rfl,.inl ⟨rfl,Ha.out⟩,hb⟩
theorem wcontains (A:Option Addr) (n c:Nat) (L:List WsL) (w:World) (hr:RW w w.heap.size A L) (hn:L.length=n) (hl:n < 1073741824) (hok:∀ x∈L,okW x):
 Calls Tryz.prog 151 #[.slice A n c,.func (.func 152) #[] #[]] w fun e w'=>e= .returned (.bool (decide (¬ ∀ x∈L,hpL x)))∧Below w.heap.size w w':=by
 have hP:=hide (windex A n c L w hr hn hl hok)
 clear hr hn hok
 go_enter Tryz.func151,Tryz.ntmps151
 go_wp2_with fail
 refine hP.out.mono ?_
 rintro e w2 ⟨m,rfl,hm,hb⟩
 rcases hm with⟨rfl,hm⟩ | ⟨h0,hm⟩
 ·have Hd:=hide (show decide (¬ ∀ x∈L,hpL x)=false from decide_eq_false (fun h=>h hm))
  clear hm
  go_wp2_with fail
  go_ret
  exact⟨by rw [Hd.out];rfl,hb⟩
 ·have Hd:=hide (show decide (¬ ∀ x∈L,hpL x)=true from decide_eq_true hm)
  clear hm
  go_wp2_with fail
  go_ret
  exact⟨by rw [Hd.out];exact ret_bool (by first | (simp;done) | simpa using h0),hb⟩
theorem wants_any (A:Option Addr) (n c:Nat) (L:List WsL) (w:World) (hr:RW w w.heap.size A L) (hn:L.length=n) (hl:n < 1073741824) (hok:∀ x∈L,okW x):
 Calls Tryz.prog 112 #[.slice A n c] w fun e w'=>e= .returned (.bool (decide (wantsP (L.map WsL.wp))))∧Below w.heap.size w w':=by
 have hen:(L.map WsL.wp).map WP.en=L.map WsL.en:=by rw [List.map_map];rfl
 have hall:(∀ o∈L.map WsL.wp,idsP o.H)↔∀ x∈L,hpL x:=by
  constructor
  ·intro h x hx
   exact h _ (List.mem_map_of_mem hx)
  ·intro h o ho
   obtain⟨x,hx,rfl⟩:=List.mem_map.1 ho
   exact h x hx
 have hP:=hide (entries_any A n c L w hr hn hl)
 have hQ:=hide (fun (A':Option Addr) (c':Nat) (w1:World) (h1:RE w1 w1.heap.size A' L)=>encheck_any A' n c' L w1 h1 hn hok)
 have hU:=hide (fun w2 (hb:Below w.heap.size w w2)=>wcontains A n c L w2 ((hr.below hb).more hb.size) hn hl hok)
 by_cases h1:mayE (L.map WsL.en)
 rotate_left
 ·rw [show chkE (L.map WsL.en)=8 from if_neg h1] at hQ
  have hE:=hide (show decide (wantsP (L.map WsL.wp))=false from decide_eq_false fun h=>h1 (by have:=h.1;rwa [hen] at this))
  rw [hE.out]
  clear hr hn hok hall hE hen h1 hU
  go_enter Tryz.func112,Tryz.ntmps112
  go_wp2_with fail
  refine hP.out.mono ?_
  rintro e w2 ⟨A',c',rfl,hre,hb⟩
  have hQ2:=hide (hQ.out A' c' w2 hre)
  clear hre
  go_wp2_with fail
  refine hQ2.out.mono ?_
  rintro e w3 ⟨rfl,hb3⟩
  go_wp2_with fail
  go_ret
  exact⟨rfl,fresh hb hb3⟩
 rw [show chkE (L.map WsL.en)=0 from if_pos h1] at hQ
 have hE:=hide (show decide (wantsP (L.map WsL.wp))= !(decide (¬ ∀ x∈L,hpL x)) by
  by_cases h:∀ x∈L,hpL x
  ·rw [decide_eq_true (show wantsP (L.map WsL.wp) from⟨by rw [hen];exact h1,hall.2 h⟩),decide_eq_false (not_not_intro h)];rfl
  ·rw [decide_eq_false (fun h':wantsP (L.map WsL.wp)=>h (hall.1 h'.2)),decide_eq_true h];rfl)
 rw [hE.out]
 obtain⟨q,hq⟩:∃ q,q=decide (¬ ∀ x∈L,hpL x):=⟨_,rfl⟩
 rw [←hq] at hU ⊢
 clear hr hn hok hall hE hen h1 hq
 go_enter Tryz.func112,Tryz.ntmps112
 go_wp2_with fail
 refine hP.out.mono ?_
 rintro e w2 ⟨A',c',rfl,hre,hb⟩
 have hQ2:=hide (hQ.out A' c' w2 hre)
 clear hre
 go_wp2_with fail
 refine hQ2.out.mono ?_
 rintro e w3 ⟨rfl,hb3⟩
 have hbb:=fresh hb hb3
 go_wp2_with fail
 refine (hU.out w3 hbb).mono ?_
 rintro e w4 ⟨rfl,hb4⟩
 go_wp2_with fail
 go_ret
 exact⟨rfl,fresh hbb hb4⟩
end Go.Proofs.YtmkpfdcnikgokaaGreat
