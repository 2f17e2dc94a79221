/-
  Texts of this claim, put together: ListRefRead, RdOps. What each theorem asks stands in its statement.
-/
import Derived.Test.YtmkpfdcnikgokaaGreatLt11
import Derived.Test.YtmkpfdcnikgokaaGreatLt21
import Derived.Test.YtmkpfdcnikgokaaGreatLt33
import Derived.Test.YtmkpfdcnikgokaaGreatLt38
set_option linter.unusedVariables false
set_option linter.unusedSimpArgs false
set_option maxRecDepth 100000
set_option maxHeartbeats 25600000
namespace Go.Proofs.YtmkpfdcnikgokaaGreat
open Go.RowKit
theorem RB.restR {w:World} {B:Nat} {A SA:Option Addr} {b:List UInt8} {n c a SC:Nat} (hr:RB w B A b) (hn:b.length=n) (ha:a≤n) (hc:n≤c) (h:c=a∧SA=A∧SC=0∨¬ c=a∧SA=Option.map (fun x=>x.add a) A∧SC=c - a):RB w B SA (b.drop a):=by
 rcases Nat.lt_or_ge a n with hlt | hge
 ·obtain⟨b0,o0,rfl,-⟩:=RB.cell hr (by omega)
  rcases h with⟨h1,-,-⟩ | ⟨-,rfl,-⟩
  ·omega
  ·have:=hr.sub a b.length (Nat.le_refl _)
   rw [List.take_length] at this
   have e:Option.map (fun x:Addr=>x.add a) (some ⟨b0,o0,none⟩)=some ⟨b0,o0+a,none⟩:=by simp [add_none]
   rw [e]
   exact this
 ·rw [List.drop_eq_nil_of_le (by omega)]
  exact RD.nil_
theorem crefread_any (A:Option Addr) (b:List UInt8) (n c:Nat) (w:World) (hr:RB w w.heap.size A b) (hn:b.length=n) (hl:n < 1073741824) (hc:n≤c):
 Calls Tryz.prog 168 #[.slice A n c] w fun e w'=>∃ A' c' L',e= .returned (.tuple #[.slice A' (List.length (α:=OpP) (outL (readL b)).1) c',.int .i64 ((outL (readL b)).2.1:Int),.int .i64 (outL (readL b)).2.2])∧L'.map OpL.op=(outL (readL b)).1∧OO w' w.heap.size A' c' L'∧Below w.heap.size w w':=by
 have G0:=hide (by
  have:=refget_any A c b w hr (by omega)
  rwa [hn] at this)
 have HRB:=hide hr
 have Hn:=hide hn
 clear hr hn
 cases hg:gget b with
 | none=>
   have Hno:=hide (show readL b=none by
    unfold readL nxt
    rw [List.drop_zero,hg]
    rfl)
   rw [hg] at G0
   clear hg
   go_enter Tryz.func168,Tryz.ntmps168
   go_wp2_with fail
   refine G0.out.mono ?_
   rintro e w3 ⟨rfl,rfl⟩
   unfold gval
   go_wp2_with fail
   refine bodyPost_ret (v:= .tuple #[.slice none 0 0,.int .i64 0,.int .i64 8]) (by simp [results,Tryz.results168,go_sem]) rfl ?_
   exact⟨none,0, [],by rw [Hno.out];rfl,by rw [Hno.out];rfl,OO.nil _ _,Below.refl _ _⟩
 | some q=>
   obtain⟨M,s0⟩:=q
   rw [hg] at G0
   by_cases hM:(1024:Int) < M
   ·have Hno:=hide (show readL b=none by
     unfold readL nxt
     rw [List.drop_zero,hg]
     simp only
     rw [if_pos (.inr hM)]
     rfl)
    clear hg
    go_enter Tryz.func168,Tryz.ntmps168
    go_wp2_with fail
    refine G0.out.mono ?_
    rintro e w3 ⟨rfl,rfl⟩
    unfold gval
    go_wp2_with fail
    refine bodyPost_ret (v:= .tuple #[.slice none 0 0,.int .i64 0,.int .i64 8]) (by simp [results,Tryz.results168,go_sem]) rfl ?_
    exact⟨none,0, [],by rw [Hno.out];rfl,by rw [Hno.out];rfl,OO.nil _ _,Below.refl _ _⟩
   have hM9:(M:Int)≤1024:=by omega
   have Hrd:=hide (show readL b=goL b M s0 [] by
    unfold readL nxt
    rw [List.drop_zero,hg]
    simp only
    rw [if_neg (by omega)]
    show goL b (M:Int).toNat (0+s0) []=_
    rw [Int.toNat_natCast,Nat.zero_add])
   have Hq:=hide (show s0≤n by
    obtain⟨-,v2,-,-⟩:=gget_inv hg
    rw [←Hn.out]
    exact v2)
   clear hg
   go_enter Tryz.func168,Tryz.ntmps168
   go_wp2_with fail
   refine G0.out.mono ?_
   rintro e w3 ⟨rfl,rfl⟩
   unfold gval
   clear G0
   go_wp2_with fail
   go_loopw [6,8,9] (fun t v i wr=>∃ (j a:Nat) (A':Option Addr) (c':Nat) (L':List OpL),j≤M∧a≤n∧t= .int .i64 (a:Int)∧i= .int .i64 (j:Int)∧v= .slice A' j c'∧Hid (L'.length=j)∧Hid (OO wr w.heap.size A' c' L')∧Hid (readL b=goL b (M - j) a (L'.map OpL.op))∧Below w.heap.size w wr) (fun _ _ i _=>M - (intOf i).toNat)
   case atStart=>exact⟨0,s0,none,0, [],by omega,Hq.out,rfl,rfl,rfl,hide rfl,hide (OO.nil _ _),Hrd,Below.refl _ _⟩
   case round=>
    obtain⟨j,a,A',c',L',hj,ha,rfl,rfl,rfl,HLl,HOO,HG,hb⟩:=hrel
    clear Hrd Hq
    by_cases hlt:j < M
    ·have z0:(j:Int) < M:=by omega
     have z1:(0:Int)≤a:=by omega
     have z2:(a:Int)≤n:=by omega
     have z3:(n:Int)≤c:=by omega
     have z4:(a:Int)≤c:=by omega
     obtain⟨SA,SC,hSA⟩:∃ SA SC,(c=a∧SA=A∧SC=0∨¬ c=a∧SA=Option.map (fun x=>x.add a) A∧SC=c - a):=by
      by_cases h:c=a
      ·exact⟨_,_,.inl ⟨h,rfl,rfl⟩⟩
      ·exact⟨_,_,.inr ⟨h,rfl,rfl⟩⟩
     have G:=hide (crefget_any SA (b.drop a) (n - a) SC wr (RB.restR ((RD.below HRB.out hb).more hb.size) Hn.out ha hc hSA) (by rw [List.length_drop,Hn.out]) (by omega) (by rcases hSA with⟨h1,-,h2⟩ | ⟨h1,-,h2⟩ <;> omega))
     rw [getQ_is] at G
     have HG1:=hide (show readL b=match getP (b.drop a) with
      | none=>none
      | some (k,t,r,p,z,n)=>goL b (M - (j+1)) (a+n) (L'.map OpL.op++ [(k,t,r,p,z)]) by
        rw [HG.out,show M - j=(M - (j+1))+1 by omega]
        rfl)
     clear HG
     rcases hSA with⟨hca,hA',hC'⟩ | ⟨hca,hA',hC'⟩
     all_goals
      replace hA':=hA'.symm
      replace hC':=hC'.symm
      subst hA' hC'
      go_wp2_with fail
      try rw [show (Value.slice A n a)=Value.slice A n c by rw [hca]]
      clear hca
      refine G.out.mono ?_
      rintro e w4 ⟨A4,c4,rfl,hown4,hb4⟩
      have hb04:=fresh hb hb4
      have HOO4:=hide (HOO.out.below hb4)
      have Hown4:=hide (own_less hown4 hb.size)
      clear hown4 HOO G
      cases hg:getP (b.drop a) with
      | none=>
       have Hno:=hide (show readL b=none by rw [HG1.out,hg])
       simp only [outP]
       clear hg HG1 Hown4
       go_wp2_with fail
       refine bodyPost_ret (v:= .tuple #[.slice none 0 0,.int .i64 0,.int .i64 8]) (by simp [results,Tryz.results168,go_sem]) rfl ?_
       exact⟨none,0, [],by rw [Hno.out];rfl,by rw [Hno.out];rfl,OO.nil _ _,fresh hb04 (boxed _ _)⟩
      | some o=>
       obtain⟨k,t,r,p,z,s⟩:=o
       obtain⟨-,-,hs9,-,-,-⟩:=getP_inv hg
       rw [List.length_drop,Hn.out] at hs9
       have HG2:=hide (show readL b=goL b (M - (j+1)) (a+s) (L'.map OpL.op++ [(k,t,r,p,z)]) by rw [HG1.out,hg])
       rw [hg] at Hown4
       simp only [outP] at Hown4 ⊢
       clear hg HG1
       obtain⟨w5,hw5,F5,hs5,hb5⟩:=five_fb w4 (.int .u8 k) (.int .u32 t) (.int .u8 r) (.slice A4 p.length c4) (.int .i64 z)
       have hb05:=fresh hb04 hb5
       have HOO5:=hide (HOO4.out.below hb5)
       have Hown5:=hide (own_below Hown4.out hb5 (Nat.le_refl _))
       obtain⟨y0,y1,y2,y3,y4⟩:=F5.cells
       have z5:IntKind.i64.wrap ((a:Int)+(s:Int))=(a:Int)+(s:Int):=IntWalk.i64_in _ (by omega)
       clear F5 HOO4 Hown4
       go_wp2_with (at_builtin;refine wpList_append_op _ rfl (.tmp 40) (.tmp 42) rfl w.heap.size A' c' j L' HLl.out rfl (HOO5.out.below (boxed _ _)) ⟨k,t,r,A4,c4,p,z⟩ (own_below Hown5.out (boxed _ _) (Nat.le_refl _)) (some ⟨w5.heap.size,0,none⟩) rfl (op_row w5 ⟨k,t,r,A4,c4,p,z⟩) (by omega) (Nat.le_trans hb05.size (boxed w5 _).size) ?_;intro A3 c3 w6 hOO3 hb3 hk3)
       go_roundw
       case rel=>
        refine⟨j+1,a+s,A3,c3,L'++ [⟨k,t,r,A4,c4,p,z⟩],by omega,by omega,by go_num,by go_num,rfl,hide ?_,hide hOO3,hide ?_,(fresh hb05 (boxed w5 _)).trans hb3⟩
        ·rw [List.length_append,HLl.out];rfl
        ·rw [HG2.out,List.map_append];rfl
       case measure=>simp [intOf];omega
    ·have z0:¬ (j:Int) < M:=by omega
     obtain rfl:j=M:=by omega
     have HG0:=hide (show readL b=some (L'.map OpL.op,a) by
      have:=HG.out
      rw [Nat.sub_self] at this
      exact this)
     clear HG
     go_wp2_with fail
     refine bodyPost_ret (v:= .tuple #[.slice A' j c',.int .i64 (a:Int),.int .i64 0]) (by simp [results,Tryz.results168,go_sem]) rfl ?_
     exact⟨A',c',by rw [HG0.out];simp only [outL];rw [List.length_map,HLl.out],L',by rw [HG0.out];rfl,HOO.out,hb⟩
theorem rdops (g:Nat) (st:ES) (w:World) (h:RY w g st) (l9:List OpP) (s9:ES) (hx:rdO st=(l9,s9)):
 Calls Tryz.prog 141 #[.pointer (some ⟨g,0,none⟩)] w fun e w'=>∃ A c L,e= .returned (.slice A (List.length (α:=OpL) L) c)∧L.map OpL.op=l9∧OO w' w.heap.size A c L∧RY w' g s9∧OnlyAt g w w':=by
 obtain⟨A,c,hE,hr,hc,hl,hA⟩:=h
 obtain⟨b,bad⟩:=st
 simp only at hE hr hc hl
 have hlt:=hE.lt
 obtain⟨c0,c1⟩:=hE.cells
 have G:=hide (crefread_any A b b.length c w (RD.more hr.1 (Nat.le_of_lt hlt)) rfl hl hc)
 cases hg:readL b with
 | none=>
   rw [hg] at G
   have HV:=hide (show rdO (b,bad)=([],(b,true)) by
    unfold rdO
    simp [hg])
   rw [HV.out] at hx
   simp only [Prod.mk.injEq] at hx
   obtain⟨rfl,rfl⟩:=hx
   have HE:=hide hE
   have Hr:=hide (And.intro hr (And.intro hc (And.intro hl hA)))
   clear hg hE hr hA hc HV
   go_enter Tryz.func141,Tryz.ntmps141
   go_wp2_with fail
   refine G.out.mono ?_
   rintro e w2 ⟨A',c',L',rfl,hL,hO,hb⟩
   have HE2:=hide (HE.out.below hb)
   have HR2:=hide (RBT.below Hr.out.1 (hb.mono (Nat.le_of_lt hlt)))
   have HO2:=hide (OnlyAt.below hb (Nat.le_of_lt hlt))
   clear c0 c1
   obtain⟨c0,c1⟩:=HE2.out.cells
   have f1:=frozen_of_row w2 g 1 _ _ HE2.out
   have HF:=hide (show RY (w2.setCell ⟨g,1,none⟩ (.bool true)) g (b,true) from⟨A,c,HE2.out.set1 true,RBT.below HR2.out ((Below.refl g w2).setCell (Nat.le_refl _) _),Hr.out.2.1,Hr.out.2.2.1,Hr.out.2.2.2⟩)
   have HO:=hide (HO2.out.trans (OnlyAt.set g 1 w2 (.bool true)))
   clear hL hO hb
   cases bad
   all_goals
    go_wp2_with fail
    go_ret
    exact⟨none,0, [],rfl,rfl,OO.nil _ _,HF.out,HO.out⟩
 | some q=>
   obtain⟨l,s⟩:=q
   obtain⟨-,v1,v2,v3⟩:=readL_inv hg
   rw [hg] at G
   simp only [outL] at G
   have hx2:(l,((b.drop s,bad):ES))=(l9,s9):=by rw [←hx];unfold rdO;simp [hg]
   simp only [Prod.mk.injEq] at hx2
   obtain⟨rfl,rfl⟩:=hx2
   have hs1:1≤s:=by
    have h1:=congrArg List.length v3
    rw [List.length_take,List.length_append] at h1
    have h2:1≤(nbs [(l.length:Int)]).length:=by
     rw [show nbs [(l.length:Int)]=nb (l.length:Int).toNat++ [] from rfl,List.length_append]
     have:=nb_pos (l.length:Int).toNat
     omega
    omega
   obtain⟨b0,o0,rfl,hB0,-⟩:=RB.cell hr.1 (by omega)
   obtain⟨SA,SC,hSA⟩:∃ (SA:Option Addr) (SC:Nat),(c=s∧SA=some ⟨b0,o0,none⟩∧SC=0∨¬ c=s∧SA=some ⟨b0,o0+s,none⟩∧SC=c - s):=by
    by_cases h:c=s
    ·exact⟨_,_,.inl ⟨h,rfl,rfl⟩⟩
    ·exact⟨_,_,.inr ⟨h,rfl,rfl⟩⟩
   have hrs0:RB w g SA (b.drop s):=by
    rcases hSA with⟨h1,-,-⟩ | ⟨-,rfl,-⟩
    ·rw [List.drop_eq_nil_of_le (by omega)]
     exact RD.nil_
    ·have:=hr.1.sub s b.length (Nat.le_refl _)
     rwa [List.take_length] at this
   have hrs:RBT w g SA (b.drop s):=⟨hrs0,fun q hq=>by rcases hSA with⟨-,h2,-⟩ | ⟨-,h2,-⟩ <;> (rw [h2] at hq;cases hq;have h9:=hr.2 _ rfl;exact h9)⟩
   have HFin:=hide (show (b.drop s).length≤SC∧(b.drop s).length < 1073741824∧(SA=none→SC=0) from⟨by
    rw [List.length_drop]
    rcases hSA with⟨h1,-,h2⟩ | ⟨h1,-,h2⟩ <;> omega,by rw [List.length_drop];omega,fun h=>by rcases hSA with⟨-,h2,-⟩ | ⟨-,h2,-⟩ <;> (rw [h2] at h;cases h)⟩)
   have HE:=hide hE
   have Hrs:=hide hrs
   have zs0:(0:Int)≤s:=by omega
   have zs1:(s:Int)≤b.length:=by omega
   have zs2:(s:Int)≤c:=by omega
   have zs3:(b.length:Int)≤c:=by omega
   have Hll:=hide hl
   clear hg hE hr hA hc hx v3 hrs hrs0 v1
   go_enter Tryz.func141,Tryz.ntmps141
   go_wp2_with fail
   refine G.out.mono ?_
   rintro e w2 ⟨A',c',L',rfl,hL,hO,hb⟩
   have HE2:=hide (HE.out.below hb)
   have HR2:=hide (RBT.below Hrs.out (hb.mono (Nat.le_of_lt hlt)))
   have HO2:=hide (OnlyAt.below hb (Nat.le_of_lt hlt))
   clear c0 c1
   obtain⟨c0,c1⟩:=HE2.out.cells
   have f2:=frozen_of_row _ g 0 _ _ HE2.out
   have E2:RDE (w2.setCell ⟨g,0,none⟩ (.slice SA (b.length - s) SC)) g SA (b.length - s) SC bad:=HE2.out.set0
   have HF:=hide (show RY (w2.setCell ⟨g,0,none⟩ (.slice SA (b.length - s) SC)) g (b.drop s,bad) from⟨SA,SC,by rw [List.length_drop];exact E2,RBT.below HR2.out ((Below.refl g w2).setCell (Nat.le_refl _) _),HFin.out⟩)
   have ho3:=OnlyAt.set g 0 w2 (.slice SA (b.length - s) SC)
   have HO:=hide (HO2.out.trans ho3)
   have HOO:=hide (hO.at hlt ho3)
   have hLl:l.length=L'.length:=by rw [←hL,List.length_map]
   have HL2:=hide hL
   rw [hLl]
   obtain⟨nl,hnl⟩:∃ q,q=L'.length:=⟨_,rfl⟩
   have Hnl:=hide hnl
   rw [←hnl]
   clear hL hO hb E2 ho3 hLl hnl
   rcases hSA with⟨hca,rfl,rfl⟩ | ⟨hca,rfl,rfl⟩
   all_goals
    go_wp2_with fail
    go_ret
    exact⟨A',c',L',by rw [←Hnl.out];rfl,HL2.out,HOO.out,HF.out,HO.out⟩
end Go.Proofs.YtmkpfdcnikgokaaGreat
