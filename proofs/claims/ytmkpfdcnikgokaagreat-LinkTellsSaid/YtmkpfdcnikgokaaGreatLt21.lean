/-
  Texts of this claim, put together: ListRead, EyeOps, CrcMath, CrcTable, CrcSum. What each theorem asks stands in its statement.
-/
import Derived.Test.YtmkpfdcnikgokaaGreatRows
import Derived.Laws.CopyOwn
import Derived.Test.YtmkpfdcnikgokaaGreatLt1
import Derived.Test.YtmkpfdcnikgokaaGreatLt11
import Derived.Test.YtmkpfdcnikgokaaGreatLt12
import Derived.Test.YtmkpfdcnikgokaaGreatLt20
set_option linter.unusedVariables false
set_option linter.unusedSimpArgs false
set_option maxRecDepth 100000
set_option maxHeartbeats 25600000
namespace Go.Proofs.YtmkpfdcnikgokaaGreat
open Go.RowKit
theorem RB.rest0 {w:World} {B:Nat} {A SA:Option Addr} {b:List UInt8} {n c a SC:Nat} (hr:RB w B A b) (hn:b.length=n) (ha:a≤n) (hc:n≤c) (h:c=a∧SA=A∧SC=0∨¬ c=a∧SA=Option.map (fun x=>x.add a) A∧SC=c - a):RB w B SA (b.drop a):=by
 rcases Nat.lt_or_ge a n with hlt | hge
 ·obtain⟨b0,o0,rfl,-⟩:=RB.cell hr (by omega)
  rcases h with⟨h1,-,-⟩ | ⟨-,rfl,-⟩
  ·omega
  ·have:=hr.sub a b.length (Nat.le_refl _)
   rw [List.take_length] at this
   have e:Option.map (fun x:Addr=>x.add a) (some ⟨b0,o0,none⟩)=some ⟨b0,o0+a,none⟩:=by simp [add_none]
   rw [e]
   exact this
 ·rw [List.drop_eq_nil_of_le (by omega)]
  exact RD.nil_
theorem cread_any (A:Option Addr) (b:List UInt8) (n c:Nat) (w:World) (hr:RB w w.heap.size A b) (hn:b.length=n) (hl:n < 1073741824) (hc:n≤c) (hA:A=none→c=0):
 Calls Tryz.prog 102 #[.slice A n c] w fun e w'=>∃ A' c' L',e= .returned (.tuple #[.slice A' (List.length (α:=OpP) (outL (readL b)).1) c',.int .i64 ((outL (readL b)).2.1:Int),.int .i64 (outL (readL b)).2.2])∧L'.map OpL.op=(outL (readL b)).1∧OO w' w.heap.size A' c' L'∧Below w.heap.size w w':=by
 obtain⟨w2,hw2⟩:∃ w2,w.alloc (.cells #[.slice A n c,.int .i64 0,.bool false] 178)=w2:=⟨_,rfl⟩
 have hR2:RDR w2 w.heap.size A n c 0 false:=by rw [←hw2];exact heap_alloc_new _ _
 have hb2:Below w.heap.size w w2:=by rw [←hw2];exact boxed _ _
 have hN:=hide (next_ok A b n c w.heap.size 0 0 1024 w2 hR2 ((RD.below hr hb2).more hb2.size) hn hl (Nat.zero_le _) hc hA)
 have HRB:=hide hr
 have HA:=hide hA
 have Hn:=hide hn
 clear hR2 hr hn hA
 cases hx:nxt b 0 0 1024 with
 | none=>
   have Hx:=hide hx
   have Hno:=hide (show readL b=none by unfold readL;rw [hx];rfl)
   clear hx
   go_enter Tryz.func102,Tryz.ntmps102
   go_wp2_with fail
   refine hN.out.mono ?_
   rintro e w3 ⟨x,a',bd,rfl,hR3,ho3,-,-,hq⟩
   obtain⟨rfl,rfl⟩:=hq Hx.out
   have hb3:Below w.heap.size w w3:=hb2.trans ho3.1
   obtain⟨r0,r1,r2⟩:=hR3.cells
   clear hR3 ho3 hw2
   go_wp2_with fail
   go_loopw [2,14] (fun u i wr=>u= .slice none 0 0∧i= .int .i64 0∧wr=w3) (fun _ _ _=>0)
   case atStart=>exact⟨rfl,rfl,rfl⟩
   obtain⟨rfl,rfl,rfl⟩:=hrel
   go_wp2_with fail
   refine bodyPost_ret (v:= .tuple #[.slice none 0 0,.int .i64 0,.int .i64 8]) (by simp [results,Tryz.results102,go_sem]) rfl ?_
   exact⟨none,0, [],by rw [Hno.out];rfl,by rw [Hno.out];rfl,OO.nil _ _,hb3⟩
 | some y=>
   obtain⟨x0,q⟩:=y
   obtain⟨x1,x2,-,-,-,x3,-⟩:=nxt_inv hx
   obtain⟨M,rfl⟩:∃ M:Nat,x0=M:=⟨x0.toNat,by omega⟩
   have Hx:=hide hx
   have Hrd:=hide (show readL b=goL b M q [] by unfold readL;rw [hx];rfl)
   have Hq:=hide (show q≤n by rw [←Hn.out];exact x3 (Nat.zero_le _))
   clear hx x3
   go_enter Tryz.func102,Tryz.ntmps102
   go_wp2_with fail
   refine hN.out.mono ?_
   rintro e w3 ⟨x,a0,bd,rfl,hR3,ho3,-,hq,-⟩
   obtain⟨rfl,rfl,rfl⟩:=hq _ _ Hx.out
   have hb3:Below w.heap.size w w3:=hb2.trans ho3.1
   have HR3:=hide hR3
   clear hR3 ho3 hw2 hN hb2 hq
   go_wp2_with fail
   go_loopw [2,14] (fun v i wr=>∃ (j a:Nat) (A':Option Addr) (c':Nat) (L':List OpL),j≤M∧a≤n∧i= .int .i64 (j:Int)∧v= .slice A' j c'∧Hid (L'.length=j)∧Hid (RDR wr w.heap.size A n c a false)∧Hid (OO wr w.heap.size A' c' L')∧Hid (readL b=goL b (M - j) a (L'.map OpL.op))∧Below w.heap.size w wr) (fun _ i _=>M - (intOf i).toNat)
   case atStart=>exact⟨0,a0,none,0, [],by omega,Hq.out,rfl,rfl,hide rfl,HR3,hide (OO.nil _ _),Hrd,hb3⟩
   case round=>
    obtain⟨j,a,A',c',L',hj,ha,rfl,rfl,HLl,HR,HOO,HG,hb⟩:=hrel
    clear HR3 hb3 Hrd Hq
    by_cases hlt:j < M
    ·have z0:(j:Int) < M:=by omega
     have z1:(0:Int)≤a:=by omega
     have z2:(a:Int)≤n:=by omega
     have z3:(n:Int)≤c:=by omega
     have z4:(a:Int)≤c:=by omega
     have hlt9:=HR.out.lt
     obtain⟨SA,SC,hSA⟩:∃ SA SC,(c=a∧SA=A∧SC=0∨¬ c=a∧SA=Option.map (fun x=>x.add a) A∧SC=c - a):=by
      by_cases h:c=a
      ·exact⟨_,_,.inl ⟨h,rfl,rfl⟩⟩
      ·exact⟨_,_,.inr ⟨h,rfl,rfl⟩⟩
     have G:=hide (cget_any SA (b.drop a) (n - a) SC wr (RB.rest0 ((RD.below HRB.out hb).more hb.size) Hn.out ha hc hSA) (by rw [List.length_drop,Hn.out]) (by omega) (by rcases hSA with⟨h1,-,h2⟩ | ⟨h1,-,h2⟩ <;> omega) (by
      intro e
      rcases hSA with⟨-,-,h2⟩ | ⟨-,h1,h2⟩
      ·exact h2
      ·rw [h1,Option.map_eq_none_iff] at e
       have:=HA.out e
       omega))
     have HG1:=hide (show readL b=match getP (b.drop a) with
      | none=>none
      | some (k,t,r,p,z,n)=>goL b (M - (j+1)) (a+n) (L'.map OpL.op++ [(k,t,r,p,z)]) by
        rw [HG.out,show M - j=(M - (j+1))+1 by omega]
        rfl)
     obtain⟨r0,r1,r2⟩:=HR.out.cells
     clear HG
     rcases hSA with⟨hca,hA',hC'⟩ | ⟨hca,hA',hC'⟩
     all_goals
      replace hA':=hA'.symm
      replace hC':=hC'.symm
      subst hA' hC'
      go_wp2_with fail
      refine G.out.mono ?_
      rintro e w4 ⟨A4,c4,rfl,hown4,hb4⟩
      have hb04:=fresh hb hb4
      have HR4:=hide (HR.out.below hb4)
      have HOO4:=hide (HOO.out.below hb4)
      have Hown4:=hide (own_less hown4 hb.size)
      clear hown4 HR HOO r0 r1 r2 G
      cases hg:getP (b.drop a) with
      | none=>
       have Hno:=hide (show readL b=none by rw [HG1.out,hg])
       simp only [outP]
       clear hg HG1 Hown4
       go_wp2_with fail
       refine bodyPost_ret (v:= .tuple #[.slice none 0 0,.int .i64 0,.int .i64 8]) (by simp [results,Tryz.results102,go_sem]) rfl ?_
       exact⟨none,0, [],by rw [Hno.out];rfl,by rw [Hno.out];rfl,OO.nil _ _,fresh hb04 (boxed _ _)⟩
      | some o=>
       obtain⟨k,t,r,p,z,s⟩:=o
       obtain⟨-,-,hs9,-,-,-⟩:=getP_inv hg
       rw [List.length_drop,Hn.out] at hs9
       have HG2:=hide (show readL b=goL b (M - (j+1)) (a+s) (L'.map OpL.op++ [(k,t,r,p,z)]) by rw [HG1.out,hg])
       rw [hg] at Hown4
       simp only [outP] at Hown4 ⊢
       clear hg HG1
       obtain⟨w5,hw5,F5,hs5,hb5⟩:=five_fb w4 (.int .u8 k) (.int .u32 t) (.int .u8 r) (.slice A4 p.length c4) (.int .i64 z)
       have hb05:=fresh hb04 hb5
       have HR5:=hide (HR4.out.below hb5)
       have HOO5:=hide (HOO4.out.below hb5)
       have Hown5:=hide (own_below Hown4.out hb5 (Nat.le_refl _))
       obtain⟨gb,hgb⟩:∃ g,g=w4.heap.size:=⟨_,rfl⟩
       rw [←hgb] at F5
       have HF5:=hide F5
       have Hne:=hide (show gb≠w.heap.size by rw [hgb];have:=hb4.size;omega)
       have z5:IntKind.i64.wrap ((a:Int)+(s:Int))=(a:Int)+(s:Int):=IntWalk.i64_in _ (by omega)
       clear F5 HR4 HOO4 Hown4
       go_wp2_with fail
       rw [←hgb]
       clear hw5 hgb hs5 hlt9
       refine wp_region_inv (fun done ρ W=>LI (stepV w.heap.size a s (.slice A' j c') ⟨k,t,r,A4,c4,p,z⟩) (fun _=>True) done ρ W∧RJ w gb w.heap.size A n c a s A' j c' L' ⟨k,t,r,A4,c4,p,z⟩ done ρ W) (by kernel_rfl) 53 (by rfl) (by kernel_rfl) ?_ ?_ ?_
       ·exact⟨LI.start _ trivial,⟨hb05.drew,fun _=>rfl,fun _=>HF5.out,fun e=>(by cases e),fun _=>⟨HOO5.out,Hown5.out⟩,fun e=>(by cases e),fun _=>HR5.out,fun e=>(by cases e),fun e=>(by cases e),fun e=>(by cases e),fun e=>(by cases e),fun e=>(by cases e),fun e=>(by cases e),fun e=>(by cases e)⟩⟩
       ·refine⟨?_,?_,?_,?_,?_,?_,?_,?_,?_,?_,?_,?_,?_,?_,?_,trivial⟩
        ·
         intro done ρ W hn hf hd h
         have q5:ρ 5= .pointer (some ⟨w.heap.size,0,none⟩):=hf 5 (by kernel_rfl)
         clear hf
         refine .inl ⟨rfl,opOK_step fun R hR=>?_⟩
         unfold opOK
         go_simp
         exact hR _ _ ⟨h.1.put stepS rfl (by decide) 0 30 _ rfl trivial,h.2.plain 0 30 _ (by decide) (by decide) (by decide) (by decide) (by decide) (by decide) (by decide) (fun e=>by cases e)⟩
        ·
         intro done ρ W hn hf hd h
         have q2:=h.2.e2 (by
          cases hx:done 11 with
          | false=>rfl
          | true=>rw [h.2.z41 (h.2.z11 hx)] at hn;cases hn)
         clear hf
         refine .inl ⟨rfl,opOK_step fun R hR=>?_⟩
         unfold opOK
         go_simp
         exact hR _ _ ⟨h.1.put stepS rfl (by decide) 1 31 _ rfl trivial,h.2.plain 1 31 _ (by decide) (by decide) (by decide) (by decide) (by decide) (by decide) (by decide) (fun e=>by cases e)⟩
        ·
         intro done ρ W hn hf hd h
         have q6:ρ 6= .pointer (some ⟨gb,0,none⟩):=hf 6 (by kernel_rfl)
         obtain⟨y0,y1,y2,y3,y4⟩:=(h.2.f2 hn).cells
         clear hf
         refine .inl ⟨rfl,opOK_step fun R hR=>?_⟩
         unfold opOK
         go_simp
         exact hR _ _ ⟨h.1.put stepS rfl (by decide) 2 32 _ rfl trivial,h.2.plain 2 32 _ (by decide) (by decide) (by decide) (by decide) (by decide) (by decide) (by decide) (fun e=>by cases e)⟩
        ·
         intro done ρ W hn hf hd h
         have q32:=h.1.get 2 32 _ rfl (hd 2 (by kernel_rfl))
         clear hf
         refine .inl ⟨rfl,opOK_step fun R hR=>?_⟩
         unfold opOK
         go_simp
         exact hR _ _ ⟨h.1.skip stepS rfl 3 33 _ rfl rfl trivial,h.2.row hn (hd 2 (by kernel_rfl))⟩
        ·
         intro done ρ W hn hf hd h
         have q31:=h.1.get 1 31 _ rfl (hd 1 (by kernel_rfl))
         obtain⟨g,k1,k2⟩:=h.2.m3 (hd 3 (by kernel_rfl)) hn
         obtain⟨k3,k4⟩:=h.2.m4 hn
         clear hf
         refine .inl ⟨rfl,opOK_step fun R hR=>?_⟩
         refine step_append (.tmp 31) (.tmp 33) rfl q31 k1 HLl.out k3 k4 k2 (by omega) h.2.b.size fun A2 c2 W' j1 j2 j3=>hR _ _ ⟨h.1.skip stepS rfl 4 34 _ rfl rfl trivial,h.2.app hn (hd 3 (by kernel_rfl)) (hd 1 (by kernel_rfl)) j1 j2 j3⟩
        ·
         intro done ρ W hn hf hd h
         have q5:ρ 5= .pointer (some ⟨w.heap.size,0,none⟩):=hf 5 (by kernel_rfl)
         clear hf
         refine .inl ⟨rfl,opOK_step fun R hR=>?_⟩
         unfold opOK
         go_simp
         exact hR _ _ ⟨h.1.put stepS rfl (by decide) 5 35 _ rfl trivial,h.2.plain 5 35 _ (by decide) (by decide) (by decide) (by decide) (by decide) (by decide) (by decide) (fun e=>by cases e)⟩
        ·
         intro done ρ W hn hf hd h
         have q35:=h.1.get 5 35 _ rfl (hd 5 (by kernel_rfl))
         clear hf
         refine .inl ⟨rfl,opOK_step fun R hR=>?_⟩
         unfold opOK
         go_simp
         exact hR _ _ ⟨h.1.put stepS rfl (by decide) 6 36 _ rfl trivial,h.2.plain 6 36 _ (by decide) (by decide) (by decide) (by decide) (by decide) (by decide) (by decide) (fun e=>by cases e)⟩
        ·
         intro done ρ W hn hf hd h
         have q36:=h.1.get 6 36 _ rfl (hd 6 (by kernel_rfl))
         clear hf
         refine .inl ⟨rfl,opOK_step fun R hR=>?_⟩
         unfold opOK
         go_simp
         exact hR _ _ ⟨h.1.put stepS rfl (by decide) 7 37 _ rfl trivial,h.2.plain 7 37 _ (by decide) (by decide) (by decide) (by decide) (by decide) (by decide) (by decide) (fun e=>by cases e)⟩
        ·
         intro done ρ W hn hf hd h
         have q37:=h.1.get 7 37 _ rfl (hd 7 (by kernel_rfl))
         obtain⟨y0,y1,y2⟩:=(h.2.r1 (by
          cases hx:done 14 with
          | false=>rfl
          | true=>rw [h.2.z14 hx] at hn;cases hn)).cells
         clear hf
         refine .inl ⟨rfl,opOK_step fun R hR=>?_⟩
         unfold opOK
         go_simp
         exact hR _ _ ⟨h.1.put stepS rfl (by decide) 8 38 _ rfl trivial,h.2.plain 8 38 _ (by decide) (by decide) (by decide) (by decide) (by decide) (by decide) (by decide) (fun e=>by cases e)⟩
        ·
         intro done ρ W hn hf hd h
         have q7:ρ 7= .int .i64 (s:Int):=hf 7 (by kernel_rfl)
         clear hf
         refine .inl ⟨rfl,opOK_step fun R hR=>?_⟩
         unfold opOK
         go_simp
         exact hR _ _ ⟨h.1.put stepS rfl (by decide) 9 39 _ rfl trivial,h.2.plain 9 39 _ (by decide) (by decide) (by decide) (by decide) (by decide) (by decide) (by decide) (fun e=>by cases e)⟩
        ·
         intro done ρ W hn hf hd h
         have q38:=h.1.get 8 38 _ rfl (hd 8 (by kernel_rfl))
         have q39:=h.1.get 9 39 _ rfl (hd 9 (by kernel_rfl))
         clear hf
         refine .inl ⟨rfl,opOK_step fun R hR=>?_⟩
         unfold opOK
         go_simp
         exact hR _ _ ⟨h.1.put stepS rfl (by decide) 10 40 _ rfl trivial,h.2.plain 10 40 _ (by decide) (by decide) (by decide) (by decide) (by decide) (by decide) (by decide) (fun _=>hd 8 (by kernel_rfl))⟩
        ·
         intro done ρ W hn hf hd h
         obtain⟨A2,c2,k1,-,-⟩:=h.2.n4 (hd 4 (by kernel_rfl))
         clear hf
         refine .inl ⟨rfl,opOK_step fun R hR=>?_⟩
         unfold opOK
         go_simp
         exact hR _ _ ⟨h.1.skip stepS rfl 11 2 _ rfl rfl trivial,h.2.asg (hd 4 (by kernel_rfl)) k1.symm⟩
        ·
         intro done ρ W hn hf hd h
         have q30:=h.1.get 0 30 _ rfl (hd 0 (by kernel_rfl))
         clear hf
         refine .inl ⟨rfl,opOK_step fun R hR=>?_⟩
         unfold opOK
         go_simp
         exact hR _ _ ⟨h.1.put stepS rfl (by decide) 12 41 _ rfl trivial,h.2.plain 12 41 _ (by decide) (by decide) (by decide) (by decide) (by decide) (by decide) (by decide) (fun e=>by cases e)⟩
        ·
         intro done ρ W hn hf hd h
         have q41:=h.1.get 12 41 _ rfl (hd 12 (by kernel_rfl))
         clear hf
         refine .inl ⟨rfl,opOK_step fun R hR=>?_⟩
         unfold opOK
         go_simp
         exact hR _ _ ⟨h.1.put stepS rfl (by decide) 13 42 _ rfl trivial,h.2.plain 13 42 _ (by decide) (by decide) (by decide) (by decide) (by decide) (by decide) (by decide) (fun e=>by cases e)⟩
        ·
         intro done ρ W hn hf hd h
         have q42:=h.1.get 13 42 _ rfl (hd 13 (by kernel_rfl))
         have q40:=h.1.get 10 40 _ rfl (hd 10 (by kernel_rfl))
         have HR:=h.2.r1 hn
         obtain⟨y0,y1,y2⟩:=HR.cells
         have f1:=frozen_of_row W w.heap.size 1 _ _ HR
         clear hf
         refine .inl ⟨rfl,opOK_step fun R hR=>?_⟩
         unfold opOK
         go_simp
         exact hR _ _ ⟨h.1.world 14 _ rfl trivial,h.2.store hn (hd 10 (by kernel_rfl)) (Nat.le_refl _) Hne.out _⟩
       ·intro a' w6 hdf hsz hf h
        obtain⟨A2,c2,-,hOO6,k3⟩:=h.2.n4 (by kernel_rfl)
        have h2:=k3 (by kernel_rfl)
        have hR6:=h.2.r2 (by kernel_rfl)
        have hb06:=h.2.b
        have h0:slotsOf a' 0= .slice A n c:=hf 0 (by kernel_rfl)
        have h5:slotsOf a' 5= .pointer (some ⟨w.heap.size,0,none⟩):=hf 5 (by kernel_rfl)
        have h13:slotsOf a' 13= .int .i64 (M:Int):=hf 13 (by kernel_rfl)
        have h14:slotsOf a' 14= .int .i64 (j:Int):=hf 14 (by kernel_rfl)
        have h1:slotsOf a' 1=undef:=hf 1 (by kernel_rfl)
        have h9:slotsOf a' 9= .slice A n c:=hf 9 (by kernel_rfl)
        have h10:slotsOf a' 10= .agg #[.slice A n c,.int .i64 0,.bool false]:=hf 10 (by kernel_rfl)
        have h11:slotsOf a' 11= .pointer (some ⟨w.heap.size,0,none⟩):=hf 11 (by kernel_rfl)
        have h12:slotsOf a' 12= .pointer (some ⟨w.heap.size,0,none⟩):=hf 12 (by kernel_rfl)
        have h44:slotsOf a' 44=undef:=hf 44 (by kernel_rfl)
        have h45:slotsOf a' 45=undef:=hf 45 (by kernel_rfl)
        have h46:slotsOf a' 46=undef:=hf 46 (by kernel_rfl)
        have h47:slotsOf a' 47=undef:=hf 47 (by kernel_rfl)
        have h48:slotsOf a' 48=undef:=hf 48 (by kernel_rfl)
        have h49:slotsOf a' 49=undef:=hf 49 (by kernel_rfl)
        have h50:slotsOf a' 50=undef:=hf 50 (by kernel_rfl)
        have h51:slotsOf a' 51=undef:=hf 51 (by kernel_rfl)
        have h52:slotsOf a' 52=undef:=hf 52 (by kernel_rfl)
        have HR6:=hide hR6
        have HOO6:=hide hOO6
        clear hR6 hOO6 k3 HR5 HOO5 Hown5 HF5 hb05 hb5 hb4 hb04
        obtain⟨T,D⟩:=a'
        have hD:D= []:=hdf
        subst hD
        obtain⟨f,hT,hff⟩:∃ f:Nat→Value,T=((List.range 53).map f).toArray∧slotsOf ⟨T, []⟩=f:=⟨_,arr_list T 53 hsz,rfl⟩
        rw [hff] at h0 h2 h5 h13 h14 h1 h9 h10 h11 h12 h44 h45 h46 h47 h48 h49 h50 h51 h52
        clear hff hsz hf h hdf
        simp only [List.range,List.range.loop,List.map] at hT
        subst hT
        rw [h0,h2,h5,h13,h14,h1,h9,h10,h11,h12,h44,h45,h46,h47,h48,h49,h50,h51,h52]
        clear h0 h2 h5 h13 h14 h1 h9 h10 h11 h12 h44 h45 h46 h47 h48 h49 h50 h51 h52
        go_wp2_with fail
        go_roundw
        case rel=>
         refine⟨j+1,a+s,A2,c2,L'++ [⟨k,t,r,A4,c4,p,z⟩],by omega,by omega,by go_num,rfl,hide ?_,HR6,HOO6,hide ?_,hb06⟩
         ·rw [List.length_append,HLl.out];rfl
         ·rw [HG2.out,List.map_append];rfl
        case measure=>simp [intOf];omega
    ·have z0:¬ (j:Int) < M:=by omega
     obtain rfl:j=M:=by omega
     have HG0:=hide (show readL b=some (L'.map OpL.op,a) by
      have:=HG.out
      rw [Nat.sub_self] at this
      exact this)
     have hlt9:=HR.out.lt
     obtain⟨r0,r1,r2⟩:=HR.out.cells
     clear HG HR
     go_wp2_with fail
     go_quiet (fail)
     go_wp2_with fail
     refine bodyPost_ret (v:= .tuple #[.slice A' j c',.int .i64 (a:Int),.int .i64 0]) (by simp [results,Tryz.results102,go_sem]) rfl ?_
     exact⟨A',c',L',by rw [HG0.out];simp only [outL];rw [List.length_map,HLl.out],by rw [HG0.out];rfl,HOO.out,below_drewN hb _⟩
theorem OO.at {w w':World} {base c g:Nat} {A:Option Addr} {L:List OpL} (h:OO w base A c L) (hg:g < base) (ho:OnlyAt g w w'):OO w' base A c L:=
 ⟨own_at h.1 hg ho,fun x hx=>own_at (h.2 x hx) hg ho⟩
/-- The operations that follow. -/
def eyeO (st:ES):List OpP×ES:=
 if st.2=true then ([],st) else match readL st.1 with
  | some (l,n)=>(l,(st.1.drop n,false))
  | none=>([],(st.1,true))
theorem eyeO_good (st:ES):(∀ o∈(eyeO st).1,goodP o)∧(eyeO st).1.length≤1024:=by
 unfold eyeO
 split
 ·exact⟨fun o h=>(by cases h),by simp⟩
 ·split
  ·rename_i h
   exact⟨(readL_inv h).1,(readL_inv h).2.1⟩
  ·exact⟨fun o h=>(by cases h),by simp⟩
theorem eyeops (g:Nat) (st:ES) (w:World) (h:EY w g st) (l9:List OpP) (s9:ES) (hx:eyeO st=(l9,s9)):
 Calls Tryz.prog 58 #[.pointer (some ⟨g,0,none⟩)] w fun e w'=>∃ A c L,e= .returned (.slice A (List.length (α:=OpL) L) c)∧L.map OpL.op=l9∧OO w' w.heap.size A c L∧EY w' g s9∧OnlyAt g w w':=by
 obtain⟨A,c,hE,hr,hc,hl,hA⟩:=h
 obtain⟨b,bad⟩:=st
 simp only at hE hr hc hl
 have hlt:=hE.lt
 obtain⟨c0,c1⟩:=hE.cells
 have G:=hide (cread_any A b b.length c w (RD.more hr.1 (Nat.le_of_lt hlt)) rfl hl hc hA)
 cases hg:readL b with
 | none=>
   rw [hg] at G
   have HV:=hide (show eyeO (b,bad)=([],(b,true)) by
    unfold eyeO
    cases bad with
    | true=>rfl
    | false=>simp [hg])
   rw [HV.out] at hx
   simp only [Prod.mk.injEq] at hx
   obtain⟨rfl,rfl⟩:=hx
   have HE:=hide hE
   have Hr:=hide (And.intro hr (And.intro hc (And.intro hl hA)))
   clear hg hE hr hA hc HV
   go_enter Tryz.func58,Tryz.ntmps58
   go_wp2_with fail
   refine G.out.mono ?_
   rintro e w2 ⟨A',c',L',rfl,hL,hO,hb⟩
   have HE2:=hide (HE.out.below hb)
   have HR2:=hide (RBT.below Hr.out.1 (hb.mono (Nat.le_of_lt hlt)))
   have HO2:=hide (OnlyAt.below hb (Nat.le_of_lt hlt))
   clear c0 c1
   obtain⟨c0,c1⟩:=HE2.out.cells
   have f1:=frozen_of_row w2 g 1 _ _ HE2.out
   have HF:=hide (show EY (w2.setCell ⟨g,1,none⟩ (.bool true)) g (b,true) from⟨A,c,HE2.out.set1 true,RBT.below HR2.out ((Below.refl g w2).setCell (Nat.le_refl _) _),Hr.out.2.1,Hr.out.2.2.1,Hr.out.2.2.2⟩)
   have HO:=hide (HO2.out.trans (OnlyAt.set g 1 w2 (.bool true)))
   clear hL hO hb
   cases bad
   all_goals
    go_wp2_with fail
    go_ret
    exact⟨none,0, [],rfl,rfl,OO.nil _ _,HF.out,HO.out⟩
 | some q=>
   obtain⟨l,s⟩:=q
   obtain⟨-,v1,v2,v3⟩:=readL_inv hg
   rw [hg] at G
   cases bad with
   | true=>
     have hx2:([],((b,true):ES))=(l9,s9):=hx
     simp only [Prod.mk.injEq] at hx2
     obtain⟨rfl,rfl⟩:=hx2
     have HE:=hide hE
     have Hr:=hide (And.intro hr (And.intro hc (And.intro hl hA)))
     clear hg hE hr hA hc hx v3
     go_enter Tryz.func58,Tryz.ntmps58
     go_wp2_with fail
     refine G.out.mono ?_
     rintro e w2 ⟨A',c',L',rfl,hL,hO,hb⟩
     have HE2:=hide (HE.out.below hb)
     have HR2:=hide (RBT.below Hr.out.1 (hb.mono (Nat.le_of_lt hlt)))
     have HO2:=hide (OnlyAt.below hb (Nat.le_of_lt hlt))
     clear c0 c1
     obtain⟨c0,c1⟩:=HE2.out.cells
     have f1:=frozen_of_row w2 g 1 _ _ HE2.out
     have HF:=hide (show EY (w2.setCell ⟨g,1,none⟩ (.bool true)) g (b,true) from⟨A,c,HE2.out.set1 true,RBT.below HR2.out ((Below.refl g w2).setCell (Nat.le_refl _) _),Hr.out.2.1,Hr.out.2.2.1,Hr.out.2.2.2⟩)
     have HO:=hide (HO2.out.trans (OnlyAt.set g 1 w2 (.bool true)))
     obtain⟨ln,hln⟩:∃ q,q=List.length (outL (some (l,s))).1:=⟨_,rfl⟩
     clear hL hO hb
     go_wp2_with fail
     go_ret
     exact⟨none,0, [],rfl,rfl,OO.nil _ _,HF.out,HO.out⟩
   | false=>
     simp only [outL] at G
     have hx2:(l,((b.drop s,false):ES))=(l9,s9):=by rw [←hx];unfold eyeO;simp [hg]
     simp only [Prod.mk.injEq] at hx2
     obtain⟨rfl,rfl⟩:=hx2
     have hs1:1≤s:=by
      have h1:=congrArg List.length v3
      rw [List.length_take,List.length_append] at h1
      have h2:1≤(nbs [(l.length:Int)]).length:=by
       rw [show nbs [(l.length:Int)]=nb (l.length:Int).toNat++ [] from rfl,List.length_append]
       have:=nb_pos (l.length:Int).toNat
       omega
      omega
     obtain⟨b0,o0,rfl,hB0,-⟩:=RB.cell hr.1 (by omega)
     obtain⟨SA,SC,hSA⟩:∃ (SA:Option Addr) (SC:Nat),(c=s∧SA=some ⟨b0,o0,none⟩∧SC=0∨¬ c=s∧SA=some ⟨b0,o0+s,none⟩∧SC=c - s):=by
      by_cases h:c=s
      ·exact⟨_,_,.inl ⟨h,rfl,rfl⟩⟩
      ·exact⟨_,_,.inr ⟨h,rfl,rfl⟩⟩
     have hrs0:RB w g SA (b.drop s):=by
      rcases hSA with⟨h1,-,-⟩ | ⟨-,rfl,-⟩
      ·rw [List.drop_eq_nil_of_le (by omega)]
       exact RD.nil_
      ·have:=hr.1.sub s b.length (Nat.le_refl _)
       rwa [List.take_length] at this
     have hrs:RBT w g SA (b.drop s):=⟨hrs0,fun q hq=>by rcases hSA with⟨-,h2,-⟩ | ⟨-,h2,-⟩ <;> (rw [h2] at hq;cases hq;have h9:=hr.2 _ rfl;exact h9)⟩
     have HFin:=hide (show (b.drop s).length≤SC∧(b.drop s).length < 1073741824∧(SA=none→SC=0) from⟨by
      rw [List.length_drop]
      rcases hSA with⟨h1,-,h2⟩ | ⟨h1,-,h2⟩ <;> omega,by rw [List.length_drop];omega,fun h=>by rcases hSA with⟨-,h2,-⟩ | ⟨-,h2,-⟩ <;> (rw [h2] at h;cases h)⟩)
     have HE:=hide hE
     have Hrs:=hide hrs
     have zs0:(0:Int)≤s:=by omega
     have zs1:(s:Int)≤b.length:=by omega
     have zs2:(s:Int)≤c:=by omega
     have zs3:(b.length:Int)≤c:=by omega
     have Hll:=hide hl
     clear hg hE hr hA hc hx v3 hrs hrs0 v1
     go_enter Tryz.func58,Tryz.ntmps58
     go_wp2_with fail
     refine G.out.mono ?_
     rintro e w2 ⟨A',c',L',rfl,hL,hO,hb⟩
     have HE2:=hide (HE.out.below hb)
     have HR2:=hide (RBT.below Hrs.out (hb.mono (Nat.le_of_lt hlt)))
     have HO2:=hide (OnlyAt.below hb (Nat.le_of_lt hlt))
     clear c0 c1
     obtain⟨c0,c1⟩:=HE2.out.cells
     have f1:=frozen_of_row w2 g 1 _ _ HE2.out
     have E1:=HE2.out.set1 false
     have f2:=frozen_of_row _ g 0 _ _ E1
     obtain⟨k0,k1⟩:=E1.cells
     have E2:EYE ((w2.setCell ⟨g,1,none⟩ (.bool false)).setCell ⟨g,0,none⟩ (.slice SA (b.length - s) SC)) g SA (b.length - s) SC false:=E1.set0
     have HF:=hide (show EY ((w2.setCell ⟨g,1,none⟩ (.bool false)).setCell ⟨g,0,none⟩ (.slice SA (b.length - s) SC)) g (b.drop s,false) from⟨SA,SC,by rw [List.length_drop];exact E2,RBT.below HR2.out (((Below.refl g w2).setCell (Nat.le_refl _) _).setCell (Nat.le_refl _) _),HFin.out⟩)
     have ho3:=(OnlyAt.set g 1 w2 (.bool false)).trans (OnlyAt.set g 0 _ (.slice SA (b.length - s) SC))
     have HO:=hide (HO2.out.trans ho3)
     have HOO:=hide (hO.at hlt ho3)
     have hLl:l.length=L'.length:=by rw [←hL,List.length_map]
     have HL2:=hide hL
     rw [hLl]
     obtain⟨nl,hnl⟩:∃ q,q=L'.length:=⟨_,rfl⟩
     have Hnl:=hide hnl
     rw [←hnl]
     clear hL hO hb E1 E2 ho3 hLl hnl
     rcases hSA with⟨hca,rfl,rfl⟩ | ⟨hca,rfl,rfl⟩
     all_goals
      go_wp2_with fail
      go_ret
      exact⟨A',c',L',by rw [←Hnl.out];rfl,HL2.out,HOO.out,HF.out,HO.out⟩
end Go.Proofs.YtmkpfdcnikgokaaGreat
namespace Go.Proofs.YtmkpfdcnikgokaaGreat
abbrev B32:=BitVec 32
def poly:B32:=0xedb88320#32
/-- One bit's step. -/
def bs (n:B32):B32:=(n >>> 1) ^^^ (if n.getLsbD 0 then poly else 0#32)
/-- k of them. -/
def bsk:Nat→B32→B32
 | 0,n=>n
 | k+1,n=>bsk k (bs n)
/-- The table at a number. -/
def tb (n:B32):B32:=bsk 8 n
/-- One byte's step, by any table. -/
def stp (T:B32→B32) (s:B32) (x:UInt8):B32:=T ((s &&& 255#32) ^^^ BitVec.ofNat 32 x.toNat) ^^^ (s >>> 8)
def run (T:B32→B32) (s:B32) (l:List UInt8):B32:=l.foldl (stp T) s
/-- All bits set. -/
def ones:B32:=4294967295#32
/-- The sum of bytes, by any table. -/
def smT (T:B32→B32) (l:List UInt8):B32:= ~~~ (run T ones l)
/-- The sum of bytes. -/
def sm (l:List UInt8):B32:=smT tb l
theorem bsk_add (j k:Nat) (n:B32):bsk (j+k) n=bsk k (bsk j n):=by
 induction j generalizing n with
 | zero=>simp [bsk]
 | succ j ih=>rw [show j+1+k=(j+k)+1 by omega];simp only [bsk];rw [ih]
theorem run_append (T:B32→B32) (s:B32) (a b:List UInt8):run T s (a++b)=run T (run T s a) b:=by simp [run]
/-- A byte, eight bits higher for each k, as a number. -/
def hi (k:Nat) (x:UInt8):B32:=BitVec.ofNat 32 x.toNat <<< (8 * k)
/-- The k-th byte of a number. -/
def byteOf (v:B32) (k:Nat):UInt8:=UInt8.ofNat (v.toNat / 256 ^ k % 256)
end Go.Proofs.YtmkpfdcnikgokaaGreat
namespace Go.Proofs.YtmkpfdcnikgokaaGreat
open Go.RowKit
/-- A number of 32 bits as a value. -/
def u32v (x:B32):Value:= .int .u32 (x.toNat:Int)
/-- A table as the cells of an array. -/
def tcells (T:B32→B32):Array Value:=Array.ofFn (n:=256) fun i=>u32v (T (BitVec.ofNat 32 i.val))
theorem tcells_size (T:B32→B32):(tcells T).size=256:=by simp [tcells]
theorem tcells_get (T:B32→B32) (i:Nat) (h:i < 256):(tcells T)[i]?=some (u32v (T (BitVec.ofNat 32 i))):=by
 simp [tcells,h]
theorem bsk_next (j:Nat) (n:B32):bsk (j+1) n=bs (bsk j n):=bsk_add j 1 n
theorem bs_val (n:B32):bits .xor .u32 ((n.toNat:Int) / 2) (bits .and .u32 3988292384 (-bits .and .u32 (n.toNat:Int) 1 % 4294967296))=((bs n).toNat:Int):=by
 have hn:=n.isLt
 have e1:bits .and .u32 (n.toNat:Int) 1=((n.toNat &&& 1:Nat):Int):=u32_and_nat n.toNat 1 (by omega) (by omega)
 rw [e1,Nat.and_one_is_mod]
 have e0:(bs n).toNat=(n.toNat / 2) ^^^ (if n.toNat % 2=1 then 3988292384 else 0):=by
  unfold bs
  rw [BitVec.toNat_xor,BitVec.toNat_ushiftRight,Nat.shiftRight_eq_div_pow]
  have:n.getLsbD 0=decide (n.toNat % 2=1):=by
   rw [←BitVec.testBit_toNat,Nat.testBit_zero]
  rw [this]
  by_cases h:n.toNat % 2=1 <;> simp [h,poly]
 rw [e0]
 have d2:(n.toNat:Int) / 2=((n.toNat / 2:Nat):Int):=by omega
 rw [d2]
 by_cases h:n.toNat % 2=1
 ·rw [h,if_pos rfl]
  have e2:bits .and .u32 3988292384 (-((1:Nat):Int) % 4294967296)=((3988292384:Nat):Int):=by
   have:=u32_and_nat 3988292384 4294967295 (by omega) (by omega)
   simpa using this
  rw [e2]
  exact u32_xor_nat _ _ (by omega) (by omega)
 ·have h0:n.toNat % 2=0:=by omega
  rw [h0,if_neg (by omega)]
  have e2:bits .and .u32 3988292384 (-((0:Nat):Int) % 4294967296)=((0:Nat):Int):=by
   have:=u32_and_nat 3988292384 0 (by omega) (by omega)
   simpa using this
  rw [e2]
  exact u32_xor_nat _ _ (by omega) (by omega)
/-- The zero table. -/
def tzero:Array Value:=tcells fun _=>0#32
theorem zero_table (w:World):(zeroValue 165).run Tryz.prog w= .ok (.agg tzero) w:=by kernel_rfl
theorem info_table (T:B32→B32):(Tryz.prog.info? 165).map (·.size)=some (tcells T).size:=by rw [tcells_size];kernel_rfl
theorem one_table (T:B32→B32):(tcells T).all (·.oneCell')=true:=by
 rw [Array.all_eq_true]
 intro i hi
 simp [tcells,u32v,Value.oneCell']
theorem table_ok (w:World):Calls Tryz.prog 124 #[] w fun e w'=>e= .returned (.agg (tcells tb))∧Below w.heap.size w w':=by
 have hz:=zero_table
 go_enter Tryz.func124,Tryz.ntmps124
 go_wp2_with fail
 clear hz
 go_loopw [3] (fun i wr=>∃ (k:Nat) (cur:Array Value),k≤256∧i= .int .u32 (k:Int)∧wr.heap[w.heap.size]?=some (.cells cur 165 (0,0))∧Hid (cur.size=256)∧Hid (∀ j,j < k→cur[j]?=some (u32v (tb (BitVec.ofNat 32 j))))∧Below w.heap.size w wr) (fun i _=>256 - (intOf i).toNat)
 case atStart=>exact⟨0,tzero,by omega,rfl,heap_alloc_new w _,hide (tcells_size _),hide (fun j hj=>absurd hj (by omega)),(Below.refl _ _).alloc (Nat.le_refl _) _⟩
 case round=>
  obtain⟨k,cur,hk,rfl,hg,hsz,hcur,hbel⟩:=hrel
  by_cases hlt:(k:Int) < 256
  ·go_wp2_with fail
   go_loop [2,7] (fun n c=>∃ (j:Nat),j≤8∧c= .int .i64 (j:Int)∧n= .int .u32 ((bsk j (BitVec.ofNat 32 k)).toNat:Int)) (fun _ c=>8 - (intOf c).toNat)
   case atStart=>exact⟨0,by omega,rfl,ret_val (by simp [bsk];omega)⟩
   case round=>
    obtain⟨j,hj,rfl,rfl⟩:=hrel
    by_cases hlt2:(j:Int) < 8
    ·go_wp2_with fail
     go_round
     case rel=>
      exact⟨j+1,by omega,by go_num,ret_val (by rw [bs_val,bsk_next])⟩
     case measure=>simp [intOf];omega
    ·obtain rfl:j=8:=by omega
     obtain⟨v,hv⟩:∃ v,cur[k]?=some v:=⟨cur[k]'(by have:=hsz.out;omega),Array.getElem?_eq_getElem _⟩
     have hcell:wr.cell? ⟨w.heap.size,k,none⟩=some v:=by rw [cell_of_row wr _ k cur _ _ hg];exact hv
     have hfr:=frozen_of_row wr w.heap.size k cur _ hg
     clear hv
     have hg':=hide hg
     clear hg
     go_wp2_with fail
     go_roundw
     case rel=>
      refine⟨k+1,cur.setIfInBounds k (u32v (tb (BitVec.ofNat 32 k))),by omega,by go_num,heap_setCell_same wr _ _ cur _ _ (unhide hg'),hide (by rw [Array.size_setIfInBounds];exact hsz.out),hide (fun i hi=>?_),hbel.setCell (Nat.le_refl _) _⟩
      rw [Array.getElem?_setIfInBounds]
      by_cases e:k=i
      ·subst e
       rw [if_pos rfl,if_pos (by have:=hsz.out;omega)]
      ·rw [if_neg e]
       exact hcur.out i (by omega)
     case measure=>simp [intOf];omega
  ·have hk':k=256:=by omega
   have hcut:cur=tcells tb:=by
    apply Array.ext_getElem?
    intro i
    by_cases hi:i < 256
    ·rw [hcur.out i (by omega),tcells_get tb i hi]
    ·rw [Array.getElem?_eq_none (by rw [hsz.out];omega),Array.getElem?_eq_none (by rw [tcells_size];omega)]
   have hgt:wr.heap[w.heap.size]?=some (.cells (tcells tb) 165 (0,0)):=by rw [←hcut];exact hg
   clear hk' hcut hg hsz hcur
   go_wp2_with (first
    | (with_reducible refine wpList_load_row rfl 165 (.tmp 0) rfl w.heap.size rfl 165 (tcells tb) (0,0) (.array 256 44) hgt Tryz.underlying165 rfl (info_table tb) ?_)
    | (with_reducible refine wpList_store_row rfl 165 (.tmp 0) (.tmp 21) rfl w.heap.size (tcells tb) rfl rfl 165 (tcells tb) hgt (info_table tb) rfl (one_table tb) ?_))
   exact bodyPost_ret (results_cell_row rfl _ _ w.heap.size 165 (tcells tb) (0,0) (.array 256 44) rfl (setRow_heap _ _ _ _ _ _ hgt) Tryz.underlying165 rfl (info_table tb)) rfl ⟨rfl,below_setRow hbel (Nat.le_refl _) _⟩
/-- One round of the sum, in the walk's spelling. -/
theorem sum_round (T:B32→B32) (s:B32) (x:UInt8):∃ k:Nat,k < 256∧bits .xor .u8 ((s.toNat:Int) % 256) (x.toNat:Int)=(k:Int)∧
 (tcells T)[k]?=some (.int .u32 ((T (BitVec.ofNat 32 k)).toNat:Int))∧bits .xor .u32 ((T (BitVec.ofNat 32 k)).toNat:Int) ((s.toNat:Int) / 256)=((stp T s x).toNat:Int):=by
 have hx:=x.toNat_lt
 have hk:(s.toNat % 256) ^^^ x.toNat < 256:=Nat.xor_lt_two_pow (n:=8) (by omega) (by omega)
 have ek:(s &&& 255#32) ^^^ BitVec.ofNat 32 x.toNat=BitVec.ofNat 32 ((s.toNat % 256) ^^^ x.toNat):=by
  apply BitVec.eq_of_toNat_eq
  rw [BitVec.toNat_xor,BitVec.toNat_and,BitVec.toNat_ofNat,BitVec.toNat_ofNat,BitVec.toNat_ofNat,Nat.mod_eq_of_lt (show x.toNat < 2 ^ 32 by omega),Nat.mod_eq_of_lt (show (s.toNat % 256) ^^^ x.toNat < 2 ^ 32 by omega)]
  congr 1
  exact Nat.and_two_pow_sub_one_eq_mod s.toNat 8
 refine⟨(s.toNat % 256) ^^^ x.toNat,hk,?_,?_,?_⟩
 ·have e:(s.toNat:Int) % 256=((s.toNat % 256:Nat):Int):=by omega
  rw [e]
  exact u8_xor_nat _ _ (by omega) (by omega)
 ·rw [tcells_get T _ hk];rfl
 ·have e:(s.toNat:Int) / 256=((s.toNat / 256:Nat):Int):=by omega
  have hs:=s.isLt
  have ht:=(T (BitVec.ofNat 32 ((s.toNat % 256) ^^^ x.toNat))).isLt
  rw [e,u32_xor_nat _ _ (by omega) (by omega)]
  unfold stp
  rw [ek,BitVec.toNat_xor,BitVec.toNat_ushiftRight,Nat.shiftRight_eq_div_pow]
theorem run_snoc (T:B32→B32) (s:B32) (l:List UInt8) (k:Nat) (h:k < l.length):run T s (l.take (k+1))=stp T (run T s (l.take k)) l[k]:=by
 rw [List.take_succ_eq_append_getElem h,run_append]
 rfl
theorem not_val (s:B32):4294967295 - (s.toNat:Int)=((~~~ s).toNat:Int):=by
 rw [BitVec.toNat_not]
 have:=s.isLt
 omega
theorem flip_val (s:B32):bits .xor .u32 IntKind.u32.max (s.toNat:Int)=((~~~ s).toNat:Int):=by
 have hs:=s.isLt
 have e:IntKind.u32.max=((4294967295:Nat):Int):=by decide
 rw [e,u32_xor_nat _ _ (by omega) (by omega)]
 have: ~~~ s=ones ^^^ s:=by
  apply BitVec.eq_of_getLsbD_eq
  intro i hi'
  have ho:ones.getLsbD i=true:=by
   rw [show ones= ~~~ 0#32 by decide,BitVec.getLsbD_not,BitVec.getLsbD_zero]
   simp [hi']
  rw [BitVec.getLsbD_xor,BitVec.getLsbD_not,ho]
  simp [hi']
 rw [this,BitVec.toNat_xor]
 rfl
theorem sum_any (T:B32→B32) (A:Option Addr) (c:Nat) (l:List UInt8) (w:World) (hr:RB w w.heap.size A l) (hl:l.length < 1000000):
 Calls Tryz.prog 123 #[.agg (tcells T),.slice A l.length c] w fun e w'=>e= .returned (.int .u32 ((smT T l).toNat:Int))∧Below w.heap.size w w':=by
 go_enter Tryz.func123,Tryz.ntmps123
 go_wp2_with fail
 have hb:=(Below.refl w.heap.size w).alloc (Nat.le_refl _) (.cells (tcells T) 165)
 have hr':=hr.alloc (Nat.le_refl _) (.cells (tcells T) 165)
 have hg:=hide (heap_alloc_new w (.cells (tcells T) 165))
 clear hr
 generalize w.alloc (.cells (tcells T) 165)=W at hb hr' hg ⊢
 go_loop [5,10] (fun n i=>∃ (k:Nat),k≤l.length∧i= .int .i64 (k:Int)∧n= .int .u32 ((run T ones (l.take k)).toNat:Int)) (fun _ i=>l.length - (intOf i).toNat)
 case atStart=>exact⟨0,by omega,rfl,ret_val rfl⟩
 case round=>
  obtain⟨k,hk,rfl,rfl⟩:=hrel
  by_cases hlt:k < l.length
  ·obtain⟨b,off,rfl,hbb,hc⟩:=RB.cell hr' (by omega)
   have hck:=hc k hlt
   clear hc
   have hsn:=hide (run_snoc T ones l k hlt)
   generalize run T ones (l.take k)=s at hsn ⊢
   obtain⟨j,hj,e1,e2,e3⟩:=sum_round T s l[k]
   have hcj:W.cell? ⟨w.heap.size,j,none⟩=some (.int .u32 ((T (BitVec.ofNat 32 j)).toNat:Int)):=by rw [cell_of_row W _ j _ _ _ (unhide hg)];exact e2
   have hj':(j:Int) < 256:=by omega
   clear e2
   have e3':=hide e3
   clear e3
   go_wp2_with fail
   go_round
   case rel=>exact⟨k+1,by omega,by go_num,ret_val (by rw [e3'.out,hsn.out])⟩
   case measure=>simp [intOf];omega
  ·have hk':k=l.length:=by omega
   subst hk'
   rw [List.take_of_length_le (Nat.le_refl _)]
   go_wp2_with fail
   go_ret
   exact⟨ret_int (flip_val _),hb⟩
end Go.Proofs.YtmkpfdcnikgokaaGreat
