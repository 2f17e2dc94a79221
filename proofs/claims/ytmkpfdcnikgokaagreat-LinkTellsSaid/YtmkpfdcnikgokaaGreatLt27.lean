/-
  Texts of this claim, put together: PlaceRefMay, StepAppend, PlaceRefIds, OpRef. What each theorem asks stands in its statement.
-/
import Derived.Deep.RegionHeld3
import Derived.Test.YtmkpfdcnikgokaaGreatLt1
import Derived.Test.YtmkpfdcnikgokaaGreatLt6
import Derived.Test.YtmkpfdcnikgokaaGreatLt7
set_option linter.unusedVariables false
set_option linter.unusedSimpArgs false
set_option maxRecDepth 100000
set_option maxHeartbeats 25600000
namespace Go.Proofs.YtmkpfdcnikgokaaGreat
open Go.RowKit
theorem prefmay_any (A:Option Addr) (n c:Nat) (p:List Rn) (w:World) (hr:RR w w.heap.size A p) (hn:p.length=n) (hok:∀ x∈p,okR x):
 Calls Tryz.prog 158 #[.slice A n c] w fun e w'=>e= .returned (.bool (decide (mayR p)))∧Below w.heap.size w w':=by
 subst hn
 have Hok:=hide hok
 clear hok
 by_cases h1:(p.length:Int) < 1
 ·have hf:=hide (show decide (mayR p)=false from decide_eq_false (fun h=>by have:=h.1;omega))
  go_enter Tryz.func158,Tryz.ntmps158
  go_wp2_with fail
  go_ret
  exact⟨ret_bool hf.out.symm,Below.refl _ _⟩
 by_cases h2:(64:Int) < (p.length:Int)
 ·have hf:=hide (show decide (mayR p)=false from decide_eq_false (fun h=>by have:=h.2.1;omega))
  go_enter Tryz.func158,Tryz.ntmps158
  go_wp2_with fail
  go_ret
  exact⟨ret_bool hf.out.symm,Below.refl _ _⟩
 go_enter Tryz.func158,Tryz.ntmps158
 go_wp2_with fail
 go_loopw [3] (fun i wr=>∃ (k:Nat),k≤p.length∧i= .int .i64 (k:Int)∧Hid (chainR (p.take k))∧Below w.heap.size w wr) (fun i _=>p.length - (intOf i).toNat)
 case atStart=>exact⟨0,by omega,rfl,hide trivial,Below.refl _ _⟩
 case round=>
  obtain⟨k,hk,rfl,hch,hb⟩:=hrel
  by_cases hlt:k < p.length
  ·obtain⟨b0,o0,rfl,hB0,hC0⟩:=RR.cell (RD.below hr hb) (by omega)
   obtain⟨d0,d1,d2⟩:=hC0 k hlt
   have z0:(k:Int) < p.length:=by omega
   obtain⟨t,ht⟩:∃ t,t=p[k].1:=⟨_,rfl⟩
   obtain⟨r,hr'⟩:∃ r,r=p[k].2.1:=⟨_,rfl⟩
   obtain⟨m,hm⟩:∃ m,m=p[k].2.2:=⟨_,rfl⟩
   rw [←ht] at d0
   rw [←hr'] at d1
   rw [←hm] at d2
   have hel:p[k]=(t,r,m):=by rw [ht,hr',hm]
   have hokk:=Hok.out p[k] (List.getElem_mem hlt)
   rw [hel] at hokk
   have Hokk:=hide hokk
   have hchk:=take_chain hlt
   rw [hel] at hchk
   have Hchk:=hide hchk
   obtain⟨t0,t1,r0,r1,n0,n1⟩:=hokk
   simp only at t0 t1 r0 r1 n0 n1
   clear ht hr' hm hchk
   by_cases ho:oneR (t,r,m)
   ·have hd:=hide (decide_eq_true ho)
    have Ho:=hide ho
    clear ho
    by_cases hk0:k=0
    ·subst hk0
     have hch':=hide (Hchk.out.2 ⟨hch.out,Ho.out,fun h=>absurd h (by decide)⟩)
     clear hC0
     simp only [Nat.zero_mul,Nat.add_zero] at d0 d1 d2
     go_wp2_with fail
     refine (refone_any t r m _ Hokk.out).mono ?_
     rintro e w2 ⟨rfl,hb2⟩
     rw [hd.out]
     go_wp2_with fail
     go_quiet (fail)
     go_wp2_with fail
     go_roundw
     case rel=>exact⟨0+1,by omega,by go_num,hch',below_drewN (fresh hb hb2) _⟩
     case measure=>simp [intOf];omega
    ·obtain⟨x0,x1,x2⟩:=hC0 (k - 1) (by omega)
     obtain⟨a,ha⟩:∃ a,a=(p[k - 1]'(by omega)).1:=⟨_,rfl⟩
     obtain⟨b,hb'⟩:∃ b,b=(p[k - 1]'(by omega)).2.1:=⟨_,rfl⟩
     obtain⟨d,hd'⟩:∃ d,d=(p[k - 1]'(by omega)).2.2:=⟨_,rfl⟩
     rw [←ha] at x0
     rw [←hb'] at x1
     rw [←hd'] at x2
     have hel2:p[k - 1]'(by omega)=(a,b,d):=by rw [ha,hb',hd']
     have hmem:(p[k - 1]'(by omega))∈p.take k:=by
      have:=List.getElem_mem (l:=p.take k) (n:=k - 1) (by rw [List.length_take];omega)
      rwa [List.getElem_take] at this
     have hone2:=chainR_mem hch.out _ hmem
     rw [hel2] at hone2
     obtain⟨q1,q2,q3,q4,q5,q6⟩:=hone2
     simp only at q1 q2 q3 q4 q5 q6
     have hst:=hide (show (∀ h:0 < k,stepR (p[k - 1]'(by omega)) (t,r,m))↔(a+d - 1 < t∧¬ (r=b∧t=a+d - 1+1)) from⟨fun h=>by have:=h (by omega);rw [hel2] at this;exact this,fun h _=>by rw [hel2];exact h⟩)
     have E:=hide (fun w=>end_ok a b d w (by omega) q2 q4 q5)
     clear ha hb' hd' hmem hC0
     have z5:(0:Int) < k:=by omega
     have z9:0 < k:=by omega
     have z6:(0:Int)≤(k:Int) - 1:=by omega
     have z7:(k:Int) - 1 < p.length:=by omega
     have z8:((k:Int) - 1).toNat=k - 1:=by omega
     have z10:(1:Int)≤k:=by omega
     have z11:(k:Int)≤p.length:=by omega
     have zw:IntKind.i64.wrap ((k:Int) - 1)=(k:Int) - 1:=IntWalk.i64_in _ (by omega)
     go_wp2_with fail
     refine (refone_any t r m _ Hokk.out).mono ?_
     rintro e w2 ⟨rfl,hb2⟩
     rw [hd.out]
     have hb02:=fresh hb hb2
     have hB1:=Nat.lt_of_lt_of_le hB0 hb.size
     replace d0:=keep_cell hb2 hB1 d0
     replace d1:=keep_cell hb2 hB1 d1
     replace d2:=keep_cell hb2 hB1 d2
     replace x0:=keep_cell hb2 hB1 x0
     replace x1:=keep_cell hb2 hB1 x1
     replace x2:=keep_cell hb2 hB1 x2
     replace hB1:=Nat.lt_of_lt_of_le hB1 hb2.size
     have zw2:IntKind.i64.wrap (a+d - 1+1)=a+d - 1+1:=IntWalk.i64_in _ (by omega)
     have zw4:IntKind.i64.wrap t=t:=IntWalk.i64_in _ (by omega)
     have zw3:IntKind.i64.wrap (a+d)=a+d:=IntWalk.i64_in _ (by omega)
     have hsp:(t≤a+d - 1)∨(¬ t≤a+d - 1∧¬ r=b)∨(¬ t≤a+d - 1∧(r == b)=true∧(t == a+d)=false)∨(¬ t≤a+d - 1∧(r == b)=true∧(t == a+d)=true):=by
      simp only [beq_iff_eq,beq_eq_false_iff_ne,ne_eq]
      omega
     rcases hsp with s1 | ⟨s1,s2⟩ | ⟨s1,s2,s3⟩ | ⟨s1,s2,s3⟩
     ·skip
      have hf:=hide (show decide (mayR p)=false from decide_eq_false (fun h=>by have:=hst.out.1 (Hchk.out.1 (chain_take h.2.2.1 (k+1))).2.2;omega))
      go_wp2_with fail
      refine wp_region_wq (by kernel_rfl) (by kernel_rfl) ?_
      repeat (
       refine WQ.step (fun K hK=>?_)
       go_simp
       first
        | (refine hK _ ?_;clear hK K)
        | (apply Exists.intro
           refine⟨fun _=>?_,hK _ ?_⟩
           (go_at_call 184;with_reducible exact past_call (unhide E _))
           clear hK K))
      refine WQ.nil ?_
      intro u
      have hb3:=fresh hb02 (below_past w2 u)
      go_wp2_with fail
      go_ret
      exact⟨ret_bool hf.out.symm,hb3⟩
     ·skip
      have hch':=hide (Hchk.out.2 ⟨hch.out,Ho.out,hst.out.2 ⟨by omega,by omega⟩⟩)
      go_wp2_with fail
      refine wp_region_wq (by kernel_rfl) (by kernel_rfl) ?_
      repeat (
       refine WQ.step (fun K hK=>?_)
       go_simp
       first
        | (refine hK _ ?_;clear hK K)
        | (apply Exists.intro
           refine⟨fun _=>?_,hK _ ?_⟩
           (go_at_call 184;with_reducible exact past_call (unhide E _))
           clear hK K))
      refine WQ.nil ?_
      intro u
      have hb3:=fresh hb02 (below_past w2 u)
      go_wp2_with fail
      go_roundw
      case rel=>exact⟨k+1,by omega,by go_num,hch',hb3⟩
      case measure=>simp [intOf];omega
     ·have s4:¬ t=a+d:=by simpa using s3
      have hch':=hide (Hchk.out.2 ⟨hch.out,Ho.out,hst.out.2 ⟨by omega,by omega⟩⟩)
      go_wp2_with fail
      refine wp_region_wq (by kernel_rfl) (by kernel_rfl) ?_
      repeat (
       refine WQ.step (fun K hK=>?_)
       go_simp
       first
        | (refine hK _ ?_;clear hK K)
        | (apply Exists.intro
           refine⟨fun _=>?_,hK _ ?_⟩
           (go_at_call 184;with_reducible exact past_call (unhide E _))
           clear hK K))
      refine WQ.nil ?_
      intro u
      have hb3:=fresh hb02 (below_past w2 u)
      go_wp2_with fail
      go_roundw
      case rel=>exact⟨k+1,by omega,by go_num,hch',hb3⟩
      case measure=>simp [intOf];omega
     ·have s4:t=a+d:=by simpa using s3
      have s5:r=b:=by simpa using s2
      have hf:=hide (show decide (mayR p)=false from decide_eq_false (fun h=>by have:=hst.out.1 (Hchk.out.1 (chain_take h.2.2.1 (k+1))).2.2;omega))
      clear s4 s5
      go_wp2_with fail
      refine wp_region_wq (by kernel_rfl) (by kernel_rfl) ?_
      repeat (
       refine WQ.step (fun K hK=>?_)
       go_simp
       first
        | (refine hK _ ?_;clear hK K)
        | (apply Exists.intro
           refine⟨fun _=>?_,hK _ ?_⟩
           (go_at_call 184;with_reducible exact past_call (unhide E _))
           clear hK K))
      refine WQ.nil ?_
      intro u
      have hb3:=fresh hb02 (below_past w2 u)
      go_wp2_with fail
      go_ret
      exact⟨ret_bool hf.out.symm,hb3⟩
   ·have hd:=hide (decide_eq_false ho)
    have hf:=hide (show decide (mayR p)=false from decide_eq_false (fun h=>ho (Hchk.out.1 (chain_take h.2.2.1 (k+1))).2.1))
    clear ho hC0
    go_wp2_with fail
    refine (refone_any t r m _ Hokk.out).mono ?_
    rintro e w2 ⟨rfl,hb2⟩
    rw [hd.out]
    go_wp2_with fail
    go_ret
    exact⟨ret_bool hf.out.symm,fresh hb hb2⟩
  ·have hz:¬ (k:Int) < p.length:=by omega
   have hkp:p.take k=p:=List.take_of_length_le (by omega)
   rw [hkp] at hch
   have hd:=hide (show decide (mayR p)=decide (long p≤4096) from decide_eq_decide.2 ⟨fun h=>h.2.2.2,fun h=>⟨by omega,by omega,hch.out,h⟩⟩)
   clear hkp
   go_wp2_with fail
   refine (reflong_any A _ c p wr ((RD.below hr hb).more hb.size) rfl (by omega) (fun x hx=>⟨by have:=(chainR_mem hch.out x hx).2.2.2.1;omega,by have:=(chainR_mem hch.out x hx).2.2.2.2.1;omega⟩)).mono ?_
   rintro e w2 ⟨rfl,hb2⟩
   go_wp2_with fail
   go_ret
   exact⟨ret_bool hd.out.symm,fresh hb hb2⟩
/-- A slice that reads as xs, wherever it lies. -/
def RX (w:World) (size:Nat) (A:Option Addr) (n:Nat) (xs:List Value):Prop:=∃ B,B≤w.heap.size∧RD w B size A n xs
theorem reffinal_ok (A:Option Addr) (n c:Nat) (p:List Rn) (w:World) (hr:RR w w.heap.size A p) (hn:p.length=n) (hm:mayR p):
 Calls Tryz.prog 159 #[.slice A n c] w fun e w'=>e= .returned (.agg #[.int .u32 (lastR p).1,.int .u8 (lastR p).2])∧Below w.heap.size w w':=by
 subst hn
 have hlen:0 < p.length:=hm.1
 have hl64:p.length≤64:=hm.2.1
 obtain⟨b0,o0,rfl,hB0,hC0⟩:=RR.cell hr hlen
 obtain⟨d0,d1,d2⟩:=hC0 (p.length - 1) (by omega)
 clear hC0
 obtain⟨t,ht⟩:∃ t,t=(p[p.length - 1]'(by omega)).1:=⟨_,rfl⟩
 obtain⟨r,hr'⟩:∃ t,t=(p[p.length - 1]'(by omega)).2.1:=⟨_,rfl⟩
 obtain⟨m,hm'⟩:∃ t,t=(p[p.length - 1]'(by omega)).2.2:=⟨_,rfl⟩
 rw [←ht] at d0
 rw [←hr'] at d1
 rw [←hm'] at d2
 have hel:p[p.length - 1]'(by omega)=(t,r,m):=by rw [ht,hr',hm']
 have hone:=chainR_mem hm.2.2.1 _ (List.getElem_mem (h:=by omega):p[p.length - 1]'(by omega)∈p)
 rw [hel] at hone
 obtain⟨e1,e2,e3,e4,e5,e6⟩:=hone
 simp only at e1 e2 e3 e4 e5 e6
 have hfin:lastR p=(t+(m - 1),r):=by
  have hg:p.getLastD (0,0,0)=(t,r,m):=by
   rw [←hel,List.getLastD_eq_getLast?,List.getLast?_eq_getElem?,List.getElem?_eq_getElem (by omega)]
   rfl
  unfold lastR
  rw [if_pos hm,hg]
  simp only [rend]
  rw [show t+m - 1=t+(m - 1) by omega]
 rw [hfin]
 have z0:(0:Int)≤(p.length:Int) - 1:=by omega
 have z1:(p.length:Int) - 1 < p.length:=by omega
 have z2:((p.length:Int) - 1).toNat=p.length - 1:=by omega
 clear ht hr' hm' hel hm hfin
 go_enter Tryz.func159,Tryz.ntmps159
 go_wp2_with fail
 exact bodyPost_ret (v:= .agg #[.int .u32 (t+(m - 1)),.int .u8 r]) (by simp [results,Tryz.results159,go_sem]) rfl ⟨rfl,(boxed _ _).trans ((boxed _ _).mono (by simp))⟩
theorem refown_ok (k t r z:Int) (A:Option Addr) (n c:Nat) (w:World):
 Calls Tryz.prog 160 #[opv k t r A n c z] w fun e w'=>e= .returned (.bool (decide (k=1∨k=2)))∧Below w.heap.size w w':=by
 obtain⟨w1,hw1,c0,c1,c2,c3,c4,hs1,hb1⟩:=five_box w (.int .u8 k) (.int .u32 t) (.int .u8 r) (.slice A n c) (.int .i64 z) 104
 have hc:(k == 1)=true∨((k == 1)=false∧(k == 2)=true)∨((k == 1)=false∧(k == 2)=false):=by
  cases (k == 1) <;> cases (k == 2) <;> simp
 rcases hc with h | ⟨h,h2⟩ | ⟨h,h2⟩
 all_goals
  go_enter Tryz.func160,Tryz.ntmps160
  go_wp2_with fail
  go_ret
  exact⟨ret_bool (by simp_all),hb1⟩
theorem refis_ok (z:Int) (w:World):
 Calls Tryz.prog 161 #[.int .i64 z] w fun e w'=>e= .returned (.bool (decide (isPt z)))∧w'=w:=by
 have hc:(z < 0∧¬ isPt z)∨(0≤z∧¬ z≤1114111∧¬ isPt z)∨(0≤z∧z≤1114111∧z < 55296∧isPt z)∨(0≤z∧z≤1114111∧¬ z < 55296∧57343 < z∧isPt z)∨(0≤z∧z≤1114111∧¬ z < 55296∧¬ 57343 < z∧¬ isPt z):=by
  unfold isPt
  omega
 rcases hc with⟨h,hp⟩ | ⟨h,h2,hp⟩ | ⟨h,h2,h3,hp⟩ | ⟨h,h2,h3,h4,hp⟩ | ⟨h,h2,h3,h4,hp⟩
 all_goals
  have Hp:=hide hp
  clear hp
  go_enter Tryz.func161,Tryz.ntmps161
  go_wp2_with fail
  go_ret
  exact⟨ret_bool (by first | (rw [decide_eq_true Hp.out];done) | (rw [decide_eq_false Hp.out];done) | (rw [decide_eq_true Hp.out];simp;done) | (rw [decide_eq_false Hp.out];simp;done) | (rw [decide_eq_true Hp.out];simp;omega) | (rw [decide_eq_false Hp.out];simp;omega)),rfl⟩
theorem refmayo_any (k t r z:Int) (A:Option Addr) (n c:Nat) (p:List Rn) (w:World) (hr:RR w w.heap.size A p) (hn:p.length=n) (hok:∀ x∈p,okR x):
 Calls Tryz.prog 126 #[opv k t r A n c z] w fun e w'=>e= .returned (.bool (decide (mayO k t r p z)))∧Below w.heap.size w w':=by
 obtain⟨w1,hw1,c0,c1,c2,c3,c4,hs1,hb1⟩:=five_box w (.int .u8 k) (.int .u32 t) (.int .u8 r) (.slice A n c) (.int .i64 z) 104
 have hM:=hide (fun W h=>prefmay_any A n c p W h hn hok)
 by_cases h1:k < 1
 ·have hf:=hide (show decide (mayO k t r p z)=false from decide_eq_false fun h=>by have:=h.2.2;unfold rightO at this;omega)
  go_enter Tryz.func126,Tryz.ntmps126
  go_wp2_with fail
  go_ret
  exact⟨ret_bool hf.out.symm,hb1⟩
 by_cases h2:4 < k
 ·have hf:=hide (show decide (mayO k t r p z)=false from decide_eq_false fun h=>by have:=h.2.2;unfold rightO at this;omega)
  go_enter Tryz.func126,Tryz.ntmps126
  go_wp2_with fail
  go_ret
  exact⟨ret_bool hf.out.symm,hb1⟩
 by_cases h3:mayI t r
 ·have hd3:=hide (decide_eq_true h3)
  by_cases h4:mayR p
  ·rw [decide_eq_true h4] at hM
   have hF:=hide (fun W h=>reffinal_ok A n c p W h hn h4)
   have hmo:=hide (show decide (mayO k t r p z)=decide (rightO k t r p z) from decide_eq_decide.2 ⟨fun h=>h.2.2,fun h=>⟨h3,h4,h⟩⟩)
   obtain⟨lt,hlt⟩:∃ x,x=(lastR p).1:=⟨_,rfl⟩
   obtain⟨lr,hlr⟩:∃ x,x=(lastR p).2:=⟨_,rfl⟩
   have hpair:lastR p=(lt,lr):=by rw [hlt,hlr]
   rw [←hlt,←hlr] at hF
   have O1:=hide (fun W=>refown_ok k t r z A n c W)
   have hIs:=hide (fun W=>refis_ok z W)
   have hways:(k=1∧((lt == t)=false∨((lt == t)=true∧(lr == r)=false)))∨(k=2∧((lt == t)=false∨((lt == t)=true∧(lr == r)=false)))∨((k=1∧lt=t∧lr=r)∨(k=2∧lt=t∧lr=r))∨((k=3∨k=4)∧t≤lt)∨((k=3∨k=4)∧lt < t):=by
    simp only [beq_iff_eq,beq_eq_false_iff_ne,ne_eq]
    omega
   clear hlt hlr h3 h4 h1 h2
   rcases hways with⟨rfl,hg⟩ | ⟨rfl,hg⟩ | hg | ⟨hk,hg⟩ | ⟨hk,hg⟩
   ·have hf:=hide (show decide (mayO 1 t r p z)=false by
     rw [hmo.out]
     refine decide_eq_false fun h=>?_
     unfold rightO at h
     rw [hpair] at h
     simp only [beq_iff_eq,beq_eq_false_iff_ne,ne_eq] at hg
     simp at h
     omega)
    have hown:decide ((1:Int)=1∨(1:Int)=2)=true:=by decide
    clear hpair
    rcases hg with g1 | ⟨g1,g2⟩
    all_goals
     go_enter Tryz.func126,Tryz.ntmps126
     go_wp2_with fail
     refine (refmay_any _ _ _).mono ?_
     rintro e w2 ⟨rfl,hb2⟩
     rw [hd3.out]
     have hb02:=fresh hb1 hb2
     replace c0:=keep_cell hb2 hs1 c0
     replace c1:=keep_cell hb2 hs1 c1
     replace c2:=keep_cell hb2 hs1 c2
     replace c3:=keep_cell hb2 hs1 c3
     replace c4:=keep_cell hb2 hs1 c4
     replace hs1:=Nat.lt_of_lt_of_le hs1 hb2.size
     go_wp2_with fail
     refine (unhide hM w2 (hr.below' hb02)).mono ?_
     rintro e w3 ⟨rfl,hb3⟩
     have hb03:=fresh hb02 hb3
     replace c0:=keep_cell hb3 hs1 c0
     replace c1:=keep_cell hb3 hs1 c1
     replace c2:=keep_cell hb3 hs1 c2
     replace c3:=keep_cell hb3 hs1 c3
     replace c4:=keep_cell hb3 hs1 c4
     replace hs1:=Nat.lt_of_lt_of_le hs1 hb3.size
     go_wp2_with fail
     refine (unhide hF w3 (hr.below' hb03)).mono ?_
     rintro e w4 ⟨rfl,hb4⟩
     have hb04:=fresh hb03 hb4
     replace c0:=keep_cell hb4 hs1 c0
     replace c1:=keep_cell hb4 hs1 c1
     replace c2:=keep_cell hb4 hs1 c2
     replace c3:=keep_cell hb4 hs1 c3
     replace c4:=keep_cell hb4 hs1 c4
     replace hs1:=Nat.lt_of_lt_of_le hs1 hb4.size
     go_wp2_with fail
     obtain⟨w5,hw5,d0,d1,hs5,hb5⟩:=one_box w4 (.int .u32 lt) (.int .u8 lr) 46
     try rw [hw5]
     clear hw5
     have hb05:=fresh hb04 hb5
     replace c0:=keep_cell hb5 hs1 c0
     replace c1:=keep_cell hb5 hs1 c1
     replace c2:=keep_cell hb5 hs1 c2
     replace c3:=keep_cell hb5 hs1 c3
     replace c4:=keep_cell hb5 hs1 c4
     replace hs1:=Nat.lt_of_lt_of_le hs1 hb5.size
     refine (unhide O1 w5).mono ?_
     rintro e w6 ⟨rfl,hb6⟩
     rw [hown]
     have hb06:=fresh hb05 hb6
     replace c0:=keep_cell hb6 hs1 c0
     replace c1:=keep_cell hb6 hs1 c1
     replace c2:=keep_cell hb6 hs1 c2
     replace c3:=keep_cell hb6 hs1 c3
     replace c4:=keep_cell hb6 hs1 c4
     replace hs1:=Nat.lt_of_lt_of_le hs1 hb6.size
     replace d0:=keep_cell hb6 hs5 d0
     replace d1:=keep_cell hb6 hs5 d1
     replace hs5:=Nat.lt_of_lt_of_le hs5 hb6.size
     go_wp2_with fail
     go_ret
     exact⟨ret_bool hf.out.symm,hb06⟩
   ·have hf:=hide (show decide (mayO 2 t r p z)=false by
     rw [hmo.out]
     refine decide_eq_false fun h=>?_
     unfold rightO at h
     rw [hpair] at h
     simp only [beq_iff_eq,beq_eq_false_iff_ne,ne_eq] at hg
     simp at h
     omega)
    have hown:decide ((2:Int)=1∨(2:Int)=2)=true:=by decide
    clear hpair
    rcases hg with g1 | ⟨g1,g2⟩
    all_goals
     go_enter Tryz.func126,Tryz.ntmps126
     go_wp2_with fail
     refine (refmay_any _ _ _).mono ?_
     rintro e w2 ⟨rfl,hb2⟩
     rw [hd3.out]
     have hb02:=fresh hb1 hb2
     replace c0:=keep_cell hb2 hs1 c0
     replace c1:=keep_cell hb2 hs1 c1
     replace c2:=keep_cell hb2 hs1 c2
     replace c3:=keep_cell hb2 hs1 c3
     replace c4:=keep_cell hb2 hs1 c4
     replace hs1:=Nat.lt_of_lt_of_le hs1 hb2.size
     go_wp2_with fail
     refine (unhide hM w2 (hr.below' hb02)).mono ?_
     rintro e w3 ⟨rfl,hb3⟩
     have hb03:=fresh hb02 hb3
     replace c0:=keep_cell hb3 hs1 c0
     replace c1:=keep_cell hb3 hs1 c1
     replace c2:=keep_cell hb3 hs1 c2
     replace c3:=keep_cell hb3 hs1 c3
     replace c4:=keep_cell hb3 hs1 c4
     replace hs1:=Nat.lt_of_lt_of_le hs1 hb3.size
     go_wp2_with fail
     refine (unhide hF w3 (hr.below' hb03)).mono ?_
     rintro e w4 ⟨rfl,hb4⟩
     have hb04:=fresh hb03 hb4
     replace c0:=keep_cell hb4 hs1 c0
     replace c1:=keep_cell hb4 hs1 c1
     replace c2:=keep_cell hb4 hs1 c2
     replace c3:=keep_cell hb4 hs1 c3
     replace c4:=keep_cell hb4 hs1 c4
     replace hs1:=Nat.lt_of_lt_of_le hs1 hb4.size
     go_wp2_with fail
     obtain⟨w5,hw5,d0,d1,hs5,hb5⟩:=one_box w4 (.int .u32 lt) (.int .u8 lr) 46
     try rw [hw5]
     clear hw5
     have hb05:=fresh hb04 hb5
     replace c0:=keep_cell hb5 hs1 c0
     replace c1:=keep_cell hb5 hs1 c1
     replace c2:=keep_cell hb5 hs1 c2
     replace c3:=keep_cell hb5 hs1 c3
     replace c4:=keep_cell hb5 hs1 c4
     replace hs1:=Nat.lt_of_lt_of_le hs1 hb5.size
     refine (unhide O1 w5).mono ?_
     rintro e w6 ⟨rfl,hb6⟩
     rw [hown]
     have hb06:=fresh hb05 hb6
     replace c0:=keep_cell hb6 hs1 c0
     replace c1:=keep_cell hb6 hs1 c1
     replace c2:=keep_cell hb6 hs1 c2
     replace c3:=keep_cell hb6 hs1 c3
     replace c4:=keep_cell hb6 hs1 c4
     replace hs1:=Nat.lt_of_lt_of_le hs1 hb6.size
     replace d0:=keep_cell hb6 hs5 d0
     replace d1:=keep_cell hb6 hs5 d1
     replace hs5:=Nat.lt_of_lt_of_le hs5 hb6.size
     go_wp2_with fail
     go_ret
     exact⟨ret_bool hf.out.symm,hb06⟩
   ·rcases hg with⟨rfl,rfl,rfl⟩ | ⟨rfl,rfl,rfl⟩
    ·have hf:=hide (show decide (mayO 1 lt lr p z)=decide (isPt z) by
      rw [hmo.out]
      refine decide_eq_decide.2 ?_
      unfold rightO
      rw [hpair]
      simp)
     have hown:decide ((1:Int)=1∨(1:Int)=2)=true:=by decide
     clear hpair
     go_enter Tryz.func126,Tryz.ntmps126
     go_wp2_with fail
     refine (refmay_any _ _ _).mono ?_
     rintro e w2 ⟨rfl,hb2⟩
     rw [hd3.out]
     have hb02:=fresh hb1 hb2
     replace c0:=keep_cell hb2 hs1 c0
     replace c1:=keep_cell hb2 hs1 c1
     replace c2:=keep_cell hb2 hs1 c2
     replace c3:=keep_cell hb2 hs1 c3
     replace c4:=keep_cell hb2 hs1 c4
     replace hs1:=Nat.lt_of_lt_of_le hs1 hb2.size
     go_wp2_with fail
     refine (unhide hM w2 (hr.below' hb02)).mono ?_
     rintro e w3 ⟨rfl,hb3⟩
     have hb03:=fresh hb02 hb3
     replace c0:=keep_cell hb3 hs1 c0
     replace c1:=keep_cell hb3 hs1 c1
     replace c2:=keep_cell hb3 hs1 c2
     replace c3:=keep_cell hb3 hs1 c3
     replace c4:=keep_cell hb3 hs1 c4
     replace hs1:=Nat.lt_of_lt_of_le hs1 hb3.size
     go_wp2_with fail
     refine (unhide hF w3 (hr.below' hb03)).mono ?_
     rintro e w4 ⟨rfl,hb4⟩
     have hb04:=fresh hb03 hb4
     replace c0:=keep_cell hb4 hs1 c0
     replace c1:=keep_cell hb4 hs1 c1
     replace c2:=keep_cell hb4 hs1 c2
     replace c3:=keep_cell hb4 hs1 c3
     replace c4:=keep_cell hb4 hs1 c4
     replace hs1:=Nat.lt_of_lt_of_le hs1 hb4.size
     go_wp2_with fail
     obtain⟨w5,hw5,d0,d1,hs5,hb5⟩:=one_box w4 (.int .u32 lt) (.int .u8 lr) 46
     try rw [hw5]
     clear hw5
     have hb05:=fresh hb04 hb5
     replace c0:=keep_cell hb5 hs1 c0
     replace c1:=keep_cell hb5 hs1 c1
     replace c2:=keep_cell hb5 hs1 c2
     replace c3:=keep_cell hb5 hs1 c3
     replace c4:=keep_cell hb5 hs1 c4
     replace hs1:=Nat.lt_of_lt_of_le hs1 hb5.size
     refine (unhide O1 w5).mono ?_
     rintro e w6 ⟨rfl,hb6⟩
     rw [hown]
     have hb06:=fresh hb05 hb6
     replace c0:=keep_cell hb6 hs1 c0
     replace c1:=keep_cell hb6 hs1 c1
     replace c2:=keep_cell hb6 hs1 c2
     replace c3:=keep_cell hb6 hs1 c3
     replace c4:=keep_cell hb6 hs1 c4
     replace hs1:=Nat.lt_of_lt_of_le hs1 hb6.size
     replace d0:=keep_cell hb6 hs5 d0
     replace d1:=keep_cell hb6 hs5 d1
     replace hs5:=Nat.lt_of_lt_of_le hs5 hb6.size
     go_wp2_with fail
     refine (unhide O1 w6).mono ?_
     rintro e w7 ⟨rfl,hb7⟩
     rw [hown]
     have hb07:=fresh hb06 hb7
     replace c0:=keep_cell hb7 hs1 c0
     replace c1:=keep_cell hb7 hs1 c1
     replace c2:=keep_cell hb7 hs1 c2
     replace c3:=keep_cell hb7 hs1 c3
     replace c4:=keep_cell hb7 hs1 c4
     replace hs1:=Nat.lt_of_lt_of_le hs1 hb7.size
     replace d0:=keep_cell hb7 hs5 d0
     replace d1:=keep_cell hb7 hs5 d1
     replace hs5:=Nat.lt_of_lt_of_le hs5 hb7.size
     go_wp2_with fail
     refine (unhide hIs _).mono ?_
     rintro e w8 ⟨rfl,rfl⟩
     go_wp2_with fail
     go_ret
     exact⟨ret_bool hf.out.symm,hb07⟩
    ·have hf:=hide (show decide (mayO 2 lt lr p z)=decide (z=0) by
      rw [hmo.out]
      refine decide_eq_decide.2 ?_
      unfold rightO
      rw [hpair]
      simp)
     have hown:decide ((2:Int)=1∨(2:Int)=2)=true:=by decide
     clear hpair
     go_enter Tryz.func126,Tryz.ntmps126
     go_wp2_with fail
     refine (refmay_any _ _ _).mono ?_
     rintro e w2 ⟨rfl,hb2⟩
     rw [hd3.out]
     have hb02:=fresh hb1 hb2
     replace c0:=keep_cell hb2 hs1 c0
     replace c1:=keep_cell hb2 hs1 c1
     replace c2:=keep_cell hb2 hs1 c2
     replace c3:=keep_cell hb2 hs1 c3
     replace c4:=keep_cell hb2 hs1 c4
     replace hs1:=Nat.lt_of_lt_of_le hs1 hb2.size
     go_wp2_with fail
     refine (unhide hM w2 (hr.below' hb02)).mono ?_
     rintro e w3 ⟨rfl,hb3⟩
     have hb03:=fresh hb02 hb3
     replace c0:=keep_cell hb3 hs1 c0
     replace c1:=keep_cell hb3 hs1 c1
     replace c2:=keep_cell hb3 hs1 c2
     replace c3:=keep_cell hb3 hs1 c3
     replace c4:=keep_cell hb3 hs1 c4
     replace hs1:=Nat.lt_of_lt_of_le hs1 hb3.size
     go_wp2_with fail
     refine (unhide hF w3 (hr.below' hb03)).mono ?_
     rintro e w4 ⟨rfl,hb4⟩
     have hb04:=fresh hb03 hb4
     replace c0:=keep_cell hb4 hs1 c0
     replace c1:=keep_cell hb4 hs1 c1
     replace c2:=keep_cell hb4 hs1 c2
     replace c3:=keep_cell hb4 hs1 c3
     replace c4:=keep_cell hb4 hs1 c4
     replace hs1:=Nat.lt_of_lt_of_le hs1 hb4.size
     go_wp2_with fail
     obtain⟨w5,hw5,d0,d1,hs5,hb5⟩:=one_box w4 (.int .u32 lt) (.int .u8 lr) 46
     try rw [hw5]
     clear hw5
     have hb05:=fresh hb04 hb5
     replace c0:=keep_cell hb5 hs1 c0
     replace c1:=keep_cell hb5 hs1 c1
     replace c2:=keep_cell hb5 hs1 c2
     replace c3:=keep_cell hb5 hs1 c3
     replace c4:=keep_cell hb5 hs1 c4
     replace hs1:=Nat.lt_of_lt_of_le hs1 hb5.size
     refine (unhide O1 w5).mono ?_
     rintro e w6 ⟨rfl,hb6⟩
     rw [hown]
     have hb06:=fresh hb05 hb6
     replace c0:=keep_cell hb6 hs1 c0
     replace c1:=keep_cell hb6 hs1 c1
     replace c2:=keep_cell hb6 hs1 c2
     replace c3:=keep_cell hb6 hs1 c3
     replace c4:=keep_cell hb6 hs1 c4
     replace hs1:=Nat.lt_of_lt_of_le hs1 hb6.size
     replace d0:=keep_cell hb6 hs5 d0
     replace d1:=keep_cell hb6 hs5 d1
     replace hs5:=Nat.lt_of_lt_of_le hs5 hb6.size
     go_wp2_with fail
     refine (unhide O1 w6).mono ?_
     rintro e w7 ⟨rfl,hb7⟩
     rw [hown]
     have hb07:=fresh hb06 hb7
     replace c0:=keep_cell hb7 hs1 c0
     replace c1:=keep_cell hb7 hs1 c1
     replace c2:=keep_cell hb7 hs1 c2
     replace c3:=keep_cell hb7 hs1 c3
     replace c4:=keep_cell hb7 hs1 c4
     replace hs1:=Nat.lt_of_lt_of_le hs1 hb7.size
     replace d0:=keep_cell hb7 hs5 d0
     replace d1:=keep_cell hb7 hs5 d1
     replace hs5:=Nat.lt_of_lt_of_le hs5 hb7.size
     go_wp2_with fail
     go_ret
     exact⟨ret_bool (by first | exact hf.out.symm | (rw [hf.out];first | rfl | simp | (exact (beq_eq_decide ..)))),hb07⟩
   ·have hf:=hide (show decide (mayO k t r p z)=false by
     rw [hmo.out]
     refine decide_eq_false fun h=>?_
     unfold rightO at h
     rw [hpair] at h
     simp only at h
     omega)
    have hown:decide (k=1∨k=2)=false:=decide_eq_false (by omega)
    clear hpair
    rcases hk with rfl | rfl
    all_goals
     go_enter Tryz.func126,Tryz.ntmps126
     go_wp2_with fail
     refine (refmay_any _ _ _).mono ?_
     rintro e w2 ⟨rfl,hb2⟩
     rw [hd3.out]
     have hb02:=fresh hb1 hb2
     replace c0:=keep_cell hb2 hs1 c0
     replace c1:=keep_cell hb2 hs1 c1
     replace c2:=keep_cell hb2 hs1 c2
     replace c3:=keep_cell hb2 hs1 c3
     replace c4:=keep_cell hb2 hs1 c4
     replace hs1:=Nat.lt_of_lt_of_le hs1 hb2.size
     go_wp2_with fail
     refine (unhide hM w2 (hr.below' hb02)).mono ?_
     rintro e w3 ⟨rfl,hb3⟩
     have hb03:=fresh hb02 hb3
     replace c0:=keep_cell hb3 hs1 c0
     replace c1:=keep_cell hb3 hs1 c1
     replace c2:=keep_cell hb3 hs1 c2
     replace c3:=keep_cell hb3 hs1 c3
     replace c4:=keep_cell hb3 hs1 c4
     replace hs1:=Nat.lt_of_lt_of_le hs1 hb3.size
     go_wp2_with fail
     refine (unhide hF w3 (hr.below' hb03)).mono ?_
     rintro e w4 ⟨rfl,hb4⟩
     have hb04:=fresh hb03 hb4
     replace c0:=keep_cell hb4 hs1 c0
     replace c1:=keep_cell hb4 hs1 c1
     replace c2:=keep_cell hb4 hs1 c2
     replace c3:=keep_cell hb4 hs1 c3
     replace c4:=keep_cell hb4 hs1 c4
     replace hs1:=Nat.lt_of_lt_of_le hs1 hb4.size
     go_wp2_with fail
     obtain⟨w5,hw5,d0,d1,hs5,hb5⟩:=one_box w4 (.int .u32 lt) (.int .u8 lr) 46
     try rw [hw5]
     clear hw5
     have hb05:=fresh hb04 hb5
     replace c0:=keep_cell hb5 hs1 c0
     replace c1:=keep_cell hb5 hs1 c1
     replace c2:=keep_cell hb5 hs1 c2
     replace c3:=keep_cell hb5 hs1 c3
     replace c4:=keep_cell hb5 hs1 c4
     replace hs1:=Nat.lt_of_lt_of_le hs1 hb5.size
     refine (unhide O1 w5).mono ?_
     rintro e w6 ⟨rfl,hb6⟩
     rw [hown]
     have hb06:=fresh hb05 hb6
     replace c0:=keep_cell hb6 hs1 c0
     replace c1:=keep_cell hb6 hs1 c1
     replace c2:=keep_cell hb6 hs1 c2
     replace c3:=keep_cell hb6 hs1 c3
     replace c4:=keep_cell hb6 hs1 c4
     replace hs1:=Nat.lt_of_lt_of_le hs1 hb6.size
     replace d0:=keep_cell hb6 hs5 d0
     replace d1:=keep_cell hb6 hs5 d1
     replace hs5:=Nat.lt_of_lt_of_le hs5 hb6.size
     go_wp2_with fail
     refine (unhide O1 w6).mono ?_
     rintro e w7 ⟨rfl,hb7⟩
     rw [hown]
     have hb07:=fresh hb06 hb7
     replace c0:=keep_cell hb7 hs1 c0
     replace c1:=keep_cell hb7 hs1 c1
     replace c2:=keep_cell hb7 hs1 c2
     replace c3:=keep_cell hb7 hs1 c3
     replace c4:=keep_cell hb7 hs1 c4
     replace hs1:=Nat.lt_of_lt_of_le hs1 hb7.size
     replace d0:=keep_cell hb7 hs5 d0
     replace d1:=keep_cell hb7 hs5 d1
     replace hs5:=Nat.lt_of_lt_of_le hs5 hb7.size
     go_wp2_with fail
     go_ret
     exact⟨ret_bool hf.out.symm,hb07⟩
   ·have hf:=hide (show decide (mayO k t r p z)=decide (z=0) by
     rw [hmo.out]
     refine decide_eq_decide.2 ?_
     unfold rightO
     rw [hpair]
     simp only
     omega)
    have hown:decide (k=1∨k=2)=false:=decide_eq_false (by omega)
    clear hpair
    rcases hk with rfl | rfl
    all_goals
     go_enter Tryz.func126,Tryz.ntmps126
     go_wp2_with fail
     refine (refmay_any _ _ _).mono ?_
     rintro e w2 ⟨rfl,hb2⟩
     rw [hd3.out]
     have hb02:=fresh hb1 hb2
     replace c0:=keep_cell hb2 hs1 c0
     replace c1:=keep_cell hb2 hs1 c1
     replace c2:=keep_cell hb2 hs1 c2
     replace c3:=keep_cell hb2 hs1 c3
     replace c4:=keep_cell hb2 hs1 c4
     replace hs1:=Nat.lt_of_lt_of_le hs1 hb2.size
     go_wp2_with fail
     refine (unhide hM w2 (hr.below' hb02)).mono ?_
     rintro e w3 ⟨rfl,hb3⟩
     have hb03:=fresh hb02 hb3
     replace c0:=keep_cell hb3 hs1 c0
     replace c1:=keep_cell hb3 hs1 c1
     replace c2:=keep_cell hb3 hs1 c2
     replace c3:=keep_cell hb3 hs1 c3
     replace c4:=keep_cell hb3 hs1 c4
     replace hs1:=Nat.lt_of_lt_of_le hs1 hb3.size
     go_wp2_with fail
     refine (unhide hF w3 (hr.below' hb03)).mono ?_
     rintro e w4 ⟨rfl,hb4⟩
     have hb04:=fresh hb03 hb4
     replace c0:=keep_cell hb4 hs1 c0
     replace c1:=keep_cell hb4 hs1 c1
     replace c2:=keep_cell hb4 hs1 c2
     replace c3:=keep_cell hb4 hs1 c3
     replace c4:=keep_cell hb4 hs1 c4
     replace hs1:=Nat.lt_of_lt_of_le hs1 hb4.size
     go_wp2_with fail
     obtain⟨w5,hw5,d0,d1,hs5,hb5⟩:=one_box w4 (.int .u32 lt) (.int .u8 lr) 46
     try rw [hw5]
     clear hw5
     have hb05:=fresh hb04 hb5
     replace c0:=keep_cell hb5 hs1 c0
     replace c1:=keep_cell hb5 hs1 c1
     replace c2:=keep_cell hb5 hs1 c2
     replace c3:=keep_cell hb5 hs1 c3
     replace c4:=keep_cell hb5 hs1 c4
     replace hs1:=Nat.lt_of_lt_of_le hs1 hb5.size
     refine (unhide O1 w5).mono ?_
     rintro e w6 ⟨rfl,hb6⟩
     rw [hown]
     have hb06:=fresh hb05 hb6
     replace c0:=keep_cell hb6 hs1 c0
     replace c1:=keep_cell hb6 hs1 c1
     replace c2:=keep_cell hb6 hs1 c2
     replace c3:=keep_cell hb6 hs1 c3
     replace c4:=keep_cell hb6 hs1 c4
     replace hs1:=Nat.lt_of_lt_of_le hs1 hb6.size
     replace d0:=keep_cell hb6 hs5 d0
     replace d1:=keep_cell hb6 hs5 d1
     replace hs5:=Nat.lt_of_lt_of_le hs5 hb6.size
     go_wp2_with fail
     refine (unhide O1 w6).mono ?_
     rintro e w7 ⟨rfl,hb7⟩
     rw [hown]
     have hb07:=fresh hb06 hb7
     replace c0:=keep_cell hb7 hs1 c0
     replace c1:=keep_cell hb7 hs1 c1
     replace c2:=keep_cell hb7 hs1 c2
     replace c3:=keep_cell hb7 hs1 c3
     replace c4:=keep_cell hb7 hs1 c4
     replace hs1:=Nat.lt_of_lt_of_le hs1 hb7.size
     replace d0:=keep_cell hb7 hs5 d0
     replace d1:=keep_cell hb7 hs5 d1
     replace hs5:=Nat.lt_of_lt_of_le hs5 hb7.size
     go_wp2_with fail
     go_ret
     exact⟨ret_bool (by first | exact hf.out.symm | (rw [hf.out];first | rfl | simp | (exact (beq_eq_decide ..)))),hb07⟩
  ·rw [decide_eq_false h4] at hM
   have hf:=hide (show decide (mayO k t r p z)=false from decide_eq_false fun h=>h4 h.2.1)
   clear h3 h4
   go_enter Tryz.func126,Tryz.ntmps126
   go_wp2_with fail
   refine (refmay_any _ _ _).mono ?_
   rintro e w2 ⟨rfl,hb2⟩
   rw [hd3.out]
   have hb02:=fresh hb1 hb2
   replace c0:=keep_cell hb2 hs1 c0
   replace c1:=keep_cell hb2 hs1 c1
   replace c2:=keep_cell hb2 hs1 c2
   replace c3:=keep_cell hb2 hs1 c3
   replace c4:=keep_cell hb2 hs1 c4
   replace hs1:=Nat.lt_of_lt_of_le hs1 hb2.size
   go_wp2_with fail
   refine (unhide hM w2 (hr.below' hb02)).mono ?_
   rintro e w3 ⟨rfl,hb3⟩
   go_wp2_with fail
   go_ret
   exact⟨ret_bool hf.out.symm,fresh hb02 hb3⟩
 ·have hd3:=hide (decide_eq_false h3)
  have hf:=hide (show decide (mayO k t r p z)=false from decide_eq_false fun h=>h3 h.1)
  clear h3
  go_enter Tryz.func126,Tryz.ntmps126
  go_wp2_with fail
  refine (refmay_any _ _ _).mono ?_
  rintro e w2 ⟨rfl,hb2⟩
  rw [hd3.out]
  have hb02:=fresh hb1 hb2
  replace c0:=keep_cell hb2 hs1 c0
  replace c1:=keep_cell hb2 hs1 c1
  replace c2:=keep_cell hb2 hs1 c2
  replace c3:=keep_cell hb2 hs1 c3
  replace c4:=keep_cell hb2 hs1 c4
  replace hs1:=Nat.lt_of_lt_of_le hs1 hb2.size
  go_wp2_with fail
  go_ret
  exact⟨ret_bool hf.out.symm,hb02⟩
end Go.Proofs.YtmkpfdcnikgokaaGreat
