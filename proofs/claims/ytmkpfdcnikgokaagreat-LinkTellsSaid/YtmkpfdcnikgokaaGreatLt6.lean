/-
  Texts of this claim, put together: PlaceSlices, PlaceUnder, PlaceRef. What each theorem asks stands in its statement.
-/
import Derived.Deep.RegionHeld3
import Derived.Deep.DeepCutAuto
import Derived.IntWalk
import Derived.Test.YtmkpfdcnikgokaaGreatLt1
import Derived.Test.YtmkpfdcnikgokaaGreatLt5
set_option linter.unusedVariables false
set_option linter.unusedSimpArgs false
set_option maxRecDepth 100000
set_option maxHeartbeats 25600000
namespace Go.Proofs.YtmkpfdcnikgokaaGreat
open Go.RowKit
theorem rinfo:(Tryz.prog.info? 120).map (fun i=>(i.zero,i.size,i.bytes))=some (some (.agg #[.int .u32 0,.int .u8 0,.int .i64 0]),3,16):=by kernel_rfl
/-- octavoref06.Same: the same runs. -/
theorem refsame_any (A B:Option Addr) (c d n k:Nat) (l m:List Rn) (w:World) (hr:RR w w.heap.size A l) (hs:RR w w.heap.size B m) (hn:l.length=n) (hk:m.length=k) (hl:n < 1073741824) (hm:k < 1073741824):
 Calls Tryz.prog 144 #[.slice A n c,.slice B k d] w fun e w'=>e= .returned (.bool (decide (l=m)))∧Below w.heap.size w w':=by
 subst hn hk
 by_cases hne:(l.length:Int)=(m.length:Int)
 ·have hll:l.length=m.length:=by omega
  have E:=hide hll
  have hbe:((l.length:Int) == (m.length:Int))=true:=by simpa using hne
  have hbn:((l.length:Int) != (m.length:Int))=false:=by simpa using hne
  clear hne
  go_enter Tryz.func144,Tryz.ntmps144
  clear hll
  go_wp2_with fail
  go_loopw [5] (fun i wr=>∃ k:Nat,k≤l.length∧i= .int .i64 (k:Int)∧Hid (l.take k=m.take k)∧Below w.heap.size w wr) (fun i _=>l.length - (intOf i).toNat)
  case atStart=>exact⟨0,by omega,rfl,hide rfl,Below.refl _ _⟩
  case round=>
   obtain⟨k,hk,rfl,hT,hb⟩:=hrel
   by_cases hlt:k < l.length
   ·have hltm:k < m.length:=by have:=E.out;omega
    obtain⟨b0,o0,rfl,hB0,hC0⟩:=RR.cell (RD.below hr hb) (by omega)
    obtain⟨b1,o1,rfl,hB1,hC1⟩:=RR.cell (RD.below hs hb) (by omega)
    obtain⟨d0,d1,d2⟩:=hC0 k hlt
    obtain⟨e0,e1,e2⟩:=hC1 k hltm
    clear hC0 hC1
    have z0:(k:Int) < l.length:=by omega
    have z1:(k:Int) < m.length:=by omega
    have z4:(0:Int)≤k:=by omega
    obtain⟨x0,hx0⟩:∃ x,x=l[k].1:=⟨_,rfl⟩
    obtain⟨x1,hx1⟩:∃ x,x=l[k].2.1:=⟨_,rfl⟩
    obtain⟨x2,hx2⟩:∃ x,x=l[k].2.2:=⟨_,rfl⟩
    obtain⟨y0,hy0⟩:∃ x,x=m[k].1:=⟨_,rfl⟩
    obtain⟨y1,hy1⟩:∃ x,x=m[k].2.1:=⟨_,rfl⟩
    obtain⟨y2,hy2⟩:∃ x,x=m[k].2.2:=⟨_,rfl⟩
    rw [←hx0] at d0
    rw [←hx1] at d1
    rw [←hx2] at d2
    rw [←hy0] at e0
    rw [←hy1] at e1
    rw [←hy2] at e2
    have hX:=hide (show l[k]=(x0,x1,x2) by rw [hx0,hx1,hx2])
    have hY:=hide (show m[k]=(y0,y1,y2) by rw [hy0,hy1,hy2])
    clear hx0 hx1 hx2 hy0 hy1 hy2
    by_cases hxy:x0=y0∧x1=y1∧x2=y2
    ·obtain⟨rfl,rfl,rfl⟩:=hxy
     go_wp2_with fail
     go_quiet (fail)
     go_wp2_with fail
     go_roundw
     case rel=>
      refine⟨k+1,by omega,by go_num,hide ?_,below_drewN hb _⟩
      rw [List.take_succ_eq_append_getElem hlt,List.take_succ_eq_append_getElem hltm,hT.out,hX.out,hY.out]
     case measure=>simp [intOf];omega
    ·have hcs:(¬ x0=y0)∨(x0=y0∧¬ x1=y1)∨(x0=y0∧x1=y1∧¬ x2=y2):=by
      by_cases h0:x0=y0
      ·by_cases h1:x1=y1
       ·exact .inr (.inr ⟨h0,h1,fun h2=>hxy ⟨h0,h1,h2⟩⟩)
       ·exact .inr (.inl ⟨h0,h1⟩)
      ·exact .inl h0
     have hf:=hide (show decide (l=m)=false by
      rw [decide_eq_false_iff_not]
      intro e
      subst e
      have:=hX.out.symm.trans hY.out
      simp only [Prod.mk.injEq] at this
      exact hxy this)
     clear hxy
     rcases hcs with h0 | ⟨rfl,h1⟩ | ⟨rfl,rfl,h2⟩
     all_goals
      go_wp2_with fail
      go_quiet (fail)
      go_wp2_with fail
      go_ret
      exact⟨ret_bool hf.out.symm,below_drewN hb _⟩
   ·have hkl:¬ (k:Int) < l.length:=by omega
    have fin:=hide (show decide (l=m)=true by
     have h1:=hT.out
     rw [List.take_of_length_le (by omega),List.take_of_length_le (by have:=E.out;omega)] at h1
     exact decide_eq_true h1)
    go_wp2_with fail
    go_ret
    exact⟨ret_bool fin.out.symm,hb⟩
 ·have hbe:((l.length:Int) == (m.length:Int))=false:=by simpa using hne
  have hbn:((l.length:Int) != (m.length:Int))=true:=by simpa using hne
  have fin:=hide (show decide (l=m)=false by
   rw [decide_eq_false_iff_not]
   intro e
   exact hne (by rw [e]))
  clear hne
  go_enter Tryz.func144,Tryz.ntmps144
  go_wp2_with fail
  go_ret
  exact⟨ret_bool fin.out.symm,Below.refl _ _⟩
/-- slices.Equal: the same runs. -/
theorem requal_any (A B:Option Addr) (c d n k:Nat) (l m:List Rn) (w:World) (hr:RR w w.heap.size A l) (hs:RR w w.heap.size B m) (hn:l.length=n) (hk:m.length=k) (hl:n < 1073741824) (hm:k < 1073741824):
 Calls Tryz.prog 155 #[.slice A n c,.slice B k d] w fun e w'=>e= .returned (.bool (decide (l=m)))∧Below w.heap.size w w':=by
 subst hn hk
 by_cases hne:(l.length:Int)=(m.length:Int)
 ·have hll:l.length=m.length:=by omega
  have E:=hide hll
  have hbe:((l.length:Int) == (m.length:Int))=true:=by simpa using hne
  have hbn:((l.length:Int) != (m.length:Int))=false:=by simpa using hne
  clear hne
  go_enter Tryz.func155,Tryz.ntmps155
  clear hll
  go_wp2_with fail
  go_loopw [13] (fun i wr=>∃ k:Nat,k≤l.length∧i= .int .i64 (k:Int)∧Hid (l.take k=m.take k)∧Below w.heap.size w wr) (fun i _=>l.length - (intOf i).toNat)
  case atStart=>exact⟨0,by omega,rfl,hide rfl,Below.refl _ _⟩
  case round=>
   obtain⟨k,hk,rfl,hT,hb⟩:=hrel
   by_cases hlt:k < l.length
   ·have hltm:k < m.length:=by have:=E.out;omega
    obtain⟨b0,o0,rfl,hB0,hC0⟩:=RR.cell (RD.below hr hb) (by omega)
    obtain⟨b1,o1,rfl,hB1,hC1⟩:=RR.cell (RD.below hs hb) (by omega)
    obtain⟨d0,d1,d2⟩:=hC0 k hlt
    obtain⟨e0,e1,e2⟩:=hC1 k hltm
    clear hC0 hC1
    have z0:(k:Int) < l.length:=by omega
    have z1:(k:Int) < m.length:=by omega
    have z4:(0:Int)≤k:=by omega
    obtain⟨x0,hx0⟩:∃ x,x=l[k].1:=⟨_,rfl⟩
    obtain⟨x1,hx1⟩:∃ x,x=l[k].2.1:=⟨_,rfl⟩
    obtain⟨x2,hx2⟩:∃ x,x=l[k].2.2:=⟨_,rfl⟩
    obtain⟨y0,hy0⟩:∃ x,x=m[k].1:=⟨_,rfl⟩
    obtain⟨y1,hy1⟩:∃ x,x=m[k].2.1:=⟨_,rfl⟩
    obtain⟨y2,hy2⟩:∃ x,x=m[k].2.2:=⟨_,rfl⟩
    rw [←hx0] at d0
    rw [←hx1] at d1
    rw [←hx2] at d2
    rw [←hy0] at e0
    rw [←hy1] at e1
    rw [←hy2] at e2
    have hX:=hide (show l[k]=(x0,x1,x2) by rw [hx0,hx1,hx2])
    have hY:=hide (show m[k]=(y0,y1,y2) by rw [hy0,hy1,hy2])
    clear hx0 hx1 hx2 hy0 hy1 hy2
    by_cases hxy:x0=y0∧x1=y1∧x2=y2
    ·obtain⟨rfl,rfl,rfl⟩:=hxy
     go_wp2_with fail
     go_quiet (fail)
     go_wp2_with fail
     go_roundw
     case rel=>
      refine⟨k+1,by omega,by go_num,hide ?_,below_drewN hb _⟩
      rw [List.take_succ_eq_append_getElem hlt,List.take_succ_eq_append_getElem hltm,hT.out,hX.out,hY.out]
     case measure=>simp [intOf];omega
    ·have hcs:(¬ x0=y0)∨(x0=y0∧¬ x1=y1)∨(x0=y0∧x1=y1∧¬ x2=y2):=by
      by_cases h0:x0=y0
      ·by_cases h1:x1=y1
       ·exact .inr (.inr ⟨h0,h1,fun h2=>hxy ⟨h0,h1,h2⟩⟩)
       ·exact .inr (.inl ⟨h0,h1⟩)
      ·exact .inl h0
     have hf:=hide (show decide (l=m)=false by
      rw [decide_eq_false_iff_not]
      intro e
      subst e
      have:=hX.out.symm.trans hY.out
      simp only [Prod.mk.injEq] at this
      exact hxy this)
     clear hxy
     rcases hcs with h0 | ⟨rfl,h1⟩ | ⟨rfl,rfl,h2⟩
     all_goals
      go_wp2_with fail
      go_quiet (fail)
      go_wp2_with fail
      go_ret
      exact⟨ret_bool hf.out.symm,below_drewN hb _⟩
   ·have hkl:¬ (k:Int) < l.length:=by omega
    have fin:=hide (show decide (l=m)=true by
     have h1:=hT.out
     rw [List.take_of_length_le (by omega),List.take_of_length_le (by have:=E.out;omega)] at h1
     exact decide_eq_true h1)
    go_wp2_with fail
    go_ret
    exact⟨ret_bool fin.out.symm,hb⟩
 ·have hbe:((l.length:Int) == (m.length:Int))=false:=by simpa using hne
  have hbn:((l.length:Int) != (m.length:Int))=true:=by simpa using hne
  have fin:=hide (show decide (l=m)=false by
   rw [decide_eq_false_iff_not]
   intro e
   exact hne (by rw [e]))
  clear hne
  go_enter Tryz.func155,Tryz.ntmps155
  go_wp2_with fail
  go_ret
  exact⟨ret_bool fin.out.symm,Below.refl _ _⟩
theorem psame_any (A B:Option Addr) (c d n k:Nat) (l m:List Rn) (w:World) (hr:RR w w.heap.size A l) (hs:RR w w.heap.size B m) (hn:l.length=n) (hk:m.length=k) (hl:n < 1073741824) (hm:k < 1073741824):
 Calls Tryz.prog 117 #[.slice A n c,.slice B k d] w fun e w'=>e= .returned (.bool (decide (l=m)))∧Below w.heap.size w w':=by
 have C:=hide (requal_any A B c d n k l m w hr hs hn hk hl hm)
 clear hn hk
 go_enter Tryz.func117,Tryz.ntmps117
 go_wp2_with fail
 refine (unhide C).mono ?_
 rintro e w1 ⟨rfl,hb1⟩
 go_wp2_with fail
 go_ret
 exact⟨rfl,hb1⟩
/-- What Last answers. -/
def lastR (p:List Rn):Id2:=if mayR p then (rend (p.getLastD (0,0,0)),(p.getLastD (0,0,0)).2.1) else (0,0)
theorem lastR_no {p:List Rn} (h:¬ mayR p):lastR p=(0,0):=if_neg h
theorem plast_any (A:Option Addr) (n c:Nat) (p:List Rn) (w:World) (hr:RR w w.heap.size A p) (hn:p.length=n) (hl:n < 1073741824) (hok:∀ x∈p,okR x):
 Calls Tryz.prog 167 #[.slice A n c] w fun e w'=>e= .returned (.agg #[.int .u32 (lastR p).1,.int .u8 (lastR p).2])∧Below w.heap.size w w':=by
 subst hn
 have Hok:=hide hok
 clear hok
 by_cases hm:mayR p
 ·have hc:=hide (show chkR p=0 from if_pos hm)
  have hlen:0 < p.length:=hm.1
  obtain⟨b0,o0,rfl,hB0,hC0⟩:=RR.cell hr hlen
  obtain⟨d0,d1,d2⟩:=hC0 (p.length - 1) (by omega)
  clear hC0
  obtain⟨t,ht⟩:∃ t,t=(p[p.length - 1]'(by omega)).1:=⟨_,rfl⟩
  obtain⟨r,hr'⟩:∃ t,t=(p[p.length - 1]'(by omega)).2.1:=⟨_,rfl⟩
  obtain⟨m,hm'⟩:∃ t,t=(p[p.length - 1]'(by omega)).2.2:=⟨_,rfl⟩
  rw [←ht] at d0
  rw [←hr'] at d1
  rw [←hm'] at d2
  have hel:p[p.length - 1]'(by omega)=(t,r,m):=by rw [ht,hr',hm']
  have hone:=chainR_mem hm.2.2.1 _ (List.getElem_mem (h:=by omega):p[p.length - 1]'(by omega)∈p)
  rw [hel] at hone
  obtain⟨e1,e2,e3,e4,e5,e6⟩:=hone
  simp only at e1 e2 e3 e4 e5 e6
  have hfin:=hide (show lastR p=(t+m - 1,r) by
   have hg:p.getLastD (0,0,0)=(t,r,m):=by
    rw [←hel,List.getLastD_eq_getLast?,List.getLast?_eq_getElem?,List.getElem?_eq_getElem (by omega)]
    rfl
   unfold lastR
   rw [if_pos hm,hg]
   rfl)
  have z0:(0:Int)≤(p.length:Int) - 1:=by omega
  have z1:(p.length:Int) - 1 < p.length:=by omega
  have z2:((p.length:Int) - 1).toNat=p.length - 1:=by omega
  clear ht hr' hm' hel hm
  go_enter Tryz.func167,Tryz.ntmps167
  go_wp2_with fail
  have hb1:=boxed w (.cells #[.int .u32 0,.int .u8 0] 46)
  have hr1:RR (w.alloc (.cells #[.int .u32 0,.int .u8 0] 46)) (w.alloc (.cells #[.int .u32 0,.int .u8 0] 46)).heap.size (some ⟨b0,o0,none⟩) p:=RR.below' hr hb1
  refine (pcheck_any _ p.length c p _ hr1 rfl hl Hok.out).mono ?_
  rintro e w2 ⟨rfl,hb2⟩
  rw [hc.out]
  have hb02:=fresh hb1 hb2
  replace d0:=keep_cell hb02 hB0 d0
  replace d1:=keep_cell hb02 hB0 d1
  replace d2:=keep_cell hb02 hB0 d2
  have hlt:w.heap.size < (w.alloc (.cells #[.int .u32 0,.int .u8 0] 46)).heap.size:=by simp
  have q0:=keep_cell (o:=0) hb2 hlt (by rw [World.cell?_alloc_new];rfl:(w.alloc (.cells #[.int .u32 0,.int .u8 0] 46)).cell? ⟨w.heap.size,0,none⟩=some (.int .u32 0))
  have q1:=keep_cell (o:=1) hb2 hlt (by rw [World.cell?_alloc_new];rfl:(w.alloc (.cells #[.int .u32 0,.int .u8 0] 46)).cell? ⟨w.heap.size,1,none⟩=some (.int .u8 0))
  have f0:w2.frozen? ⟨w.heap.size,0,none⟩=false:=(hb2.frozen (p:=⟨w.heap.size,0,none⟩) hlt).trans (by simp)
  have f1:w2.frozen? ⟨w.heap.size,1,none⟩=false:=(hb2.frozen (p:=⟨w.heap.size,1,none⟩) hlt).trans (by simp)
  have hs2:=Nat.lt_of_lt_of_le hlt hb2.size
  clear hr1 hlt
  go_wp2_with fail
  refine (last_ok t r m w2 (by omega) e2 e4 e5).mono ?_
  rintro e w3 ⟨rfl,hb3⟩
  have hb03:=fresh hb02 hb3
  replace q0:=keep_cell hb3 hs2 q0
  replace q1:=keep_cell hb3 hs2 q1
  replace f0:w3.frozen? ⟨w.heap.size,0,none⟩=false:=(hb3.frozen (p:=⟨w.heap.size,0,none⟩) hs2).trans f0
  replace f1:w3.frozen? ⟨w.heap.size,1,none⟩=false:=(hb3.frozen (p:=⟨w.heap.size,1,none⟩) hs2).trans f1
  clear d0 d1 d2
  go_wp2_with fail
  rw [hfin.out]
  exact bodyPost_ret (v:= .agg #[.int .u32 (t+m - 1),.int .u8 r]) (by simp [results,Tryz.results167,go_sem,q0,q1]) rfl ⟨rfl,(hb03.setCell (Nat.le_refl _) _).setCell (Nat.le_refl _) _⟩
 ·have hc:=hide (show chkR p=8 from if_neg hm)
  have hfin:=hide (lastR_no hm)
  clear hm
  go_enter Tryz.func167,Tryz.ntmps167
  go_wp2_with fail
  have hb1:=boxed w (.cells #[.int .u32 0,.int .u8 0] 46)
  have hr1:RR (w.alloc (.cells #[.int .u32 0,.int .u8 0] 46)) (w.alloc (.cells #[.int .u32 0,.int .u8 0] 46)).heap.size A p:=RR.below' hr hb1
  refine (pcheck_any _ p.length c p _ hr1 rfl hl Hok.out).mono ?_
  rintro e w2 ⟨rfl,hb2⟩
  rw [hc.out]
  have hb02:=fresh hb1 hb2
  have hlt:w.heap.size < (w.alloc (.cells #[.int .u32 0,.int .u8 0] 46)).heap.size:=by simp
  have q0:=keep_cell (o:=0) hb2 hlt (by rw [World.cell?_alloc_new];rfl:(w.alloc (.cells #[.int .u32 0,.int .u8 0] 46)).cell? ⟨w.heap.size,0,none⟩=some (.int .u32 0))
  have q1:=keep_cell (o:=1) hb2 hlt (by rw [World.cell?_alloc_new];rfl:(w.alloc (.cells #[.int .u32 0,.int .u8 0] 46)).cell? ⟨w.heap.size,1,none⟩=some (.int .u8 0))
  have f0:w2.frozen? ⟨w.heap.size,0,none⟩=false:=(hb2.frozen (p:=⟨w.heap.size,0,none⟩) hlt).trans (by simp)
  have f1:w2.frozen? ⟨w.heap.size,1,none⟩=false:=(hb2.frozen (p:=⟨w.heap.size,1,none⟩) hlt).trans (by simp)
  have hs2:=Nat.lt_of_lt_of_le hlt hb2.size
  clear hr1 hlt
  go_wp2_with fail
  rw [hfin.out]
  exact bodyPost_ret (v:= .agg #[.int .u32 0,.int .u8 0]) (by simp [results,Tryz.results167,go_sem,q0,q1]) rfl ⟨rfl,(hb02.setCell (Nat.le_refl _) _).setCell (Nat.le_refl _) _⟩
/-- Does a stamp carry on with the last run? -/
def goesOn (p:List Rn) (t r:Int):Prop:=p≠ []∧r=(lastR p).2∧t=(lastR p).1+1
instance (p:List Rn) (t r:Int):Decidable (goesOn p t r):=by unfold goesOn;infer_instance
theorem run_row (t r m:Int) (w:World):RR (w.alloc (.cells #[.int .u32 t,.int .u8 r,.int .i64 m] 120)) (w.alloc (.cells #[.int .u32 t,.int .u8 r,.int .i64 m] 120)).heap.size (some ⟨w.heap.size,0,none⟩) [(t,r,m)]:=RR.new w _ _ _ rfl
theorem three_box (w:World) (a b c:Value) (T:TypeId):∃ w2,w.alloc (.cells #[a,b,c] T)=w2∧w2.cell? ⟨w.heap.size,0,none⟩=some a∧w2.cell? ⟨w.heap.size,1,none⟩=some b∧w2.cell? ⟨w.heap.size,2,none⟩=some c∧w.heap.size < w2.heap.size∧Below w.heap.size w w2:=by
 refine⟨_,rfl,?_,?_,?_,by simp,boxed _ _⟩
 ·rw [World.cell?_alloc_new];rfl
 ·rw [World.cell?_alloc_new];rfl
 ·rw [World.cell?_alloc_new];rfl
theorem end_ok (t r m:Int) (w:World) (h1:0≤t) (h2:t≤1073741824) (h3:1≤m) (h4:m≤4096):
 Calls Tryz.prog 184 #[.agg #[.int .u32 t,.int .u8 r,.int .i64 m]] w fun e w'=>e= .returned (.int .i64 (t+m - 1))∧Below w.heap.size w w':=by
 go_enter Tryz.func184,Tryz.ntmps184
 go_wp2_with fail
 go_ret
 exact⟨rfl,boxed _ _⟩
theorem refone_any (t r m:Int) (w:World) (hok:okR (t,r,m)):
 Calls Tryz.prog 183 #[.agg #[.int .u32 t,.int .u8 r,.int .i64 m]] w fun e w'=>e= .returned (.bool (decide (oneR (t,r,m))))∧Below w.heap.size w w':=by
 obtain⟨i1,i2,i3,i4,i5,i6⟩:=hok
 simp only at i1 i2 i3 i4 i5 i6
 by_cases hh:1≤t∧t≤1073741824∧r < 8∧1≤m∧m≤4096
 ·obtain⟨g1,g2,g3,g4,g5⟩:=hh
  have E:=hide (fun w=>end_ok t r m w i1 g2 g4 g5)
  by_cases g6:t+m - 1≤1073741824
  ·have hf:=hide (show decide (oneR (t,r,m))=true from decide_eq_true ⟨g1,g2,g3,g4,g5,g6⟩)
   go_enter Tryz.func183,Tryz.ntmps183
   go_wp2_with fail
   obtain⟨w1,hw1,k0,k1,k2,hs1,hb1⟩:=three_box w (.int .u32 t) (.int .u8 r) (.int .i64 m) 120
   simp only [hw1]
   clear hw1
   refine (unhide E w1).mono ?_
   rintro e w2 ⟨rfl,hb2⟩
   go_wp2_with fail
   go_ret
   exact⟨ret_bool hf.out.symm,fresh hb1 hb2⟩
  ·have hf:=hide (show decide (oneR (t,r,m))=false from decide_eq_false (fun h=>g6 h.2.2.2.2.2))
   go_enter Tryz.func183,Tryz.ntmps183
   go_wp2_with fail
   obtain⟨w1,hw1,k0,k1,k2,hs1,hb1⟩:=three_box w (.int .u32 t) (.int .u8 r) (.int .i64 m) 120
   simp only [hw1]
   clear hw1
   refine (unhide E w1).mono ?_
   rintro e w2 ⟨rfl,hb2⟩
   go_wp2_with fail
   go_ret
   exact⟨ret_bool (by rw [hf.out];exact decide_eq_false (by omega)),fresh hb1 hb2⟩
 ·have hf:=hide (show decide (oneR (t,r,m))=false from decide_eq_false (fun h=>hh ⟨h.1,h.2.1,h.2.2.1,h.2.2.2.1,h.2.2.2.2.1⟩))
  have hc:(¬ 1≤t)∨(1≤t∧¬ t≤1073741824)∨(1≤t∧t≤1073741824∧¬ r < 8)∨(1≤t∧t≤1073741824∧r < 8∧¬ 1≤m)∨(1≤t∧t≤1073741824∧r < 8∧1≤m∧¬ m≤4096):=by omega
  clear hh
  rcases hc with h1 | ⟨h1,h2⟩ | ⟨h1,h2,h3⟩ | ⟨h1,h2,h3,h4⟩ | ⟨h1,h2,h3,h4,h5⟩
  all_goals
   go_enter Tryz.func183,Tryz.ntmps183
   go_wp2_with fail
   go_ret
   exact⟨ret_bool hf.out.symm,boxed _ _⟩
theorem reflong_any (A:Option Addr) (n c:Nat) (p:List Rn) (w:World) (hr:RR w w.heap.size A p) (hn:p.length=n) (hl:n≤65536) (hm:∀ x∈p,0≤x.2.2∧x.2.2≤4097):
 Calls Tryz.prog 185 #[.slice A n c] w fun e w'=>e= .returned (.int .i64 (long p))∧Below w.heap.size w w':=by
 subst hn
 have Hm:=hide hm
 clear hm
 go_enter Tryz.func185,Tryz.ntmps185
 go_wp2_with fail
 go_loopw [3,4] (fun s i wr=>∃ (k:Nat) (y:Int),k≤p.length∧i= .int .i64 (k:Int)∧s= .int .i64 y∧0≤y∧y≤4097 * (k:Int)∧Hid (y=long (p.take k))∧Below w.heap.size w wr) (fun _ i _=>p.length - (intOf i).toNat)
 case atStart=>exact⟨0,0,by omega,rfl,rfl,by decide,by decide,hide rfl,Below.refl _ _⟩
 case round=>
  obtain⟨k,y,hk,rfl,rfl,hy0,hy1,hy,hb⟩:=hrel
  by_cases hlt:k < p.length
  ·obtain⟨b0,o0,rfl,hB0,hC0⟩:=RR.cell (RD.below hr hb) (by omega)
   obtain⟨d0,d1,d2⟩:=hC0 k hlt
   clear hC0
   have z0:(k:Int) < p.length:=by omega
   have hone:=Hm.out p[k] (List.getElem_mem hlt)
   obtain⟨m,hm⟩:∃ m,p[k].2.2=m:=⟨_,rfl⟩
   rw [hm] at hone d2
   obtain⟨e4,e5⟩:=hone
   have hnext:=hide (show y+m=long (p.take (k+1)) by rw [List.take_succ_eq_append_getElem hlt,long_snoc,hy.out,hm])
   clear d0 d1 hm
   go_wp2_with fail
   go_roundw
   case rel=>exact⟨k+1,y+m,by omega,by go_num,rfl,by omega,by omega,hnext,hb⟩
   case measure=>simp [intOf];omega
  ·have hz:¬ (k:Int) < p.length:=by omega
   have hyn:=hide (show y=long p by rw [hy.out,List.take_of_length_le (by omega)])
   go_wp2_with fail
   go_ret
   exact⟨ret_int hyn.out,hb⟩
end Go.Proofs.YtmkpfdcnikgokaaGreat
