/-
  Texts of this claim, put together: OpCheck, NumMath, NumBackMath, PlaceIds, PlaceChildMath. What each theorem asks stands in its statement.
-/
import Derived.Laws.EntriesVeiled
import Derived.Test.YtmkpfdcnikgokaaGreatLt6
set_option linter.unusedVariables false
set_option linter.unusedSimpArgs false
set_option maxRecDepth 100000
set_option maxHeartbeats 25600000
namespace Go.Proofs.YtmkpfdcnikgokaaGreat
open Go.RowKit
/-- Is a number a code point? -/
def isPt (z:Int):Prop:=0≤z∧z≤1114111∧(z < 55296∨57343 < z)
instance (z:Int):Decidable (isPt z):=by unfold isPt;infer_instance
/-- An operation as a value. -/
abbrev opv (k t r:Int) (A:Option Addr) (n c:Nat) (z:Int):Value:= .agg #[.int .u8 k,.int .u32 t,.int .u8 r,.slice A n c,.int .i64 z]
/-- May an operation be, its stamp and place being right? -/
def rightO (k t r:Int) (p:List Rn) (z:Int):Prop:=
 (k=1∧lastR p=(t,r)∧isPt z)∨(k=2∧lastR p=(t,r)∧z=0)∨((k=3∨k=4)∧z=0∧(lastR p).1 < t)
instance (k t r:Int) (p:List Rn) (z:Int):Decidable (rightO k t r p z):=by unfold rightO;infer_instance
/-- May an operation be? -/
def mayO (k t r:Int) (p:List Rn) (z:Int):Prop:=mayI t r∧mayR p∧rightO k t r p z
instance (k t r:Int) (p:List Rn) (z:Int):Decidable (mayO k t r p z):=by unfold mayO;infer_instance
/-- The number that Check answers. -/
def chkO (k t r:Int) (p:List Rn) (z:Int):Int:=if mayO k t r p z then 0 else 8
theorem five_box (w:World) (k t r s z:Value) (T:TypeId):∃ w2,w.alloc (.cells #[k,t,r,s,z] T)=w2∧w2.cell? ⟨w.heap.size,0,none⟩=some k∧w2.cell? ⟨w.heap.size,1,none⟩=some t∧w2.cell? ⟨w.heap.size,2,none⟩=some r∧w2.cell? ⟨w.heap.size,3,none⟩=some s∧w2.cell? ⟨w.heap.size,4,none⟩=some z∧w.heap.size < w2.heap.size∧Below w.heap.size w w2:=by
 refine⟨_,rfl,?_,?_,?_,?_,?_,by simp,boxed _ _⟩
 ·rw [World.cell?_alloc_new];rfl
 ·rw [World.cell?_alloc_new];rfl
 ·rw [World.cell?_alloc_new];rfl
 ·rw [World.cell?_alloc_new];rfl
 ·rw [World.cell?_alloc_new];rfl
theorem ocheck_yes (z:Int) (w:World) (h:isPt z):
 Calls Tryz.prog 179 #[.int .i64 z] w fun e w'=>e= .returned (.int .i64 0)∧w=w':=by
 obtain⟨h1,h2,h2'⟩:=h
 have h3:¬ z < 0:=by omega
 have h4:¬ 1114111 < z:=by omega
 rcases h2' with h2' | h2'
 ·go_enter Tryz.func179,Tryz.ntmps179
  go_wp2
  go_ret
  exact⟨rfl,rfl⟩
 ·have h6:¬ z < 55296:=by omega
  go_enter Tryz.func179,Tryz.ntmps179
  go_wp2
  go_ret
  exact⟨rfl,rfl⟩
theorem ocheck_no (z:Int) (w:World) (h:¬ isPt z):
 Calls Tryz.prog 179 #[.int .i64 z] w fun e w'=>e= .returned (.int .i64 40)∧w=w':=by
 have hc:z < 0∨1114111 < z∨(55296≤z∧z≤57343):=by unfold isPt at h;omega
 clear h
 rcases hc with h1 | h1 | ⟨h1,h2⟩
 ·go_enter Tryz.func179,Tryz.ntmps179
  go_wp2
  go_ret
  exact⟨rfl,rfl⟩
 ·have h3:¬ z < 0:=by omega
  go_enter Tryz.func179,Tryz.ntmps179
  go_wp2
  go_ret
  exact⟨rfl,rfl⟩
 ·have h3:¬ z < 0:=by omega
  have h4:¬ (1114111:Int) < z:=by omega
  have h5:¬ z < 55296:=by omega
  have h6:¬ (57343:Int) < z:=by omega
  go_enter Tryz.func179,Tryz.ntmps179
  go_wp2
  go_ret
  exact⟨rfl,rfl⟩
theorem own_ok (k t r z:Int) (A:Option Addr) (n c:Nat) (p:List Rn) (w:World) (hr:RR w w.heap.size A p) (hn:p.length=n) (hl:n < 1073741824) (hok:∀ x∈p,okR x):
 Calls Tryz.prog 176 #[opv k t r A n c z] w fun e w'=>e= .returned (.bool (decide (lastR p=(t,r))))∧Below w.heap.size w w':=by
 obtain⟨w1,hw1,k0,k1,k2,k3,k4,hs1,hb1⟩:=five_box w (.int .u8 k) (.int .u32 t) (.int .u8 r) (.slice A n c) (.int .i64 z) 104
 have E:=hide (fun W=>plast_any A n c p (past w1 W) ((hr.below' hb1).below' (below_past _ W)) hn hl hok)
 obtain⟨lt,hlt⟩:∃ a,a=(lastR p).1:=⟨_,rfl⟩
 obtain⟨lr,hlr⟩:∃ a,a=(lastR p).2:=⟨_,rfl⟩
 rw [←hlt,←hlr] at E
 have hd:=hide (show decide (lastR p=(t,r))=decide (lt=t∧lr=r) from decide_eq_decide.2 ⟨fun h=>by rw [hlt,hlr,h];exact⟨rfl,rfl⟩,fun h=>Prod.ext (hlt ▸ h.1) (hlr ▸ h.2)⟩)
 clear hlt hlr
 have hc:((lt == t)=true∧(lr == r)=true)∨(lt == t)=false∨((lt == t)=true∧(lr == r)=false):=by
  cases (lt == t) <;> cases (lr == r) <;> simp
 rcases hc with⟨c1,c2⟩ | c1 | ⟨c1,c2⟩
 all_goals
  go_enter Tryz.func176,Tryz.ntmps176
  go_wp2_with fail
  try simp only [hw1]
  refine wp_region_past (by kernel_rfl) (by kernel_rfl) ?_
  repeat (quiet_step ((go_at_call 167;with_reducible exact past_call (unhide E _))))
  refine wpQuiet_nil ?_
  intro w3 hw3
  obtain⟨u,rfl⟩:=hw3
  go_wp2_with fail
  go_ret
  refine⟨?_,fresh hb1 (below_past _ u)⟩
  exact ret_bool (by rw [hd.out];simp_all)
theorem field_t (x y:Int) (W:World):Sem.run Tryz.prog (Instr.field 46 (.agg #[.int .u32 x,.int .u8 y]) 0) W=Result.ok (.int .u32 x) W:=by
 simp [Instr.field,asAgg,go_sem]
theorem younger_ok (k t r z:Int) (A:Option Addr) (n c:Nat) (p:List Rn) (w:World) (hr:RR w w.heap.size A p) (hn:p.length=n) (hl:n < 1073741824) (hok:∀ x∈p,okR x):
 Calls Tryz.prog 177 #[opv k t r A n c z] w fun e w'=>e= .returned (.bool (decide (z=0∧(lastR p).1 < t)))∧Below w.heap.size w w':=by
 obtain⟨w1,hw1,k0,k1,k2,k3,k4,hs1,hb1⟩:=five_box w (.int .u8 k) (.int .u32 t) (.int .u8 r) (.slice A n c) (.int .i64 z) 104
 have E:=hide (fun W=>plast_any A n c p (past w1 W) ((hr.below' hb1).below' (below_past _ W)) hn hl hok)
 obtain⟨lt,hlt⟩:∃ a,a=(lastR p).1:=⟨_,rfl⟩
 obtain⟨lr,hlr⟩:∃ a,a=(lastR p).2:=⟨_,rfl⟩
 rw [←hlt,←hlr] at E
 rw [←hlt]
 clear hlt hlr
 have hc:((z == 0)=true∧lt < t)∨(z == 0)=false∨((z == 0)=true∧¬ lt < t):=by
  by_cases h:lt < t <;> cases (z == 0) <;> simp [h]
 have hfd:=fun W=>field_t lt lr W
 rcases hc with⟨c1,c2⟩ | c1 | ⟨c1,c2⟩
 all_goals
  go_enter Tryz.func177,Tryz.ntmps177
  go_wp2_with fail
  try simp only [hw1]
  refine wp_region_past (by kernel_rfl) (by kernel_rfl) ?_
  repeat (quiet_step ((go_at_call 167;with_reducible exact past_call (unhide E _))))
  refine wpQuiet_nil ?_
  intro w3 hw3
  obtain⟨u,rfl⟩:=hw3
  go_wp2_with fail
  go_ret
  refine⟨?_,fresh hb1 (below_past _ u)⟩
  exact ret_bool (by simp_all)
theorem ins_ok (k t r z:Int) (A:Option Addr) (n c:Nat) (p:List Rn) (g:Nat) (w:World) (hr:RR w w.heap.size A p) (hn:p.length=n) (hl:n < 1073741824) (hok:∀ x∈p,okR x) (hg:g < w.heap.size) (hv:w.cell? ⟨g,0,none⟩=some (.func (.func 176) #[] #[])):
 Calls Tryz.prog 178 #[opv k t r A n c z,.pointer (some ⟨g,0,none⟩)] w fun e w'=>e= .returned (.bool (decide (lastR p=(t,r)∧isPt z)))∧Below w.heap.size w w':=by
 obtain⟨w1,hw1,k0,k1,k2,k3,k4,hs1,hb1⟩:=five_box w (.int .u8 k) (.int .u32 t) (.int .u8 r) (.slice A n c) (.int .i64 z) 104
 have hE:=hide (own_ok k t r z A n c p w1 (hr.below' hb1) hn hl hok)
 have hv1:=keep_cell hb1 hg hv
 go_enter Tryz.func178,Tryz.ntmps178
 go_wp2_with fail
 refine hE.out.mono ?_
 rintro e w2 ⟨rfl,hb2⟩
 have hb:=fresh hb1 hb2
 have q4:=keep_cell hb2 hs1 k4
 clear k0 k1 k2 k3 k4
 by_cases ho:lastR p=(t,r)
 ·simp only [decide_eq_true ho]
  by_cases hz:isPt z
  ·go_wp2_with fail
   refine (ocheck_yes z _ hz).mono ?_
   rintro e w3 ⟨rfl,rfl⟩
   go_wp2_with fail
   go_ret
   exact⟨ret_bool (decide_eq_true ⟨ho,hz⟩).symm,hb⟩
  ·go_wp2_with fail
   refine (ocheck_no z _ hz).mono ?_
   rintro e w3 ⟨rfl,rfl⟩
   go_wp2_with fail
   go_ret
   exact⟨ret_bool (decide_eq_false fun h=>hz h.2).symm,hb⟩
 ·simp only [decide_eq_false ho]
  go_wp2_with fail
  go_ret
  exact⟨ret_bool (decide_eq_false fun h=>ho h.1).symm,hb⟩
theorem mark_ok (k t r z:Int) (A:Option Addr) (n c:Nat) (p:List Rn) (g:Nat) (w:World) (hr:RR w w.heap.size A p) (hn:p.length=n) (hl:n < 1073741824) (hok:∀ x∈p,okR x) (hg:g < w.heap.size) (hv:w.cell? ⟨g,0,none⟩=some (.func (.func 176) #[] #[])):
 Calls Tryz.prog 180 #[opv k t r A n c z,.pointer (some ⟨g,0,none⟩)] w fun e w'=>e= .returned (.bool (decide (lastR p=(t,r)∧z=0)))∧Below w.heap.size w w':=by
 obtain⟨w1,hw1,k0,k1,k2,k3,k4,hs1,hb1⟩:=five_box w (.int .u8 k) (.int .u32 t) (.int .u8 r) (.slice A n c) (.int .i64 z) 104
 have hE:=hide (own_ok k t r z A n c p w1 (hr.below' hb1) hn hl hok)
 have hv1:=keep_cell hb1 hg hv
 go_enter Tryz.func180,Tryz.ntmps180
 go_wp2_with fail
 refine hE.out.mono ?_
 rintro e w2 ⟨rfl,hb2⟩
 have hb:=fresh hb1 hb2
 have q4:=keep_cell hb2 hs1 k4
 clear k0 k1 k2 k3 k4
 by_cases ho:lastR p=(t,r)
 ·simp only [decide_eq_true ho]
  by_cases hz:z=0
  ·go_wp2_with fail
   go_ret
   exact⟨ret_bool (by rw [decide_eq_true (And.intro ho hz)]),hb⟩
  ·go_wp2_with fail
   go_ret
   exact⟨ret_bool (by rw [decide_eq_false fun h=>hz h.2];simp [hz]),hb⟩
 ·simp only [decide_eq_false ho]
  go_wp2_with fail
  go_ret
  exact⟨ret_bool (decide_eq_false fun h=>ho h.1).symm,hb⟩
theorem fbox (w:World):∃ w2,(w.alloc (.cells #[.nilFunc] 167)).setCell ⟨w.heap.size,0,none⟩ (.func (.func 176) #[] #[])=w2∧w2.cell? ⟨w.heap.size,0,none⟩=some (.func (.func 176) #[] #[])∧w.heap.size < w2.heap.size∧Below w.heap.size w w2:=by
 have hh:(w.alloc (.cells #[.nilFunc] 167)).heap[w.heap.size]?=some (.cells #[.nilFunc] 167 (0,0)):=heap_alloc_new _ _
 refine⟨_,rfl,?_,by simp,(boxed _ _).setCell (Nat.le_refl _) _⟩
 rw [cell_of_row _ _ _ _ _ _ (heap_setCell_same _ _ _ _ _ _ hh)]
 rfl
/-- What right answers. -/
def rightV (k:Int) (g:Nat):Value:=
 if k=1 then .func (.func 178) #[] #[.pointer (some ⟨g,0,none⟩)] else if k=2 then .func (.func 180) #[] #[.pointer (some ⟨g,0,none⟩)] else if k=3∨k=4 then .func (.func 177) #[] #[] else .nilFunc
theorem ix0 (a b c d e:Value) (W:World):(Instr.index 203 (.agg #[a,b,c,d,e]) (.int .u8 0)).run Tryz.prog W=Result.ok a W:=by kernel_rfl
theorem ix1 (a b c d e:Value) (W:World):(Instr.index 203 (.agg #[a,b,c,d,e]) (.int .u8 1)).run Tryz.prog W=Result.ok b W:=by kernel_rfl
theorem ix2 (a b c d e:Value) (W:World):(Instr.index 203 (.agg #[a,b,c,d,e]) (.int .u8 2)).run Tryz.prog W=Result.ok c W:=by kernel_rfl
theorem ix3 (a b c d e:Value) (W:World):(Instr.index 203 (.agg #[a,b,c,d,e]) (.int .u8 3)).run Tryz.prog W=Result.ok d W:=by kernel_rfl
theorem ix4 (a b c d e:Value) (W:World):(Instr.index 203 (.agg #[a,b,c,d,e]) (.int .u8 4)).run Tryz.prog W=Result.ok e W:=by kernel_rfl
theorem right_some (w:World) (k:Int) (hk:k=1∨k=2∨k=3∨k=4∨k=0):
 Calls Tryz.prog 156 #[.int .u8 k] w fun e w'=>e= .returned (rightV k w.heap.size)∧w'.cell? ⟨w.heap.size,0,none⟩=some (.func (.func 176) #[] #[])∧w.heap.size < w'.heap.size∧Below w.heap.size w w':=by
 have hmf:∀ (fn:Fn) (first cap:Array Value) (W:World),(Instr.makeFunc fn first cap).run Tryz.prog W= .ok (.func fn first cap) W:=fun _ _ _ _=>rfl
 obtain⟨w2,hw2,c0,hs2,hb2⟩:=fbox w
 have i0:=ix0
 have i1:=ix1
 have i2:=ix2
 have i3:=ix3
 have i4:=ix4
 rcases hk with rfl | rfl | rfl | rfl | rfl
 all_goals
  go_enter Tryz.func156,Tryz.ntmps156
  go_wp2_with fail
  go_ret
  exact⟨rfl,c0,hs2,hb2⟩
theorem right_none (w:World) (k:Int) (hk:5≤k):
 Calls Tryz.prog 156 #[.int .u8 k] w fun e w'=>e= .returned .nilFunc∧w'=w:=by
 go_enter Tryz.func156,Tryz.ntmps156
 go_wp2_with fail
 go_ret
 exact⟨rfl,rfl⟩
theorem feq_nil (W:World):(binOp .eql 167 .nilFunc .nilFunc).run Tryz.prog W=Result.ok (.bool true) W:=by kernel_rfl
theorem feq_fn (f:Fn) (a b:Array Value) (W:World):(binOp .eql 167 (.func f a b) .nilFunc).run Tryz.prog W=Result.ok (.bool false) W:=by kernel_rfl
theorem rightO_one (t r z:Int) (p:List Rn):rightO 1 t r p z↔(lastR p=(t,r)∧isPt z):=by simp [rightO]
theorem rightO_two (t r z:Int) (p:List Rn):rightO 2 t r p z↔(lastR p=(t,r)∧z=0):=by simp [rightO]
theorem rightO_more (k t r z:Int) (p:List Rn) (h:k=3∨k=4):rightO k t r p z↔(z=0∧(lastR p).1 < t):=by rcases h with rfl | rfl <;> simp [rightO]
/-- What the function that right answers does. -/
theorem rightV_ok (k t r z:Int) (A:Option Addr) (n c:Nat) (p:List Rn) (hn:p.length=n) (hl:n < 1073741824) (hok:∀ x∈p,okR x) (g:Nat) (hk:k=1∨k=2∨k=3∨k=4):
 ∃ f b,rightV k g= .func (.func f) #[] b∧(∀ (x:Array Value) (W:World),Sem.run Tryz.prog (callFunc f x) W= .ok (.enter f x) W)∧∀ w:World,RR w w.heap.size A p→g < w.heap.size→w.cell? ⟨g,0,none⟩=some (.func (.func 176) #[] #[])→
  Calls Tryz.prog f (#[opv k t r A n c z]++b) w fun e w'=>e= .returned (.bool (decide (rightO k t r p z)))∧Below w.heap.size w w':=by
 rcases hk with rfl | rfl | h
 ·refine⟨_,_,rfl,fun _ _=>by kernel_rfl,fun w hr hg hv=>?_⟩
  rw [decide_eq_decide.2 (rightO_one t r z p)]
  exact ins_ok 1 t r z A n c p g w hr hn hl hok hg hv
 ·refine⟨_,_,rfl,fun _ _=>by kernel_rfl,fun w hr hg hv=>?_⟩
  rw [decide_eq_decide.2 (rightO_two t r z p)]
  exact mark_ok 2 t r z A n c p g w hr hn hl hok hg hv
 ·refine⟨177,#[],by rcases h with rfl | rfl <;> rfl,fun _ _=>by kernel_rfl,fun w hr hg hv=>?_⟩
  rw [decide_eq_decide.2 (rightO_more k t r z p h)]
  exact younger_ok k t r z A n c p w hr hn hl hok
theorem opcheck_any (k t r z:Int) (A:Option Addr) (n c:Nat) (p:List Rn) (w:World) (hr:RR w w.heap.size A p) (hn:p.length=n) (hl:n < 1073741824) (hok:∀ x∈p,okR x) (k0:0≤k):
 Calls Tryz.prog 122 #[opv k t r A n c z] w fun e w'=>e= .returned (.int .i64 (chkO k t r p z))∧Below w.heap.size w w':=by
 obtain⟨w1,hw1,c0,c1,c2,c3,c4,hs1,hb1⟩:=five_box w (.int .u8 k) (.int .u32 t) (.int .u8 r) (.slice A n c) (.int .i64 z) 104
 have fq:=feq_nil
 have fq2:=feq_fn
 by_cases hk:5≤k
 ·have hf:=hide (show chkO k t r p z=8 from if_neg (fun h=>by have:=h.2.2;unfold rightO at this;omega))
  have hE:=hide (right_none w1 k hk)
  go_enter Tryz.func122,Tryz.ntmps122
  go_wp2_with fail
  refine hE.out.mono ?_
  rintro e w2 ⟨rfl,rfl⟩
  go_wp2_with fail
  go_ret
  exact⟨ret_int hf.out.symm,hb1⟩
 have hE:=hide (right_some w1 k (by omega))
 by_cases hk0:k=0
 ·subst hk0
  have hf:=hide (show chkO 0 t r p z=8 from if_neg (fun h=>by have:=h.2.2;unfold rightO at this;omega))
  go_enter Tryz.func122,Tryz.ntmps122
  go_wp2_with fail
  refine hE.out.mono ?_
  rintro e w2 ⟨rfl,cf,hs2,hb2⟩
  simp only [rightV,Int.reduceEq,if_false,or_self]
  have hb:=fresh hb1 hb2
  go_wp2_with fail
  go_ret
  exact⟨ret_int hf.out.symm,hb⟩
 obtain⟨f,b,hv,hcl,hfn⟩:=rightV_ok k t r z A n c p hn hl hok w1.heap.size (by omega)
 have Hfn:=hide hfn
 clear hfn
 go_enter Tryz.func122,Tryz.ntmps122
 go_wp2_with fail
 refine hE.out.mono ?_
 rintro e w2 ⟨rfl,cf,hs2,hb2⟩
 rw [hv]
 have hb:=fresh hb1 hb2
 have d0:=keep_cell hb2 hs1 c0
 have d1:=keep_cell hb2 hs1 c1
 have d2:=keep_cell hb2 hs1 c2
 have d3:=keep_cell hb2 hs1 c3
 have d4:=keep_cell hb2 hs1 c4
 have hsz2:=Nat.lt_of_lt_of_le hs1 hb2.size
 clear c0 c1 c2 c3 c4 hv hE fq
 by_cases h1:mayI t r
 ·go_wp2_with fail
  refine (scheck_yes t r _ h1).mono ?_
  rintro e w3 ⟨rfl,hb3⟩
  have hbb:=fresh hb hb3
  have hcf3:=keep_cell hb3 hs2 cf
  have e0:=keep_cell hb3 hsz2 d0
  have e1:=keep_cell hb3 hsz2 d1
  have e2:=keep_cell hb3 hsz2 d2
  have e3:=keep_cell hb3 hsz2 d3
  have e4:=keep_cell hb3 hsz2 d4
  have hsz3:=Nat.lt_of_lt_of_le hsz2 hb3.size
  have hs3:=Nat.lt_of_lt_of_le hs2 hb3.size
  clear d0 d1 d2 d3 d4
  by_cases h2:mayR p
  ·have hP:=hide (pcheck_any A n c p w3 (hr.below' hbb) hn hl hok)
   rw [show chkR p=0 from if_pos h2] at hP
   go_wp2_with fail
   refine hP.out.mono ?_
   rintro e w4 ⟨rfl,hb4⟩
   have hb5:=fresh hbb hb4
   have hcf4:=keep_cell hb4 hs3 hcf3
   have a0:=keep_cell hb4 hsz3 e0
   have a1:=keep_cell hb4 hsz3 e1
   have a2:=keep_cell hb4 hsz3 e2
   have a3:=keep_cell hb4 hsz3 e3
   have a4:=keep_cell hb4 hsz3 e4
   have hsz4:=Nat.lt_of_lt_of_le hsz3 hb4.size
   have hs4:=Nat.lt_of_lt_of_le hs3 hb4.size
   clear e0 e1 e2 e3 e4
   have hC:=hide (Hfn.out w4 (hr.below' hb5) hs4 hcf4)
   go_wp2_with fail
   refine hC.out.mono ?_
   rintro e w5 ⟨rfl,hb6⟩
   have hb7:=fresh hb5 hb6
   by_cases h3:rightO k t r p z
   ·rw [decide_eq_true h3]
    have hf:=hide (show chkO k t r p z=0 from if_pos ⟨h1,h2,h3⟩)
    go_wp2_with fail
    go_ret
    exact⟨ret_int hf.out.symm,hb7⟩
   ·rw [decide_eq_false h3]
    have hf:=hide (show chkO k t r p z=8 from if_neg (fun h=>h3 h.2.2))
    go_wp2_with fail
    go_ret
    exact⟨ret_int hf.out.symm,hb7⟩
  ·have hP:=hide (pcheck_any A n c p w3 (hr.below' hbb) hn hl hok)
   rw [show chkR p=8 from if_neg h2] at hP
   have hf:=hide (show chkO k t r p z=8 from if_neg (fun h=>h2 h.2.1))
   go_wp2_with fail
   refine hP.out.mono ?_
   rintro e w4 ⟨rfl,hb4⟩
   have hb5:=fresh hbb hb4
   go_wp2_with fail
   go_ret
   exact⟨ret_int hf.out.symm,hb5⟩
 ·have hf:=hide (show chkO k t r p z=8 from if_neg (fun h=>h1 h.1))
  go_wp2_with fail
  refine (scheck_no t r _ h1).mono ?_
  rintro e w3 ⟨rfl,hb3⟩
  have hbb:=fresh hb hb3
  go_wp2_with fail
  go_ret
  exact⟨ret_int hf.out.symm,hbb⟩
end Go.Proofs.YtmkpfdcnikgokaaGreat
namespace Go.Proofs.YtmkpfdcnikgokaaGreat
/-- The bytes of a number. -/
def nb (n:Nat):List UInt8:=if n < 128 then [UInt8.ofNat n] else UInt8.ofNat (n % 128+128) :: nb (n / 128)
 termination_by n
 decreasing_by omega
theorem nb_small {n:Nat} (h:n < 128):nb n= [UInt8.ofNat n]:=by rw [nb,if_pos h]
theorem nb_big {n:Nat} (h:¬ n < 128):nb n=UInt8.ofNat (n % 128+128) :: nb (n / 128):=by rw [nb,if_neg h]
theorem nb_pos (n:Nat):0 < (nb n).length:=by rw [nb];split <;> simp
theorem nb_len_le (k:Nat):∀ n:Nat,n < 128 ^ (k+1)→(nb n).length≤k+1:=by
 induction k with
 | zero=>intro n h;rw [nb_small (by simpa using h)];simp
 | succ k ih=>
   intro n h
   by_cases h1:n < 128
   ·rw [nb_small h1];simp
   ·rw [nb_big h1,List.length_cons]
    have:n / 128 < 128 ^ (k+1):=by
     rw [Nat.div_lt_iff_lt_mul (by omega)]
     rw [Nat.pow_succ] at h
     exact h
    have:=ih _ this
    omega
theorem nb_six {n:Nat} (h:n≤1099511627776):(nb n).length≤6:=nb_len_le 5 n (by omega)
/-- A number read from bytes: k read so far, of them n; none where they are none. -/
def gg (k n:Nat):List UInt8→Option (Nat×Nat)
 | []=>none
 | b :: r=>if k=6 then none else
   if 128≤b.toNat then gg (k+1) (n+b.toNat % 128 * 128 ^ k) r
   else if 1099511627776 < n+b.toNat % 128 * 128 ^ k∨(b.toNat=0∧0 < k) then none else some (n+b.toNat % 128 * 128 ^ k,k+1)
theorem gg_nil (k n:Nat):gg k n []=none:=rfl
theorem gg_six (n:Nat) (l:List UInt8):gg 6 n l=none:=by cases l <;> simp [gg]
theorem gg_more {k n:Nat} {b:UInt8} {r:List UInt8} (h6:k≠6) (h:128≤b.toNat):gg k n (b :: r)=gg (k+1) (n+b.toNat % 128 * 128 ^ k) r:=by
 rw [gg,if_neg h6,if_pos h]
theorem gg_bad {k n:Nat} {b:UInt8} {r:List UInt8} (h:b.toNat < 128) (hb:1099511627776 < n+b.toNat % 128 * 128 ^ k∨(b.toNat=0∧0 < k)):gg k n (b :: r)=none:=by
 by_cases h6:k=6
 ·rw [gg,if_pos h6]
 ·rw [gg,if_neg h6,if_neg (by omega),if_pos hb]
theorem gg_good {k n:Nat} {b:UInt8} {r:List UInt8} (h6:k≠6) (h:b.toNat < 128) (hb:¬ (1099511627776 < n+b.toNat % 128 * 128 ^ k∨(b.toNat=0∧0 < k))):gg k n (b :: r)=some (n+b.toNat % 128 * 128 ^ k,k+1):=by
 rw [gg,if_neg h6,if_neg (by omega),if_neg hb]
/-- What Get reads. -/
def gget (l:List UInt8):Option (Nat×Nat):=gg 0 0 l
theorem gg_nb (r:List UInt8):∀ (n k acc:Nat),acc+n * 128 ^ k≤1099511627776→k+(nb n).length≤6→(n=0→k=0)→gg k acc (nb n++r)=some (acc+n * 128 ^ k,k+(nb n).length):=by
 intro n
 induction n using nb.induct with
 | case1 n h=>
   intro k acc hm hk h0
   rw [nb_small h] at hk ⊢
   have hb:(UInt8.ofNat n).toNat=n:=by rw [UInt8.toNat_ofNat',Nat.mod_eq_of_lt (by omega)]
   have hn:n % 128=n:=Nat.mod_eq_of_lt h
   simp only [List.length_cons,List.length_nil,List.cons_append,List.nil_append] at hk ⊢
   rw [gg_good (by omega) (by omega) (by rw [hb,hn];omega),hb,hn]
 | case2 n h ih=>
   intro k acc hm hk h0
   rw [nb_big h] at hk ⊢
   have hb:(UInt8.ofNat (n % 128+128)).toNat=n % 128+128:=by rw [UInt8.toNat_ofNat',Nat.mod_eq_of_lt (by omega)]
   have hs:128 ^ (k+1)=128 ^ k * 128:=Nat.pow_succ _ _
   have hsplit:acc+(n % 128+128) % 128 * 128 ^ k+n / 128 * 128 ^ (k+1)=acc+n * 128 ^ k:=by
    have e1:(n % 128+128) % 128=n % 128:=by omega
    have e2:n / 128 * 128 ^ (k+1)=128 * (n / 128) * 128 ^ k:=by rw [hs];simp only [Nat.mul_assoc,Nat.mul_comm,Nat.mul_left_comm]
    rw [e1,e2,Nat.add_assoc,←Nat.add_mul]
    congr 2
    omega
   simp only [List.length_cons,List.cons_append] at hk ⊢
   rw [gg_more (by omega) (by omega),hb,ih (k+1) _ (by rw [hsplit];exact hm) (by omega) (by omega),hsplit]
   congr 2
   omega
theorem gget_nb (n:Nat) (r:List UInt8) (h:n≤1099511627776):gget (nb n++r)=some (n,(nb n).length):=by
 have:=gg_nb r n 0 0 (by omega) (by have:=nb_six h;omega) (fun _=>rfl)
 simpa [gget] using this
theorem gg_inv:∀ (l:List UInt8) (k acc m s:Nat),gg k acc l=some (m,s)→∃ n,m=acc+n * 128 ^ k∧m≤1099511627776∧k < s∧s - k≤l.length∧nb n=l.take (s - k)∧(n=0→k=0)
 | [],k,acc,m,s,h=>by simp [gg] at h
 | b :: r,k,acc,m,s,h=>by
   have hb:=b.toNat_lt
   rw [gg] at h
   by_cases h6:k=6
   ·rw [if_pos h6] at h;cases h
   rw [if_neg h6] at h
   by_cases h128:128≤b.toNat
   ·rw [if_pos h128] at h
    obtain⟨n1,e1,e2,e3,e4,e5,e6⟩:=gg_inv r (k+1) _ m s h
    have hn1:n1≠0:=fun e=>by have:=e6 e;omega
    have hs:128 ^ (k+1)=128 ^ k * 128:=Nat.pow_succ _ _
    refine⟨b.toNat % 128+128 * n1,?_,e2,by omega,by simp;omega,?_,by omega⟩
    ·rw [e1,Nat.add_mul,←Nat.add_assoc]
     congr 1
     rw [hs];simp only [Nat.mul_assoc,Nat.mul_comm]
    ·rw [nb_big (by omega)]
     have d1:(b.toNat % 128+128 * n1) % 128+128=b.toNat:=by omega
     have d2:(b.toNat % 128+128 * n1) / 128=n1:=by omega
     rw [d1,d2,e5]
     obtain⟨t,ht⟩:∃ t,s - k=t+1:=⟨s - k - 1,by omega⟩
     rw [ht,List.take_succ_cons,show s - (k+1)=t by omega]
     simp
   ·rw [if_neg h128] at h
    by_cases hbad:1099511627776 < acc+b.toNat % 128 * 128 ^ k∨(b.toNat=0∧0 < k)
    ·rw [if_pos hbad] at h;cases h
    ·rw [if_neg hbad] at h
     simp only [Option.some.injEq,Prod.mk.injEq] at h
     obtain⟨rfl,rfl⟩:=h
     have hm:b.toNat % 128=b.toNat:=Nat.mod_eq_of_lt (by omega)
     rw [hm] at hbad
     refine⟨b.toNat,by rw [hm],by rw [hm];omega,by omega,by simp,?_,by omega⟩
     rw [nb_small (by omega),show k+1 - k=1 by omega]
     simp
theorem gget_inv {l:List UInt8} {m s:Nat} (h:gget l=some (m,s)):m≤1099511627776∧s≤l.length∧nb m=l.take s∧(nb m).length=s:=by
 obtain⟨n,e1,e2,e3,e4,e5,_⟩:=gg_inv l 0 0 m s h
 have:m=n:=by simpa using e1
 subst this
 have e4':s≤l.length:=by simpa using e4
 refine⟨e2,e4',by simpa using e5,?_⟩
 rw [e5,List.length_take]
 omega
end Go.Proofs.YtmkpfdcnikgokaaGreat
namespace Go.Proofs.YtmkpfdcnikgokaaGreat
open Go.RowKit
/-- append onto an own row: every block that is no row of that type stays. -/
theorem wpList_append_held {P:Program} (w:World) {ops:Array Oper} {rest:List Oper} {o:Oper} {a:Act} {Q:Exit→Act→World→Prop} (hgd:o.guard=none) (s x:Operand) (t:TypeId)
 (ho:o.op= .call { callee:= .builtin .append,args:=#[s,x],argTypes:=#[t,t] })
 (base:Nat) (e:TypeId) (i:TypeInfo) (z:Value) (size bytes:Nat) (ht:P.underlying t=some (.slice e)) (hi:P.info? e=some i) (hz:i.zero=some z)
 (hsize:i.size=size) (hby:i.bytes=bytes) (hzs:z.cells.size=size) (hsz:0 < size)
 (v:Value) (n:Nat) (xs:List Value) (hs:a.eval s=v) (hown:w.ownsRow base e size v n xs)
 (B:Nat) (A:Option Addr) (m c:Nat) (news:List Value) (hx:a.eval x= .slice A m c) (hr:RD w B size A m news) (h1:∀ u∈news,u.oneCell'=true)
 (h63:n+m≤1073741824) (hbytes:bytes≤65536) (hbase:base≤w.heap.size)
 (h:∀ v' w',w'.ownsRow base e size v' (n+m) (xs++news)→Below base w w'→(∀ (b:Nat) (o':Obj),w.heap[b]?=some o'→(∀ cur,o'≠ .cells cur e (0,0))→w'.heap[b]?=some o')→wpList P ops Q rest (a.put o.dst v') w'):wpList P ops Q (o :: rest) a w:=by
 refine wpList_plain hgd fun K hK=>?_
 have hb':(n+m) * bytes≤140737488355328:=by
  have:(n+m) * bytes≤(n+m) * 65536:=Nat.mul_le_mul_left _ hbytes
  omega
 obtain⟨v',w',hrun,h2,h3⟩:=run_append_src (P:=P) w base t o.type e i z size bytes ht hi hz hsize hby hzs hsz v n xs hown B A m c news hr h1 (by unfold maxLen;omega) hb' hbase
 have hkeep:∀ (b:Nat) (o':Obj),w.heap[b]?=some o'→(∀ cur,o'≠ .cells cur e (0,0))→w'.heap[b]?=some o':=by
  intro b o' hb hne
  obtain⟨-,-,-,-,hk⟩:=h3
  rw [hk b (Array.getElem?_eq_some_iff.1 hb).1 ?_]
  ·exact hb
  ·rcases hown.2 with⟨rfl,_⟩ | ⟨g,cap,cur,rfl,_,hg,_⟩
   ·intro e1;cases e1
   ·intro e1
    simp only [Value.ownBlock,Option.some.injEq] at e1
    subst e1
    rw [hg] at hb
    exact hne cur (Option.some.inj hb).symm
 unfold Oper.wp execOp
 simp only [ho,resolve,invoke,builtin,Sem.run_bind,Sem.run_pure,Result.andThen_ok,List.map_toArray,List.map_cons,List.map_nil,hs,hx,hrun]
 exact hK _ _ (h v' w' h2 (grown_below hown h3 hbase) hkeep)
end Go.Proofs.YtmkpfdcnikgokaaGreat
namespace Go.Proofs.YtmkpfdcnikgokaaGreat
theorem lastR_snoc (q:List Rn) (x:Rn) (h:mayR (q++ [x])):lastR (q++ [x])=(rend x,x.2.1):=by
 unfold lastR
 rw [if_pos h]
 simp
end Go.Proofs.YtmkpfdcnikgokaaGreat
