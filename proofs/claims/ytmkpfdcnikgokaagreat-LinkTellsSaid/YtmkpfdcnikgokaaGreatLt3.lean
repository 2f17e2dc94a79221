/-
  Texts of this claim, put together: Inv, InvList, LinkPull. What each theorem asks stands in its statement.
-/
import Derived.Test.YtmkpfdcnikgokaaGreatLt2
set_option linter.unusedVariables false
set_option linter.unusedSimpArgs false
set_option maxRecDepth 100000
set_option maxHeartbeats 25600000
namespace Go.Proofs.YtmkpfdcnikgokaaGreat
open Go.RowKit
/-- What is done, with one more. -/
def upd (done:Nat→Bool) (i:Nat):Nat→Bool:=fun j=>decide (j=i) || done j
/-- The slots' values, with one more. -/
def putS (ρ:Nat→Value) (d:Option Tmp) (v:Value):Nat→Value:=match d with
 | none=>ρ
 | some d=>fun s=>if s=d then v else ρ s
abbrev Inv:=(Nat→Bool)→(Nat→Value)→World→Prop
/-- What is to be shown of one operation. -/
def duty (P:Program) (ops:Array Oper) (I:Inv) (a0:Act) (i:Nat) (o:Oper):Prop:=
 ∀ (done:Nat→Bool) (ρ:Nat→Value) (w:World),done i=false→(∀ s,writes ops s=false→ρ s=slotsOf a0 s)→(∀ j,depends o j=true→done j=true)→I done ρ w→
  (askOf ops o ρ=true∧opOK P o ρ w fun v w'=>I (upd done i) (putS ρ o.dst v) w')∨(askOf ops o ρ=false∧I (upd done i) (putS ρ o.dst undef) w)
def duties (P:Program) (ops:Array Oper) (I:Inv) (a0:Act):Nat→List Oper→Prop
 | _, []=>True
 | k,o :: l=>duty P ops I a0 k o∧duties P ops I a0 (k+1) l
theorem duties_at {P:Program} {ops:Array Oper} {I:Inv} {a0:Act}:∀ (l:List Oper) (k:Nat),duties P ops I a0 k l→∀ i o,l[i]?=some o→duty P ops I a0 (k+i) o
 | [],_,_,i,o,h=>by simp at h
 | x :: l,k,h,i,o,ho=>by
   cases i with
   | zero=>simp at ho;subst ho;exact h.1
   | succ i=>have:=duties_at l (k+1) h.2 i o (by simpa using ho);rwa [show k+1+i=k+(i+1) by omega] at this
/-- What stands in the middle of such a region. -/
def midI (ops:Array Oper) (I:Inv) (a0:Act) (listed:Array Bool) (a:Act) (w:World):Prop:=
 listed.size=ops.size∧a.defers=a0.defers∧a.tmps.size=a0.tmps.size∧(∀ s,writes ops s=false→slotsOf a s=slotsOf a0 s)∧I (fun j=>listed.getD j false) (slotsOf a) w
theorem inv_any {P:Program} {ops:Array Oper} {I:Inv} {a0:Act} {Q:Exit→Act→World→Prop} (hB:claimsB ops a0.tmps.size=true)
 (hop:∀ i o,ops[i]?=some o→duty P ops I a0 i o)
 (hend:∀ a w,a.defers=a0.defers→a.tmps.size=a0.tmps.size→(∀ s,writes ops s=false→slotsOf a s=slotsOf a0 s)→I (fun j=>decide (j < ops.size)) (slotsOf a) w→Q .normal a w):
 ∀ (fuel:Nat) (listed:Array Bool) (a:Act) (w:World),cntU listed ops.size=fuel→midI ops I a0 listed a w→wpAny P .any ops Q fuel listed a w:=by
 unfold claimsB at hB
 rw [Bool.and_eq_true] at hB
 obtain⟨hB1,hB2⟩:=hB
 have hedge:∀ i o,ops[i]?=some o→(∀ e∈o.after,Region.binds .any e=true→e.on < i)∧∀ d,o.dst=some d→d < a0.tmps.size:=by
  intro i o ho
  have hlt:i < ops.size:=(Array.getElem?_eq_some_iff.1 ho).1
  have:=List.all_eq_true.1 hB1 i (List.mem_range.2 hlt)
  rw [ho] at this
  simp only [Bool.and_eq_true,Array.all_eq_true_iff_forall_mem,Bool.or_eq_true,Bool.not_eq_true',decide_eq_true_eq] at this
  refine⟨fun e he hb=>(this.1 e he).resolve_left (by simp [hb]),fun d hd=>?_⟩
  have h2:=this.2
  rw [hd] at h2
  simpa using h2
 have hdone:∀ (listed:Array Bool) (a:Act) (w:World),midI ops I a0 listed a w→Region.ready .any ops listed= []→Q .normal a w:=by
  intro listed a w hm hr
  obtain⟨hsz,hdf,hs,hf,hI⟩:=hm
  have hall:∀ n,n≤ops.size→∀ j,j < n→listed.getD j false=true:=by
   intro n
   induction n with
   | zero=>intro _ j hj;omega
   | succ n ih=>
     intro hn j hj
     rcases Nat.lt_or_ge j n with h' | h'
     ·exact ih (by omega) j h'
     ·have hjn:j=n:=by omega
      subst hjn
      have hlj:j < ops.size:=by omega
      have hls:j < listed.size:=by omega
      cases hx:listed.getD j true with
      | true=>simpa [hls] using hx
      | false=>
        have:j∈Region.ready .any ops listed:=mem_ready.2 ⟨hx,ops[j],by simp [hlj],fun e he hbi=>ih (by omega) e.on ((hedge j ops[j] (by simp [hlj])).1 e he hbi)⟩
        rw [hr] at this
        cases this
  refine hend a w hdf hs hf ?_
  have e:(fun j=>listed.getD j false)=fun j=>decide (j < ops.size):=by
   funext j
   rcases Nat.lt_or_ge j ops.size with h | h
   ·rw [hall ops.size (Nat.le_refl _) j h,decide_eq_true h]
   ·rw [decide_eq_false (by omega)]
    simp [Array.getElem?_eq_none (xs:=listed) (i:=j) (by omega)]
  rw [←e]
  exact hI
 intro fuel
 induction fuel with
 | zero=>
   intro listed a w hcnt hm
   have hr:Region.ready .any ops listed= []:=by
    refine List.eq_nil_iff_forall_not_mem.2 fun j hj=>?_
    obtain⟨h0,o,ho,-⟩:=mem_ready.1 hj
    have:=cntU_zero _ hcnt j (Array.getElem?_eq_some_iff.1 ho).1
    rw [h0] at this
    cases this
   exact⟨hr,hdone _ _ _ hm hr⟩
 | succ fuel ih=>
   intro listed a w hcnt hm
   refine⟨fun hr=>hdone _ _ _ hm hr,fun i hi=>?_⟩
   obtain⟨hsz,hdf,hs,hf,hI⟩:=hm
   obtain⟨h0,o,ho,hall⟩:=mem_ready.1 hi
   have hlt:i < ops.size:=(Array.getElem?_eq_some_iff.1 ho).1
   have hli:listed.getD i false=false:=by
    cases hx:listed.getD i false with
    | false=>rfl
    | true=>
      have hls:i < listed.size:=by omega
      simp [hls] at hx h0
      rw [hx] at h0
      cases h0
   have hob:=hop i o ho (fun j=>listed.getD j false) (slotsOf a) w hli hf (fun j hj=>by
    unfold depends at hj
    obtain⟨e,he,hej⟩:=any_mem hj
    simp only [Bool.and_eq_true,beq_iff_eq] at hej
    exact hej.2 ▸ hall e he hej.1) hI
   have hcnt':cntU (listed.setIfInBounds i true) ops.size=fuel:=by
    have:=cntU_set listed i h0 ops.size
    rw [if_pos hlt] at this
    omega
   have hnext:∀ v w',I (upd (fun j=>listed.getD j false) i) (putS (slotsOf a) o.dst v) w'→midI ops I a0 (listed.setIfInBounds i true) (a.put o.dst v) w':=by
    intro v w' hv
    refine⟨by simp [hsz],?_,?_,?_,?_⟩
    ·cases o.dst <;> exact hdf
    ·cases o.dst <;> simp [Act.put,hs]
    ·intro s hs'
     rw [←hf s hs']
     unfold slotsOf
     cases hd:o.dst with
     | none=>rfl
     | some d=>
       have hne:d≠s:=by
        intro e
        subst e
        unfold writes at hs'
        have:(ops.any fun o=>o.dst == some d)=true:=mem_any (Array.mem_of_getElem? ho) (by simp [hd])
        rw [this] at hs'
        cases hs'
       simp [Act.put,Array.getElem?_setIfInBounds_ne hne]
    ·have e1:(fun j=>(listed.setIfInBounds i true).getD j false)=upd (fun j=>listed.getD j false) i:=by
      funext j
      unfold upd
      by_cases hij:i=j
      ·subst hij
       have hls:i < listed.size:=by omega
       simp [hls]
      ·rw [getD_set_ne false hij,decide_eq_false (fun e=>hij e.symm),Bool.false_or]
     have e2:slotsOf (a.put o.dst v)=putS (slotsOf a) o.dst v:=by
      funext s
      unfold slotsOf putS
      cases hd:o.dst with
      | none=>rfl
      | some d=>
        have hdlt:=(hedge i o ho).2 d hd
        rw [←hs] at hdlt
        by_cases hsd:s=d
        ·subst hsd
         simp [Act.put,hdlt]
        ·have hne:d≠s:=fun e=>hsd e.symm
         simp [Act.put,Array.getElem?_setIfInBounds_ne hne,hsd]
     rw [e1,e2]
     exact hv
   unfold wpOp
   rw [ho]
   simp only
   rw [wanted_ask]
   rcases hob with⟨hw,hx⟩ | ⟨hw,hx⟩
   ·rw [if_pos hw]
    exact .inl (wp_of_opOK hx fun v w' h2=>ih _ _ _ hcnt' (hnext v w' h2))
   ·rw [hw]
    exact ih _ _ _ hcnt' (hnext undef w hx)
/-- The region, its operations written out. -/
theorem wp_region_inv {P:Program} {id:Nat} {l:List Oper} {Q:Exit→Act→World→Prop} {a:Act} {w:World} (I:Inv) (hm:P.follows .mixedOrders=true) (n:Nat) (hn:a.tmps.size=n) (hB:claimsB l.toArray n=true)
 (h0:I (fun _=>false) (slotsOf a) w.drew) (hop:duties P l.toArray I a 0 l)
 (hend:∀ a' w',a'.defers=a.defers→a'.tmps.size=n→(∀ s,writes l.toArray s=false→slotsOf a' s=slotsOf a s)→I (fun j=>decide (j < l.length)) (slotsOf a') w'→Q .normal a' w'):
 (Code.region id l.toArray true).wp P Q a w:=by
 subst hn
 refine wp_region_any hm (inv_any (a0:=a) (I:=I) hB (fun i o ho=>by have:=duties_at l 0 hop i o (by simpa using ho);rwa [Nat.zero_add] at this) (fun a' w' h2 h3 h4 h5=>hend a' w' h2 h3 h4 (by simpa using h5)) _ _ _ _ ?_ ?_)
 ·have:∀ n m,n≤m→cntU (Array.replicate m false) n=n:=by
   intro n
   induction n with
   | zero=>intro m _;rfl
   | succ n ih=>
     intro m hm
     simp only [cntU]
     rw [ih m (by omega)]
     have:(Array.replicate m false).getD n true=false:=by simp [show n < m by omega]
     rw [this]
     simp
  exact this _ _ (Nat.le_refl _)
 ·refine⟨by simp,rfl,rfl,fun _ _=>rfl,?_⟩
  have e:(fun j=>(Array.replicate l.toArray.size false).getD j false)=fun _=>false:=by
   funext j
   rcases Nat.lt_or_ge j l.length with h | h
   ·simp [h]
   ·simp [Array.getElem?_eq_none (xs:=Array.replicate l.length false) (i:=j) (by simpa using h)]
  rw [e]
  exact h0
/-- append at a step of such a region. -/
theorem opOK_append {P:Program} {o:Oper} {ρ:Nat→Value} {w:World} {R:Clm} (s x:Operand) (t:TypeId) (ho:o.op= .call { callee:= .builtin .append,args:=#[s,x],argTypes:=#[t,t] })
 (v xv:Value) (hs:evalOf ρ s=v) (hx:evalOf ρ x=xv) (v':Value) (w':World) (hrun:(Builtin.append_ #[t,t] o.type #[v,xv]).run P w= .ok v' w') (h:R v' w'):opOK P o ρ w R:=by
 unfold opOK execOp
 simp only [ho,resolve,invoke,builtin,Sem.run_bind,Sem.run_pure,Result.andThen_ok,List.map_toArray,List.map_cons,List.map_nil,hs,hx,hrun]
 exact h
/-- The slots that are written, once each. -/
def oncesB (S:List (Option Nat)):Bool:=(List.range S.length).all fun i=>(List.range S.length).all fun j=>decide (i=j) || (match (S[i]?).join,(S[j]?).join with | some a,some b=>decide (a≠b) | _,_=>true)
/-- The values of what is done; and a property of the world. -/
def LI (L:List (Option (Nat×Value))) (Wp:World→Prop):Inv:=fun done ρ w=>Wp w∧∀ i s v,(L[i]?).join=some (s,v)→done i=true→ρ s=v
theorem LI.start (L:List (Option (Nat×Value))) {Wp:World→Prop} {ρ:Nat→Value} {w:World} (h:Wp w):LI L Wp (fun _=>false) ρ w:=⟨h,fun _ _ _ _ h=>by cases h⟩
theorem LI.get {L:List (Option (Nat×Value))} {Wp:World→Prop} {done:Nat→Bool} {ρ:Nat→Value} {w:World} (h:LI L Wp done ρ w) (i s:Nat) (v:Value) (hi:(L[i]?).join=some (s,v)) (hd:done i=true):ρ s=v:=h.2 i s v hi hd
theorem LI.put {L:List (Option (Nat×Value))} {Wp:World→Prop} {done:Nat→Bool} {ρ:Nat→Value} {w w':World} (h:LI L Wp done ρ w) (S:List (Option Nat)) (hS:L.map (Option.map Prod.fst)=S) (hB:oncesB S=true) (i d:Nat) (v:Value) (hi:(L[i]?).join=some (d,v)) (hw:Wp w'):
 LI L Wp (upd done i) (putS ρ (some d) v) w':=by
 refine⟨hw,fun j s u hj hd=>?_⟩
 have slot:∀ (k s:Nat) (u:Value),(L[k]?).join=some (s,u)→(S[k]?).join=some s∧k < S.length:=by
  intro k s u hk
  rw [←hS,List.getElem?_map,List.length_map]
  cases hx:L[k]? with
  | none=>rw [hx] at hk;cases hk
  | some o=>
    rw [hx] at hk
    simp only [Option.join] at hk
    refine⟨?_,(List.getElem?_eq_some_iff.1 hx).1⟩
    simp [Option.join] at hk ⊢
    exact⟨u,hk⟩
 by_cases hij:j=i
 ·subst hij
  rw [hi] at hj
  simp only [Option.some.injEq,Prod.mk.injEq] at hj
  obtain⟨rfl,rfl⟩:=hj
  simp [putS]
 ·obtain⟨s1,s2⟩:=slot j s u hj
  obtain⟨s3,s4⟩:=slot i d v hi
  have hne:s≠d:=by
   have:=List.all_eq_true.1 (List.all_eq_true.1 hB j (List.mem_range.2 s2)) i (List.mem_range.2 s4)
   rw [s1,s3] at this
   simpa [hij] using this
  simp only [putS,hne,if_false]
  refine h.2 j s u hj ?_
  simpa [upd,hij] using hd
theorem LI.world {L:List (Option (Nat×Value))} {Wp:World→Prop} {done:Nat→Bool} {ρ:Nat→Value} {w w':World} (h:LI L Wp done ρ w) (i:Nat) (v:Value) (hi:(L[i]?).join=none) (hw:Wp w'):LI L Wp (upd done i) (putS ρ none v) w':=by
 refine⟨hw,fun j s u hj hd=>h.2 j s u hj ?_⟩
 have hij:j≠i:=fun e=>by rw [e,hi] at hj;cases hj
 simpa [upd,hij] using hd
theorem arr_list (T:Array Value) (n:Nat) (h:T.size=n):T=((List.range n).map fun i=>T.getD i undef).toArray:=by
 refine Array.ext (by simp [h]) fun i h1 h2=>?_
 simp [Array.getD,h1]
/-- Boxes: an integer; bytes. -/
def IBX (w:World) (g:Nat) (s:Int):Prop:=w.heap[g]?=some (.cells #[.int .i64 s] 3 (0,0))
def BBX (w:World) (g:Nat) (v:Value):Prop:=w.heap[g]?=some (.cells #[v] 23 (0,0))
theorem IBX.cell {w:World} {g:Nat} {s:Int} (h:IBX w g s):w.cell? ⟨g,0,none⟩=some (.int .i64 s):=by rw [cell_of_row _ _ _ _ _ _ h];rfl
theorem BBX.cell {w:World} {g:Nat} {v:Value} (h:BBX w g v):w.cell? ⟨g,0,none⟩=some v:=by rw [cell_of_row _ _ _ _ _ _ h];rfl
theorem IBX.below {w w':World} {g:Nat} {s:Int} (h:IBX w g s) (hb:Below w.heap.size w w'):IBX w' g s:=(hb.block g (Array.getElem?_eq_some_iff.1 h).1).trans h
theorem BBX.below {w w':World} {g:Nat} {v:Value} (h:BBX w g v) (hb:Below w.heap.size w w'):BBX w' g v:=(hb.block g (Array.getElem?_eq_some_iff.1 h).1).trans h
theorem fr_set {w:World} {base:Nat} {e:TypeId} {size n:Nat} {v:Value} {L:List Value} (h:w.ownsRow base e size v n L) {g:Nat} (hg:g < base) (off:Nat) (u:Value):(w.setCell ⟨g,off,none⟩ u).ownsRow base e size v n L:=by
 refine⟨h.1,?_⟩
 rcases h.2 with h0 | ⟨q,cap,cur,h1,h2,h3,h4⟩
 ·exact .inl h0
 ·exact .inr ⟨q,cap,cur,h1,h2,(heap_setCell_other _ _ _ _ (by simp only;omega)).trans h3,h4⟩
theorem OF.set {w:World} {base c:Nat} {A:Option Addr} {L:List FrL} (h:OF w base A c L) {g:Nat} (hg:g < base) (off:Nat) (u:Value):OF (w.setCell ⟨g,off,none⟩ u) base A c L:=⟨fr_set h.1 hg off u,fun x hx=>fr_set (h.2 x hx) hg off u⟩
theorem fr_at {w w':World} {base:Nat} {e:TypeId} {size n:Nat} {v:Value} {L:List Value} (h:w.ownsRow base e size v n L) {g:Nat} {e':TypeId} {cur:Array Value} (hg:w.heap[g]?=some (.cells cur e' (0,0))) (hne:e≠e') (hk:∀ k,k≠g→w'.heap[k]?=w.heap[k]?):w'.ownsRow base e size v n L:=by
 refine⟨h.1,?_⟩
 rcases h.2 with h0 | ⟨q,cap,cur',h1,h2,h3,h4⟩
 ·exact .inl h0
 ·have hq:q≠g:=by
   intro he
   rw [he,hg] at h3
   simp only [Option.some.injEq,Obj.cells.injEq] at h3
   exact hne h3.2.1.symm
  exact .inr ⟨q,cap,cur',h1,h2,(hk q hq).trans h3,h4⟩
/-- copy at a step of such a region. -/
theorem opOK_copy {P:Program} {o:Oper} {ρ:Nat→Value} {w:World} {R:Clm} (d s:Operand) (t:TypeId) (ho:o.op= .call { callee:= .builtin .copy,args:=#[d,s],argTypes:=#[t,t] })
 (vd vs:Value) (hd:evalOf ρ d=vd) (hs:evalOf ρ s=vs) (v':Value) (w':World) (hrun:(Builtin.copy_ #[t,t] o.type #[vd,vs]).run P w= .ok v' w') (h:R v' w'):opOK P o ρ w R:=by
 unfold opOK execOp
 simp only [ho,resolve,invoke,builtin,Sem.run_bind,Sem.run_pure,Result.andThen_ok,List.map_toArray,List.map_cons,List.map_nil,hd,hs,hrun]
 exact h
/-- A list's frames behind a place, moved forward by one. -/
theorem copy_shift (w:World) (g c n m base:Nat) (Q:List FrL) (SA:Option Addr) (SC:Nat) (ty:TypeId) (hO:OF w base (some ⟨g,0,none⟩) c Q) (hn:Q.length=n) (hm:m < n) (hS:c=m+1∧SA=some ⟨g,0,none⟩∧SC=0∨¬ c=m+1∧SA=some ⟨g,m+1,none⟩∧SC=c - (m+1)):
 ∃ wz,(Builtin.copy_ #[22,22] ty #[.slice (some ⟨g,m,none⟩) (n - m) (c - m),.slice SA (n - (m+1)) SC]).run Tryz.prog w= .ok (goInt ((n - (m+1):Nat):Int)) wz∧OF wz base (some ⟨g,0,none⟩) c (Q.eraseIdx m)∧(∀ k,k≠g→wz.heap[k]?=w.heap[k]?)∧(∀ B,B≤base→Below B w wz)∧base≤g:=by
 obtain⟨i0,hi0,hz0,hz1,hz2⟩:=info_parts frinfo
 have hsz:(Tryz.prog.info? 23).map (·.size)=some 1:=by rw [hi0];exact congrArg some hz1
 have hee:Q.eraseIdx m=Q.take m++Q.drop (m+1):=List.eraseIdx_eq_take_drop_succ ..
 have hel:(Q.eraseIdx m).length=n - 1:=by rw [List.length_eraseIdx,if_pos (by omega),hn]
 obtain⟨hl0,h0⟩:=hO.1
 rcases h0 with⟨h1,-⟩ | ⟨q,cap,cur,h1,h2,h3,h4,h5,h6,h7⟩
 ·simp at h1
 simp only [Value.slice.injEq,Option.some.injEq,Addr.mk.injEq,and_true,true_and] at h1
 obtain⟨rfl,rfl⟩:=h1
 rw [Nat.mul_one] at h6 h7
 have hget:∀ j,j < n→cur[j]?=(frs Q)[j]?:=by
  intro j hj
  rw [←h7,List.getElem?_take,if_pos (by omega),Array.getElem?_toList]
 have hfront:cur.toList.take m=frs (Q.take m):=by
  have:(cur.toList.take Q.length).take m=(frs Q).take m:=by rw [h7]
  rw [List.take_take,Nat.min_eq_left (by omega)] at this
  rw [this]
  simp [frs]
 have hin:∀ wz:World,(∀ k,k≠g→wz.heap[k]?=w.heap[k]?)→∀ x∈Q.eraseIdx m,wz.ownsRow base 5 1 (.slice x.A x.b.length x.c) x.b.length (u8s x.b):=fun wz hk x hx=>fr_at (hO.2 x (List.mem_of_mem_eraseIdx hx)) h3 (by decide) hk
 by_cases hk:n - (m+1)=0
 ·refine⟨w,?_,⟨⟨by rw [frs_len,Nat.mul_one],.inr ⟨g,c,cur,rfl,h2,h3,by omega,h5,by rw [Nat.mul_one];exact h6,?_⟩⟩,hin w (fun _ _=>rfl)⟩,fun _ _=>rfl,fun B _=>Below.refl _ _,h2⟩
  ·rw [hk]
   exact run_copy_none (P:=Tryz.prog) w _ _ ty _ _ _ _ _ _ _ Tryz.underlying22 hsz (by simp)
  ·rw [Nat.mul_one,hel,hee,show n - 1=m by omega,hfront,List.drop_eq_nil_of_le (by omega),List.append_nil]
 ·have hcm:¬ c=m+1:=by omega
  rcases hS with⟨hc,-,-⟩ | ⟨-,rfl,rfl⟩
  ·exact (hcm hc).elim
  have hcs:(frs (Q.drop (m+1))).length=n - (m+1):=by rw [frs_len,List.length_drop,hn]
  have hrun:=run_copy_row (P:=Tryz.prog) w 22 22 ty 23 g m (n - m) (c - m) ⟨g,m+1,none⟩ (n - (m+1)) (c - (m+1)) cur 23 (frs (Q.drop (m+1))) Tryz.underlying22 hsz h3 (by rw [hcs];exact (Nat.min_eq_left (by omega)).symm) (fun j v hv=>by
   have hj:=(List.getElem?_eq_some_iff.1 hv).1
   rw [add_none,cell_of_row _ _ _ _ _ _ h3,hget _ (by omega)]
   have:frs (Q.drop (m+1))=(frs Q).drop (m+1):=by simp [frs]
   rw [this,List.getElem?_drop] at hv
   exact hv) (by omega) (frs_one _)
  rw [hcs] at hrun
  refine⟨_,hrun,⟨⟨by rw [frs_len,Nat.mul_one],.inr ⟨g,c,_,rfl,h2,setRow_heap w g _ _ _ _ h3,by omega,h5,?_,?_⟩⟩,hin _ (fun k hk=>setRow_other w g k _ hk)⟩,fun k hk=>setRow_other w g k _ hk,fun B hB=>below_setRow (Below.refl B w) (Nat.le_trans hB h2) _,h2⟩
  ·simp only [Nat.mul_one,List.size_toArray,List.length_append,List.length_take,List.length_drop,Array.length_toList,hcs]
   omega
  ·rw [Nat.mul_one,hel,hee,hfront,List.toList_toArray,frs_append]
   have h8:(frs (Q.take m)++frs (Q.drop (m+1))).length=n - 1:=by rw [List.length_append,hcs,frs_len,List.length_take];omega
   rw [←h8,List.take_left]
theorem updL {done:Nat→Bool} {i j:Nat} (h:j≠i):upd done i j=done j:=by simp [upd,h]
theorem wcase {done:Nat→Bool} {W a b:World} (h:(done 7=false→W=a)∧(done 7=true→W=b)):W=a∨W=b:=by
 cases hx:done 7 with
 | false=>exact .inl (h.1 hx)
 | true=>exact .inr (h.2 hx)
theorem pull1_ok (g c n m gi gb base B:Nat) (Q:List FrL) (x:FrL) (v0:Value) (w:World) (hO:OF w base (some ⟨g,0,none⟩) c Q) (hn:Q.length=n) (hm:m < n) (hn9:n≤64) (hc:n≤c) (hx:Q[m]?=some x) (hI:IBX w gi (m:Int)) (hBB:BBX w gb v0) (hgi:gi < base) (hgb:gb < base) (hne:gi≠gb) (hBg:B≤gb) (hBb:B≤base):
 Calls Tryz.prog 36 #[.slice (some ⟨g,0,none⟩) n c,.pointer (some ⟨gi,0,none⟩),.pointer (some ⟨gb,0,none⟩)] w fun e w'=>e= .returned (.tuple #[.slice (some ⟨g,0,none⟩) (n - 1) c,.int .i64 0])∧OF w' base (some ⟨g,0,none⟩) c (Q.eraseIdx m)∧BBX w' gb (.slice x.A x.b.length x.c)∧w'.ownsRow base 5 1 (.slice x.A x.b.length x.c) x.b.length (u8s x.b)∧Below B w w':=by
 have z0:(m:Int) < n:=by omega
 have zm:(0:Int)≤m:=by omega
 have zc:(n:Int)≤c:=by omega
 have zmn:(m:Int)≤n:=by omega
 have zmc:(m:Int)≤c:=by omega
 have zm1:(0:Int)≤(m:Int)+1:=by omega
 have zm2:(m:Int)+1≤n:=by omega
 have zm3:(m:Int)+1≤c:=by omega
 have zw:IntKind.i64.wrap ((m:Int)+1)=(m:Int)+1:=IntWalk.i64_in _ (by omega)
 have znc:¬ c=m:=by omega
 have i0:=hI.cell
 have hmL:m < Q.length:=by rw [hn];exact hm
 obtain⟨b',off',hbo,-,hC⟩:=RF.cell hO.rf (by omega)
 simp only [Option.some.injEq,Addr.mk.injEq,and_true] at hbo
 obtain⟨rfl,rfl⟩:=hbo
 have d0:=hC m hmL
 have hxm:Q[m]=x:=by rw [List.getElem?_eq_getElem hmL] at hx;exact Option.some.inj hx
 rw [hxm,Nat.zero_add] at d0
 have hxQ:x∈Q:=by rw [←hxm];exact List.getElem_mem hmL
 have f0:=frozen_of_row w gb 0 _ _ hBB
 have c1:=hBB.cell
 obtain⟨w1,hw1⟩:∃ w1,w.setCell ⟨gb,0,none⟩ (.slice x.A x.b.length x.c)=w1:=⟨_,rfl⟩
 have O1:OF w1 base (some ⟨g,0,none⟩) c Q:=by rw [←hw1];exact hO.set hgb 0 _
 have I1:IBX w1 gi (m:Int):=by rw [←hw1];exact (heap_setCell_other _ _ _ _ hne).trans hI
 have B1:BBX w1 gb (.slice x.A x.b.length x.c):=by rw [←hw1];exact heap_setCell_same _ _ _ _ _ _ hBB
 have hb1:Below B w w1:=by rw [←hw1];exact (Below.refl B w).setCell hBg _
 obtain⟨SA,SC,hS⟩:∃ (SA:Option Addr) (SC:Nat),(c=m+1∧SA=some ⟨g,0,none⟩∧SC=0∨¬ c=m+1∧SA=some ⟨g,m+1,none⟩∧SC=c - (m+1)):=by
  by_cases h:c=m+1
  ·exact⟨_,_,.inl ⟨h,rfl,rfl⟩⟩
  ·exact⟨_,_,.inr ⟨h,rfl,rfl⟩⟩
 obtain⟨wz,hrun,hOz,hkz,hbz,hbg⟩:=copy_shift w1.drew g c n m base Q SA SC 3 O1 hn hm hS
 have Iz:IBX wz gi (m:Int):=(hkz gi (by omega)).trans I1
 have Bz:BBX wz gb (.slice x.A x.b.length x.c):=(hkz gb (by omega)).trans B1
 have oxz:wz.ownsRow base 5 1 (.slice x.A x.b.length x.c) x.b.length (u8s x.b):=by
  obtain⟨-,h2⟩:=O1.1
  rcases h2 with⟨h3,-⟩ | ⟨q,cap,cur,h3,-,h4,-⟩
  ·simp at h3
  ·simp only [Value.slice.injEq,Option.some.injEq,Addr.mk.injEq,and_true,true_and] at h3
   obtain⟨rfl,rfl⟩:=h3
   exact fr_at (O1.2 x hxQ) h4 (by decide) hkz
 have hbz0:=hb1.drew.trans (hbz B hBb)
 have HFin:=hide (And.intro hOz (And.intro Bz (And.intro oxz hbz0)))
 have HIall:=hide (show ∀ W:World,W=w1.drew∨W=wz→IBX W gi (m:Int) from fun W h=>by
  rcases h with rfl | rfl
  ·exact I1
  ·exact Iz)
 have Hrun:=hide hrun
 have HS:=hide hS
 clear hO hn hx hI hBB hgi hgb hne hBg hBb hC hxm hxQ O1 I1 B1 hb1 hrun hOz hkz hbz hbg Iz Bz oxz hbz0 hmL hS
 go_enter Tryz.func36,Tryz.ntmps36
 go_wp2_with fail
 try rw [hw1]
 clear hw1 i0 d0 f0 c1
 refine wp_region_inv (fun done ρ W=>LI [some (10,.slice (some ⟨g,0,none⟩) n c),some (11,.int .i64 (m:Int)),some (12,.slice (some ⟨g,m,none⟩) (n - m) (c - m)),some (13,.slice (some ⟨g,0,none⟩) n c),some (14,.int .i64 (m:Int)),some (15,.int .i64 ((m:Int)+1)),some (16,.slice SA (n - (m+1)) SC),some (17,goInt ((n - (m+1):Nat):Int))] (fun _=>True) done ρ W∧(done 7=false→W=w1.drew)∧(done 7=true→W=wz)) (by kernel_rfl) 23 (by rfl) (by kernel_rfl) ?_ ?_ ?_
 ·exact⟨LI.start _ trivial,fun _=>rfl,fun h=>by cases h⟩
 ·refine⟨?_,?_,?_,?_,?_,?_,?_,?_,trivial⟩
  ·
   intro done ρ W hn' hf hd h
   have q0:ρ 0= .slice (some ⟨g,0,none⟩) n c:=hf 0 (by kernel_rfl)
   clear hf
   refine .inl ⟨rfl,opOK_step fun R hR=>?_⟩
   unfold opOK
   go_simp
   exact hR _ _ ⟨h.1.put [some 10,some 11,some 12,some 13,some 14,some 15,some 16,some 17] rfl (by decide) 0 10 _ rfl trivial,fun k=>h.2.1 (by rwa [updL (by decide)] at k),fun k=>h.2.2 (by rwa [updL (by decide)] at k)⟩
  ·
   intro done ρ W hn' hf hd h
   have q1:ρ 1= .pointer (some ⟨gi,0,none⟩):=hf 1 (by kernel_rfl)
   have c0:=(HIall.out W (wcase h.2)).cell
   clear hf
   refine .inl ⟨rfl,opOK_step fun R hR=>?_⟩
   unfold opOK
   go_simp
   exact hR _ _ ⟨h.1.put [some 10,some 11,some 12,some 13,some 14,some 15,some 16,some 17] rfl (by decide) 1 11 _ rfl trivial,fun k=>h.2.1 (by rwa [updL (by decide)] at k),fun k=>h.2.2 (by rwa [updL (by decide)] at k)⟩
  ·
   intro done ρ W hn' hf hd h
   have q10:=h.1.get 0 10 _ rfl (hd 0 (by kernel_rfl))
   have q11:=h.1.get 1 11 _ rfl (hd 1 (by kernel_rfl))
   clear hf
   refine .inl ⟨rfl,opOK_step fun R hR=>?_⟩
   unfold opOK
   go_simp
   exact hR _ _ ⟨h.1.put [some 10,some 11,some 12,some 13,some 14,some 15,some 16,some 17] rfl (by decide) 2 12 _ rfl trivial,fun k=>h.2.1 (by rwa [updL (by decide)] at k),fun k=>h.2.2 (by rwa [updL (by decide)] at k)⟩
  ·
   intro done ρ W hn' hf hd h
   have q0:ρ 0= .slice (some ⟨g,0,none⟩) n c:=hf 0 (by kernel_rfl)
   clear hf
   refine .inl ⟨rfl,opOK_step fun R hR=>?_⟩
   unfold opOK
   go_simp
   exact hR _ _ ⟨h.1.put [some 10,some 11,some 12,some 13,some 14,some 15,some 16,some 17] rfl (by decide) 3 13 _ rfl trivial,fun k=>h.2.1 (by rwa [updL (by decide)] at k),fun k=>h.2.2 (by rwa [updL (by decide)] at k)⟩
  ·
   intro done ρ W hn' hf hd h
   have q1:ρ 1= .pointer (some ⟨gi,0,none⟩):=hf 1 (by kernel_rfl)
   have c0:=(HIall.out W (wcase h.2)).cell
   clear hf
   refine .inl ⟨rfl,opOK_step fun R hR=>?_⟩
   unfold opOK
   go_simp
   exact hR _ _ ⟨h.1.put [some 10,some 11,some 12,some 13,some 14,some 15,some 16,some 17] rfl (by decide) 4 14 _ rfl trivial,fun k=>h.2.1 (by rwa [updL (by decide)] at k),fun k=>h.2.2 (by rwa [updL (by decide)] at k)⟩
  ·
   intro done ρ W hn' hf hd h
   have q14:=h.1.get 4 14 _ rfl (hd 4 (by kernel_rfl))
   clear hf
   refine .inl ⟨rfl,opOK_step fun R hR=>?_⟩
   unfold opOK
   go_simp
   exact hR _ _ ⟨h.1.put [some 10,some 11,some 12,some 13,some 14,some 15,some 16,some 17] rfl (by decide) 5 15 _ rfl trivial,fun k=>h.2.1 (by rwa [updL (by decide)] at k),fun k=>h.2.2 (by rwa [updL (by decide)] at k)⟩
  ·
   intro done ρ W hn' hf hd h
   have q13:=h.1.get 3 13 _ rfl (hd 3 (by kernel_rfl))
   have q15:=h.1.get 5 15 _ rfl (hd 5 (by kernel_rfl))
   clear hf
   refine .inl ⟨rfl,opOK_step fun R hR=>?_⟩
   rcases HS.out with⟨hca,rfl,rfl⟩ | ⟨hca,rfl,rfl⟩
   all_goals
    unfold opOK
    go_simp
    exact hR _ _ ⟨h.1.put [some 10,some 11,some 12,some 13,some 14,some 15,some 16,some 17] rfl (by decide) 6 16 _ rfl trivial,fun k=>h.2.1 (by rwa [updL (by decide)] at k),fun k=>h.2.2 (by rwa [updL (by decide)] at k)⟩
  ·
   intro done ρ W hn' hf hd h
   have q12:=h.1.get 2 12 _ rfl (hd 2 (by kernel_rfl))
   have q16:=h.1.get 6 16 _ rfl (hd 6 (by kernel_rfl))
   clear hf
   have hW:=h.2.1 hn'
   subst hW
   refine .inl ⟨rfl,opOK_step fun R hR=>?_⟩
   exact opOK_copy (.tmp 12) (.tmp 16) _ rfl _ _ q12 q16 _ _ Hrun.out (hR _ _ ⟨h.1.put [some 10,some 11,some 12,some 13,some 14,some 15,some 16,some 17] rfl (by decide) 7 17 _ rfl trivial,fun k=>by simp [upd] at k,fun _=>rfl⟩)
 ·intro a' w6 hdf hsz hf h
  have hW:=h.2.2 (by kernel_rfl)
  subst hW
  have h0:slotsOf a' 0= .slice (some ⟨g,0,none⟩) n c:=hf 0 (by kernel_rfl)
  obtain⟨T,D⟩:=a'
  have hD:D= []:=hdf
  subst hD
  obtain⟨f,hT,hff⟩:∃ f:Nat→Value,T=((List.range 23).map f).toArray∧slotsOf ⟨T, []⟩=f:=⟨_,arr_list T 23 hsz,rfl⟩
  rw [hff] at h0
  clear hff hsz hf h hdf
  simp only [List.range,List.range.loop,List.map] at hT
  subst hT
  rw [h0]
  clear h0
  have zn1:(0:Int)≤(n:Int) - 1:=by omega
  have zn2:(n:Int) - 1≤c:=by omega
  have zn3:(n:Int) - 1=((n - 1:Nat):Int):=by omega
  have zn4:IntKind.i64.wrap ((n:Int) - 1)=((n - 1:Nat):Int):=by rw [IntWalk.i64_in _ (by omega)];omega
  have zn5:((n - 1:Nat):Int)≤c:=by omega
  have zn6:(0:Int)≤((n - 1:Nat):Int):=by omega
  go_wp2_with fail
  refine bodyPost_ret (v:= .tuple #[.slice (some ⟨g,0,none⟩) (n - 1) c,.int .i64 0]) (by simp [results,Tryz.results36,go_sem]) rfl ?_
  exact⟨rfl,HFin.out⟩
end Go.Proofs.YtmkpfdcnikgokaaGreat
