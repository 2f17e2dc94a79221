/-
  Texts of this claim, put together: Claims, Inv, InvList. What each theorem asks stands in its statement.
-/
import Derived.Test.YtmkpfdcnikgokaaGreatMd1
set_option linter.unusedVariables false
set_option linter.unusedSimpArgs false
set_option maxRecDepth 100000
set_option maxHeartbeats 25600000
namespace Go.Proofs.YtmkpfdcnikgokaaGreat
open Go.RowKit
abbrev P9:=Value->World->Prop
def Fg (ρ:Nat->Value):Operand->Value
 | .tmp t=>ρ t
 | .const v=>v
 | .global g=> .pointer (some ⟨g,0,none⟩)
 | .func f=> .func (.func f) #[] #[]
@[go_sem] theorem Jt (ρ:Nat->Value) (t:Nat):Fg ρ (.tmp t)=ρ t:=rfl
@[go_sem] theorem Adm (ρ:Nat->Value) (v:Value):Fg ρ (.const v)=v:=rfl
@[go_sem] theorem Ab1 (ρ:Nat->Value) (g:Nat):Fg ρ (.global g)= .pointer (some ⟨g,0,none⟩):=rfl
@[go_sem] theorem Adz (ρ:Nat->Value) (f:FuncId):Fg ρ (.func f)= .func (.func f) #[] #[]:=rfl
def Ab (a:Act):Nat->Value:=fun s=>a.tmps.getD s undef
theorem W2 (a:Act):a.eval=Fg (Ab a):=funext fun x=>by cases x <;> rfl
def Vv (v:Value):Option Bool:=match v with | .bool b=>some b | _=>none
def J0 (ops:Array Oper) (o:Oper) (ρ:Nat->Value):Bool:=
 match o.guard with
 | none=>true
 | some (j,b)=>match (ops[j]?).bind (·.dst) with
   | some d=>Vv (ρ d) == some b
   | none=>false
theorem Pt (ops:Array Oper) (o:Oper) (a:Act):Region.wanted o (yielded ops a.tmps)=J0 ops o (Ab a):=by
 unfold Region.wanted J0
 cases o.guard with
 | none=>rfl
 | some g=>
   obtain⟨j,b⟩:=g;simp only [yielded]
   cases (ops[j]?).bind (·.dst) with
   | none=>rfl
   | some d=>
     simp only [Option.bind_some,Ab];rw [Array.getD_eq_getD_getElem?]
     cases hd:a.tmps[d]? with
     | none=>rfl
     | some v=>
       simp only [Option.getD_some];cases v <;> rfl
def Ih (P:Program) (o:Oper) (ρ:Nat->Value) (w:World) (R:P9):Prop:=
 match (execOp (Fg ρ) o).run P w with
 | .ok (.value v) w'=>R v w'
 | .ok .skip w'=>R undef w'
 | .ok (.enter f args) w'=>Calls P f args w' fun e w''=>∃ v,e= .returned v/\R v w''
 | _=>False
theorem Pr {P:Program} {o:Oper} {a:Act} {w:World} {R:P9} {K:Act->World->Prop} {Q:Exit->Act->World->Prop} (h:Ih P o (Ab a) w R) (hk:∀ v w',R v w'->K (a.put o.dst v) w'):o.wp P a w K Q:=by
 unfold Ih at h;unfold Oper.wp;rw [W2];generalize (execOp (Fg (Ab a)) o).run P w=r at *
 cases r with
 | ok n w'=>
   cases n <;> simp only [Oper.upon] at h |-
   case value v=>exact hk _ _ h
   case skip=>exact hk _ _ h
   case enter f args=>exact h.mono fun e w'' ⟨v,he,hr⟩=>by subst he;exact hk _ _ hr
 | halt x w'=>exact h.elim
def Iv (ops:Array Oper) (s:Nat):Bool:=ops.any fun o=>o.dst == some s
def K6 (o:Oper) (j:Nat):Bool:=o.after.any fun e=>Region.binds .any e && e.on == j
def Iq (ops:Array Oper) (Vs:List P9) (ρ:Nat->Value) (w:World) (j:Nat):Prop:=
 match ops[j]?,Vs[j]? with
 | some o,some V=>match o.dst with
   | some d=>V (ρ d) w
   | none=>True
 | _,_=>True
def Ol (Vs:List P9) (i:Nat) (v:Value) (w:World):Prop:=match Vs[i]? with | some V=>V v w | none=>True
def K8 (ops:Array Oper) (n:Nat):Bool:=
 ((List.range ops.size).all fun i=>match ops[i]? with | some o=>(o.after.all fun e=> !Region.binds .any e || decide (e.on < i)) && (match o.dst with | some d=>decide (d < n) | none=>true) | none=>true) &&
 ((List.range ops.size).all fun i=>(List.range ops.size).all fun j=>decide (i=j) || match ops[i]?,ops[j]? with | some o,some o'=>o.dst == none || o.dst != o'.dst | _,_=>true)
theorem X3 {α:Type} {l:Array α} {f:α->Bool} (h:l.any f=true):∃ x,x∈l/\f x=true:=by
 rw [<-Array.any_toList] at h;obtain⟨x,hx,hf⟩:=List.any_eq_true.1 h;exact⟨x,Array.mem_toList_iff.1 hx,hf⟩
theorem Sl {α:Type} {l:Array α} {f:α->Bool} {x:α} (hx:x∈l) (h:f x=true):l.any f=true:=by
 rw [<-Array.any_toList];exact List.any_eq_true.2 ⟨x,Array.mem_toList_iff.2 hx,h⟩
def Zz (P:Program) (ops:Array Oper) (Vs:List P9) (a0:Act) (w0:World) (i:Nat) (o:Oper):Prop:=
 ∀ (ρ:Nat->Value) (w:World),Below w0.heap.size w0 w->(∀ s,Iv ops s=false->ρ s=Ab a0 s)->(∀ j,K6 o j=true->Iq ops Vs ρ w j)->
  (J0 ops o ρ=true/\Ih P o ρ w fun v w'=>Below w.heap.size w w'/\Ol Vs i v w')\/(J0 ops o ρ=false/\Ol Vs i undef w)
def Vp (P:Program) (ops:Array Oper) (Vs:List P9) (a0:Act) (w0:World):Nat->List Oper->Prop
 | _, []=>True
 | k,o :: l=>Zz P ops Vs a0 w0 k o/\Vp P ops Vs a0 w0 (k+1) l
theorem Q7 {P:Program} {ops:Array Oper} {Vs:List P9} {a0:Act} {w0:World}:∀ (l:List Oper) (k:Nat),Vp P ops Vs a0 w0 k l->∀ i o,l[i]?=some o->Zz P ops Vs a0 w0 (k+i) o
 | [],_,_,i,o,h=>by simp at h
 | x :: l,k,h,i,o,ho=>by
   cases i with
   | zero=>simp at ho;subst ho;exact h.1
   | succ i=>have:=Q7 l (k+1) h.2 i o (by simpa using ho);rwa [show k+1+i=k+(i+1) by omega] at this
def Lt (am:Array Bool):Nat->Nat
 | 0=>0
 | n+1=>Lt am n+(if am.getD n true=true then 0 else 1)
theorem Uf (am:Array Bool) (i:Nat) (hi:am.getD i true=false):∀ n,Lt (am.setIfInBounds i true) n+(if i < n then 1 else 0)=Lt am n:=by
 intro n
 induction n with
 | zero=>simp [Lt]
 | succ n ih=>
   simp only [Lt];by_cases h:i=n
   ·subst h;have h1:(am.setIfInBounds i true).getD i true=true:=by
     rcases Nat.lt_or_ge i am.size with h' | h'
     ·simp [h']
     ·simp [Array.getElem?_eq_none h'] at hi
    rw [h1,hi];simp at ih |-;omega
   ·rw [getD_set_ne true h];have:(if i < n+1 then 1 else 0)=(if i < n then 1 else 0):=by
     by_cases h2:i < n
     ·rw [if_pos h2,if_pos (by omega)]
     ·rw [if_neg h2,if_neg (by omega)]
    omega
theorem Rs {am:Array Bool}:∀ n,Lt am n=0->∀ j,j < n->am.getD j true=true:=by
 intro n
 induction n with
 | zero=>intro _ j hj;omega
 | succ n ih=>
   intro h j hj;simp only [Lt] at h;by_cases hh:am.getD n true=true
   ·rw [if_pos hh] at h;rcases Nat.lt_or_ge j n with h' | h'
    ·exact ih (by omega) j h'
    ·have:j=n:=by omega
     subst this;exact hh
   ·rw [if_neg hh] at h;omega
def Ad5 (ops:Array Oper) (Vs:List P9) (a0:Act) (w0:World) (am:Array Bool) (a:Act) (w:World):Prop:=
 am.size=ops.size/\Below w0.heap.size w0 w/\a.defers=a0.defers/\a.tmps.size=a0.tmps.size/\(∀ s,Iv ops s=false->Ab a s=Ab a0 s)/\∀ j,am.getD j false=true->Iq ops Vs (Ab a) w j
theorem Xa {P:Program} {ops:Array Oper} {Vs:List P9} {a0:Act} {w0:World} {Q:Exit->Act->World->Prop} (hB:K8 ops a0.tmps.size=true)
 (MC:∀ V∈Vs,∀ v w w',V v w->Below w.heap.size w w'->V v w') (BP:∀ i o,ops[i]?=some o->Zz P ops Vs a0 w0 i o)
 (tp:∀ a w,Below w0.heap.size w0 w->a.defers=a0.defers->a.tmps.size=a0.tmps.size->(∀ s,Iv ops s=false->Ab a s=Ab a0 s)->(∀ j,j < ops.size->Iq ops Vs (Ab a) w j)->Q .normal a w):
 ∀ (dv:Nat) (am:Array Bool) (a:Act) (w:World),Lt am ops.size=dv->Ad5 ops Vs a0 w0 am a w->wpAny P .any ops Q dv am a w:=by
 unfold K8 at hB;rw [Bool.and_eq_true] at hB;obtain⟨eb,ER⟩:=hB;have BF:∀ i o,ops[i]?=some o->(∀ e∈o.after,Region.binds .any e=true->e.on < i)/\∀ d,o.dst=some d->d < a0.tmps.size:=by
  intro i o ho;have ai:i < ops.size:=(Array.getElem?_eq_some_iff.1 ho).1;have:=List.all_eq_true.1 eb i (List.mem_range.2 ai);rw [ho] at this;simp only [Bool.and_eq_true,Array.all_eq_true_iff_forall_mem,Bool.or_eq_true,Bool.not_eq_true',decide_eq_true_eq] at this;refine⟨fun e he hb=>(this.1 e he).resolve_left (by simp [hb]),fun d hd=>?_⟩;have h2:=this.2;rw [hd] at h2;simpa using h2
 have hdist:∀ (i j:Nat) (o o':Oper) (d:Tmp),ops[i]?=some o->ops[j]?=some o'->i≠j->o.dst=some d->o'.dst≠some d:=by
  intro i j o o' d ho QD we hd he;have hi:i < ops.size:=(Array.getElem?_eq_some_iff.1 ho).1;have hj:j < ops.size:=(Array.getElem?_eq_some_iff.1 QD).1;have:=List.all_eq_true.1 (List.all_eq_true.1 ER i (List.mem_range.2 hi)) j (List.mem_range.2 hj);rw [ho,QD] at this;simp [we,hd,he] at this
 have BI:∀ (am:Array Bool) (a:Act) (w:World),Ad5 ops Vs a0 w0 am a w->Region.ready .any ops am= []->Q .normal a w:=by
  intro am a w hm hr;obtain⟨ay,hb,cz,hs,hf,hc⟩:=hm;have cp:∀ n,n<=ops.size->∀ j,j < n->am.getD j false=true:=by
   intro n
   induction n with
   | zero=>intro _ j hj;omega
   | succ n ih=>
     intro hn j hj;rcases Nat.lt_or_ge j n with h' | h'
     ·exact ih (by omega) j h'
     ·have CJ:j=n:=by omega
      subst CJ;have NX:j < ops.size:=by omega
      have EL:j < am.size:=by omega
      cases hx:am.getD j true with
      | true=>simpa [EL] using hx
      | false=>
        have:j∈Region.ready .any ops am:=mem_ready.2 ⟨hx,ops[j],by simp [NX],fun e he hbi=>ih (by omega) e.on ((BF j ops[j] (by simp [NX])).1 e he hbi)⟩;rw [hr] at this;cases this
  exact tp a w hb cz hs hf (fun j hj=>hc j (cp ops.size (Nat.le_refl _) j hj))
 intro dv
 induction dv with
 | zero=>
   intro am a w KY hm;have hr:Region.ready .any ops am= []:=by
    refine List.eq_nil_iff_forall_not_mem.2 fun j hj=>?_;obtain⟨h0,o,ho,-⟩:=mem_ready.1 hj;have:=Rs _ KY j (Array.getElem?_eq_some_iff.1 ho).1;rw [h0] at this;cases this
   exact⟨hr,BI _ _ _ hm hr⟩
 | succ dv ih=>
   intro am a w KY hm;refine⟨fun hr=>BI _ _ _ hm hr,fun i hi=>?_⟩;obtain⟨ay,hb,cz,hs,hf,hc⟩:=hm;obtain⟨h0,o,ho,cp⟩:=mem_ready.1 hi;have ai:i < ops.size:=(Array.getElem?_eq_some_iff.1 ho).1
   have tz:=BP i o ho (Ab a) w hb hf (fun j hj=>by
    unfold K6 at hj
    obtain⟨e,he,UA⟩:=X3 hj
    simp only [Bool.and_eq_true,beq_iff_eq] at UA
    exact hc j (UA.2 ▸ cp e he UA.1))
   have BJ:Lt (am.setIfInBounds i true) ops.size=dv:=by
    have:=Uf am i h0 ops.size;rw [if_pos ai] at this;omega
   have gw:∀ v w',Below w.heap.size w w'->Ol Vs i v w'->Ad5 ops Vs a0 w0 (am.setIfInBounds i true) (a.put o.dst v) w':=by
    intro v w' de hv;refine⟨by simp [ay],hb.trans (de.mono hb.size),?_,?_,?_,?_⟩
    ·cases o.dst <;> exact cz
    ·cases o.dst <;> simp [Act.put,hs]
    ·intro s xw;rw [<-hf s xw];unfold Ab
     cases hd:o.dst with
     | none=>rfl
     | some d=>
       have ak:d≠s:=by
        intro e;subst e;unfold Iv at xw;have:(ops.any fun o=>o.dst == some d)=true:=Sl (Array.mem_of_getElem? ho) (by simp [hd]);rw [this] at xw;cases xw
       simp [Act.put,Array.getElem?_setIfInBounds_ne ak]
    ·intro j hj;by_cases we:i=j
     ·subst we;unfold Iq;rw [ho];unfold Ol at hv
      cases hV:Vs[i]? with
      | none=>trivial
      | some V=>
        rw [hV] at hv
        cases hd:o.dst with
        | none=>simp only [hd]
        | some d=>
          have KX:=(BF i o ho).2 d hd;rw [<-hs] at KX;simp only [hd];have:Ab (a.put (some d) v) d=v:=by simp [Ab,Act.put,KX]
          rw [this];exact hv
     ·rw [getD_set_ne false we] at hj;have YC:=hc j hj;unfold Iq at YC |-
      cases hoj:ops[j]? with
      | none=>trivial
      | some o'=>
        rw [hoj] at YC
        cases hV:Vs[j]? with
        | none=>trivial
        | some V=>
          rw [hV] at YC
          cases UB:o'.dst with
          | none=>simp only [UB]
          | some d'=>
            simp only [UB] at YC |-;have ak:o.dst≠some d':=hdist j i o' o d' hoj ho (fun e=>we e.symm) UB;have:Ab (a.put o.dst v) d'=Ab a d':=by
             unfold Ab
             cases hd:o.dst with
             | none=>rfl
             | some d=>
               have:d≠d':=fun e=>ak (by rw [hd,e]);simp [Act.put,Array.getElem?_setIfInBounds_ne this]
            rw [this];exact MC V (List.mem_of_getElem? hV) _ _ _ YC de
   unfold wpOp;rw [ho];simp only;rw [Pt];rcases tz with⟨hw,hx⟩ | ⟨hw,hx⟩
   ·rw [if_pos hw];exact .inl (Pr hx fun v w' ⟨h1,h2⟩=>ih _ _ _ BJ (gw v w' h1 h2))
   ·rw [hw];exact ih _ _ _ BJ (gw undef w (Below.refl _ _) hx)
theorem Cn {P:Program} {id:Nat} {l:List Oper} {Q:Exit->Act->World->Prop} {a:Act} {w:World} (Vs:List P9) (hm:P.follows .mixedOrders=true) (n:Nat) (hn:a.tmps.size=n) (hB:K8 l.toArray n=true)
 (MC:∀ V∈Vs,∀ v w w',V v w->Below w.heap.size w w'->V v w') (BP:Vp P l.toArray Vs a w 0 l)
 (tp:∀ a' w',Below w.heap.size w w'->a'.defers=a.defers->a'.tmps.size=n->(∀ s,Iv l.toArray s=false->Ab a' s=Ab a s)->(∀ j,j < l.length->Iq l.toArray Vs (Ab a') w' j)->Q .normal a' w'):
 (Code.region id l.toArray true).wp P Q a w:=by
 subst hn;refine wp_region_any hm (Xa (w0:=w) (a0:=a) (Vs:=Vs) hB MC (fun i o ho=>by have:=Q7 l 0 BP i o (by simpa using ho);rwa [Nat.zero_add] at this) (fun a' w' h1 h2 h3 h4 h5=>tp a' w' h1 h2 h3 h4 (fun j hj=>h5 j (by simpa using hj))) _ _ _ _ ?_ ?_)
 ·have:∀ n m,n<=m->Lt (Array.replicate m false) n=n:=by
   intro n
   induction n with
   | zero=>intro m _;rfl
   | succ n ih=>
     intro m hm;simp only [Lt];rw [ih m (by omega)];have:(Array.replicate m false).getD n true=false:=by simp [show n < m by omega]
     rw [this];simp
  exact this _ _ (Nat.le_refl _)
 ·refine⟨by simp,(Below.refl _ _).drew,rfl,rfl,fun _ _=>rfl,fun j hj=>?_⟩;exfalso;rcases Nat.lt_or_ge j l.length with h | h
  ·simp [h] at hj
  ·simp [Array.getElem?_eq_none (xs:=Array.replicate l.length false) (i:=j) (by simpa using h)] at hj
theorem Bt {P:Program} {o:Oper} {ρ:Nat->Value} {w:World} {S:P9} (h:∀ R:P9,(∀ v w',S v w'->R v w')->Ih P o ρ w R):Ih P o ρ w S:=h S fun _ _ h=>h
theorem Bd {P:Program} {ops:Array Oper} {o:Oper} {ρ:Nat->Value} {w:World} {S:P9} {X:Prop} (h0:J0 ops o ρ=true) (h:∀ R:P9,(∀ v w',S v w'->R v w')->(match (execOp (Fg ρ) o).run P w with | .ok (.value v) w'=>R v w' | .ok .skip w'=>R undef w' | .ok (.enter f args) w'=>Calls P f args w' fun e w''=>∃ v,e= .returned v/\R v w'' | _=>False)):(J0 ops o ρ=true/\Ih P o ρ w S)\/X:= .inl ⟨h0,Bt h⟩
theorem Du {ops:Array Oper} {o:Oper} {ρ:Nat->Value} {j d:Nat} {b:Bool} (hg:o.guard=some (j,b)) (hd:(ops[j]?).bind (·.dst)=some d) (h:ρ d= .bool b):J0 ops o ρ=true:=by
 unfold J0;rw [hg];simp only [hd,h,Vv,beq_self_eq_true]
theorem Ml {ops:Array Oper} {o:Oper} {ρ:Nat->Value} {j d:Nat} {b:Bool} (hg:o.guard=some (j,b)) (hd:(ops[j]?).bind (·.dst)=some d) (h:ρ d= .bool (!b)):J0 ops o ρ=false:=by
 unfold J0;rw [hg];simp only [hd,h,Vv];cases b <;> rfl
def Bo (done:Nat->Bool) (i:Nat):Nat->Bool:=fun j=>decide (j=i) || done j
def Bn (ρ:Nat->Value) (d:Option Tmp) (v:Value):Nat->Value:=match d with
 | none=>ρ
 | some d=>fun s=>if s=d then v else ρ s
abbrev Inv:=(Nat->Bool)->(Nat->Value)->World->Prop
def Ad6 (P:Program) (ops:Array Oper) (I:Inv) (a0:Act) (i:Nat) (o:Oper):Prop:=
 ∀ (done:Nat->Bool) (ρ:Nat->Value) (w:World),done i=false->(∀ s,Iv ops s=false->ρ s=Ab a0 s)->(∀ j,K6 o j=true->done j=true)->I done ρ w->
  (J0 ops o ρ=true/\Ih P o ρ w fun v w'=>I (Bo done i) (Bn ρ o.dst v) w')\/(J0 ops o ρ=false/\I (Bo done i) (Bn ρ o.dst undef) w)
def Vr (P:Program) (ops:Array Oper) (I:Inv) (a0:Act):Nat->List Oper->Prop
 | _, []=>True
 | k,o :: l=>Ad6 P ops I a0 k o/\Vr P ops I a0 (k+1) l
theorem Rp {P:Program} {ops:Array Oper} {I:Inv} {a0:Act}:∀ (l:List Oper) (k:Nat),Vr P ops I a0 k l->∀ i o,l[i]?=some o->Ad6 P ops I a0 (k+i) o
 | [],_,_,i,o,h=>by simp at h
 | x :: l,k,h,i,o,ho=>by
   cases i with
   | zero=>simp at ho;subst ho;exact h.1
   | succ i=>have:=Rp l (k+1) h.2 i o (by simpa using ho);rwa [show k+1+i=k+(i+1) by omega] at this
def Ad4 (ops:Array Oper) (I:Inv) (a0:Act) (am:Array Bool) (a:Act) (w:World):Prop:=
 am.size=ops.size/\a.defers=a0.defers/\a.tmps.size=a0.tmps.size/\(∀ s,Iv ops s=false->Ab a s=Ab a0 s)/\I (fun j=>am.getD j false) (Ab a) w
theorem Ac1 {P:Program} {ops:Array Oper} {I:Inv} {a0:Act} {Q:Exit->Act->World->Prop} (hB:K8 ops a0.tmps.size=true)
 (BP:∀ i o,ops[i]?=some o->Ad6 P ops I a0 i o)
 (tp:∀ a w,a.defers=a0.defers->a.tmps.size=a0.tmps.size->(∀ s,Iv ops s=false->Ab a s=Ab a0 s)->I (fun j=>decide (j < ops.size)) (Ab a) w->Q .normal a w):
 ∀ (dv:Nat) (am:Array Bool) (a:Act) (w:World),Lt am ops.size=dv->Ad4 ops I a0 am a w->wpAny P .any ops Q dv am a w:=by
 unfold K8 at hB;rw [Bool.and_eq_true] at hB;obtain⟨eb,ER⟩:=hB;have BF:∀ i o,ops[i]?=some o->(∀ e∈o.after,Region.binds .any e=true->e.on < i)/\∀ d,o.dst=some d->d < a0.tmps.size:=by
  intro i o ho;have ai:i < ops.size:=(Array.getElem?_eq_some_iff.1 ho).1;have:=List.all_eq_true.1 eb i (List.mem_range.2 ai);rw [ho] at this;simp only [Bool.and_eq_true,Array.all_eq_true_iff_forall_mem,Bool.or_eq_true,Bool.not_eq_true',decide_eq_true_eq] at this;refine⟨fun e he hb=>(this.1 e he).resolve_left (by simp [hb]),fun d hd=>?_⟩;have h2:=this.2;rw [hd] at h2;simpa using h2
 have BI:∀ (am:Array Bool) (a:Act) (w:World),Ad4 ops I a0 am a w->Region.ready .any ops am= []->Q .normal a w:=by
  intro am a w hm hr;obtain⟨ay,cz,hs,hf,hI⟩:=hm;have cp:∀ n,n<=ops.size->∀ j,j < n->am.getD j false=true:=by
   intro n
   induction n with
   | zero=>intro _ j hj;omega
   | succ n ih=>
     intro hn j hj;rcases Nat.lt_or_ge j n with h' | h'
     ·exact ih (by omega) j h'
     ·have CJ:j=n:=by omega
      subst CJ;have NX:j < ops.size:=by omega
      have EL:j < am.size:=by omega
      cases hx:am.getD j true with
      | true=>simpa [EL] using hx
      | false=>
        have:j∈Region.ready .any ops am:=mem_ready.2 ⟨hx,ops[j],by simp [NX],fun e he hbi=>ih (by omega) e.on ((BF j ops[j] (by simp [NX])).1 e he hbi)⟩;rw [hr] at this;cases this
  refine tp a w cz hs hf ?_;have e:(fun j=>am.getD j false)=fun j=>decide (j < ops.size):=by
   funext j
   rcases Nat.lt_or_ge j ops.size with h | h
   ·rw [cp ops.size (Nat.le_refl _) j h,decide_eq_true h]
   ·rw [decide_eq_false (by omega)];simp [Array.getElem?_eq_none (xs:=am) (i:=j) (by omega)]
  rw [<-e];exact hI
 intro dv
 induction dv with
 | zero=>
   intro am a w KY hm;have hr:Region.ready .any ops am= []:=by
    refine List.eq_nil_iff_forall_not_mem.2 fun j hj=>?_;obtain⟨h0,o,ho,-⟩:=mem_ready.1 hj;have:=Rs _ KY j (Array.getElem?_eq_some_iff.1 ho).1;rw [h0] at this;cases this
   exact⟨hr,BI _ _ _ hm hr⟩
 | succ dv ih=>
   intro am a w KY hm;refine⟨fun hr=>BI _ _ _ hm hr,fun i hi=>?_⟩;obtain⟨ay,cz,hs,hf,hI⟩:=hm;obtain⟨h0,o,ho,cp⟩:=mem_ready.1 hi;have ai:i < ops.size:=(Array.getElem?_eq_some_iff.1 ho).1;have hli:am.getD i false=false:=by
    cases hx:am.getD i false with
    | false=>rfl
    | true=>
      have EL:i < am.size:=by omega
      simp [EL] at hx h0;rw [hx] at h0;cases h0
   have tz:=BP i o ho (fun j=>am.getD j false) (Ab a) w hli hf (fun j hj=>by
    unfold K6 at hj
    obtain⟨e,he,UA⟩:=X3 hj
    simp only [Bool.and_eq_true,beq_iff_eq] at UA
    exact UA.2 ▸ cp e he UA.1) hI
   have BJ:Lt (am.setIfInBounds i true) ops.size=dv:=by
    have:=Uf am i h0 ops.size;rw [if_pos ai] at this;omega
   have gw:∀ v w',I (Bo (fun j=>am.getD j false) i) (Bn (Ab a) o.dst v) w'->Ad4 ops I a0 (am.setIfInBounds i true) (a.put o.dst v) w':=by
    intro v w' hv;refine⟨by simp [ay],?_,?_,?_,?_⟩
    ·cases o.dst <;> exact cz
    ·cases o.dst <;> simp [Act.put,hs]
    ·intro s xw;rw [<-hf s xw];unfold Ab
     cases hd:o.dst with
     | none=>rfl
     | some d=>
       have ak:d≠s:=by
        intro e;subst e;unfold Iv at xw;have:(ops.any fun o=>o.dst == some d)=true:=Sl (Array.mem_of_getElem? ho) (by simp [hd]);rw [this] at xw;cases xw
       simp [Act.put,Array.getElem?_setIfInBounds_ne ak]
    ·have e1:(fun j=>(am.setIfInBounds i true).getD j false)=Bo (fun j=>am.getD j false) i:=by
      funext j
      unfold Bo;by_cases we:i=j
      ·subst we;have EL:i < am.size:=by omega
       simp [EL]
      ·rw [getD_set_ne false we,decide_eq_false (fun e=>we e.symm),Bool.false_or]
     have e2:Ab (a.put o.dst v)=Bn (Ab a) o.dst v:=by
      funext s
      unfold Ab Bn
      cases hd:o.dst with
      | none=>rfl
      | some d=>
        have KX:=(BF i o ho).2 d hd;rw [<-hs] at KX;by_cases TU:s=d
        ·subst TU;simp [Act.put,KX]
        ·have ak:d≠s:=fun e=>TU e.symm;simp [Act.put,Array.getElem?_setIfInBounds_ne ak,TU]
     rw [e1,e2];exact hv
   unfold wpOp;rw [ho];simp only;rw [Pt];rcases tz with⟨hw,hx⟩ | ⟨hw,hx⟩
   ·rw [if_pos hw];exact .inl (Pr hx fun v w' h2=>ih _ _ _ BJ (gw v w' h2))
   ·rw [hw];exact ih _ _ _ BJ (gw undef w hx)
theorem Bc {P:Program} {id:Nat} {l:List Oper} {Q:Exit->Act->World->Prop} {a:Act} {w:World} (I:Inv) (hm:P.follows .mixedOrders=true) (n:Nat) (hn:a.tmps.size=n) (hB:K8 l.toArray n=true)
 (h0:I (fun _=>false) (Ab a) w.drew) (BP:Vr P l.toArray I a 0 l)
 (tp:∀ a' w',a'.defers=a.defers->a'.tmps.size=n->(∀ s,Iv l.toArray s=false->Ab a' s=Ab a s)->I (fun j=>decide (j < l.length)) (Ab a') w'->Q .normal a' w'):
 (Code.region id l.toArray true).wp P Q a w:=by
 subst hn;refine wp_region_any hm (Ac1 (a0:=a) (I:=I) hB (fun i o ho=>by have:=Rp l 0 BP i o (by simpa using ho);rwa [Nat.zero_add] at this) (fun a' w' h2 h3 h4 h5=>tp a' w' h2 h3 h4 (by simpa using h5)) _ _ _ _ ?_ ?_)
 ·have:∀ n m,n<=m->Lt (Array.replicate m false) n=n:=by
   intro n
   induction n with
   | zero=>intro m _;rfl
   | succ n ih=>
     intro m hm;simp only [Lt];rw [ih m (by omega)];have:(Array.replicate m false).getD n true=false:=by simp [show n < m by omega]
     rw [this];simp
  exact this _ _ (Nat.le_refl _)
 ·refine⟨by simp,rfl,rfl,fun _ _=>rfl,?_⟩;have e:(fun j=>(Array.replicate l.toArray.size false).getD j false)=fun _=>false:=by
   funext j
   rcases Nat.lt_or_ge j l.length with h | h
   ·simp [h]
   ·simp [Array.getElem?_eq_none (xs:=Array.replicate l.length false) (i:=j) (by simpa using h)]
  rw [e];exact h0
theorem E7 {P:Program} {o:Oper} {ρ:Nat->Value} {w:World} {R:P9} (s x:Operand) (t:TypeId) (ho:o.op= .call { callee:= .builtin .append,args:=#[s,x],argTypes:=#[t,t] })
 (v xv:Value) (hs:Fg ρ s=v) (hx:Fg ρ x=xv) (v':Value) (w':World) (je:(Builtin.append_ #[t,t] o.type #[v,xv]).run P w= .ok v' w') (h:R v' w'):Ih P o ρ w R:=by
 unfold Ih execOp;simp only [ho,resolve,invoke,builtin,Sem.run_bind,Sem.run_pure,Result.andThen_ok,List.map_toArray,List.map_cons,List.map_nil,hs,hx,je];exact h
def Aaa (S:List (Option Nat)):Bool:=(List.range S.length).all fun i=>(List.range S.length).all fun j=>decide (i=j) || (match (S[i]?).join,(S[j]?).join with | some a,some b=>decide (a≠b) | _,_=>true)
def LI (L:List (Option (Nat×Value))) (Wp:World->Prop):Inv:=fun done ρ w=>Wp w/\∀ i s v,(L[i]?).join=some (s,v)->done i=true->ρ s=v
theorem LI.start (L:List (Option (Nat×Value))) {Wp:World->Prop} {ρ:Nat->Value} {w:World} (h:Wp w):LI L Wp (fun _=>false) ρ w:=⟨h,fun _ _ _ _ h=>by cases h⟩
theorem LI.get {L:List (Option (Nat×Value))} {Wp:World->Prop} {done:Nat->Bool} {ρ:Nat->Value} {w:World} (h:LI L Wp done ρ w) (i s:Nat) (v:Value) (hi:(L[i]?).join=some (s,v)) (hd:done i=true):ρ s=v:=h.2 i s v hi hd
theorem LI.put {L:List (Option (Nat×Value))} {Wp:World->Prop} {done:Nat->Bool} {ρ:Nat->Value} {w w':World} (h:LI L Wp done ρ w) (S:List (Option Nat)) (hS:L.map (Option.map Prod.fst)=S) (hB:Aaa S=true) (i d:Nat) (v:Value) (hi:(L[i]?).join=some (d,v)) (hw:Wp w'):
 LI L Wp (Bo done i) (Bn ρ (some d) v) w':=by
 refine⟨hw,fun j s u hj hd=>?_⟩;have slot:∀ (k s:Nat) (u:Value),(L[k]?).join=some (s,u)->(S[k]?).join=some s/\k < S.length:=by
  intro k s u hk;rw [<-hS,List.getElem?_map,List.length_map]
  cases hx:L[k]? with
  | none=>rw [hx] at hk;cases hk
  | some o=>
    rw [hx] at hk;simp only [Option.join] at hk;refine⟨?_,(List.getElem?_eq_some_iff.1 hx).1⟩;simp [Option.join] at hk |-;exact⟨u,hk⟩
 by_cases we:j=i
 ·subst we;rw [hi] at hj;simp only [Option.some.injEq,Prod.mk.injEq] at hj;obtain⟨rfl,rfl⟩:=hj;simp [Bn]
 ·obtain⟨s1,s2⟩:=slot j s u hj;obtain⟨s3,s4⟩:=slot i d v hi;have ak:s≠d:=by
   have:=List.all_eq_true.1 (List.all_eq_true.1 hB j (List.mem_range.2 s2)) i (List.mem_range.2 s4);rw [s1,s3] at this;simpa [we] using this
  simp only [Bn,ak,if_false];refine h.2 j s u hj ?_;simpa [Bo,we] using hd
theorem LI.world {L:List (Option (Nat×Value))} {Wp:World->Prop} {done:Nat->Bool} {ρ:Nat->Value} {w w':World} (h:LI L Wp done ρ w) (i:Nat) (v:Value) (hi:(L[i]?).join=none) (hw:Wp w'):LI L Wp (Bo done i) (Bn ρ none v) w':=by
 refine⟨hw,fun j s u hj hd=>h.2 j s u hj ?_⟩;have we:j≠i:=fun e=>by rw [e,hi] at hj;cases hj
 simpa [Bo,we] using hd
theorem Bm (T:Array Value) (n:Nat) (h:T.size=n):T=((List.range n).map fun i=>T.getD i undef).toArray:=by
 refine Array.ext (by simp [h]) fun i h1 h2=>?_;simp [Array.getD,h1]
end Go.Proofs.YtmkpfdcnikgokaaGreat
