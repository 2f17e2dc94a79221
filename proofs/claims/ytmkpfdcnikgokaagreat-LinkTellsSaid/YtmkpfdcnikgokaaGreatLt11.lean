/-
  Texts of this claim, put together: CodeAll, ListMath, EyeClock. What each theorem asks stands in its statement.
-/
import Derived.Test.YtmkpfdcnikgokaaGreatLt7
import Derived.Test.YtmkpfdcnikgokaaGreatLt8
import Derived.Test.YtmkpfdcnikgokaaGreatLt10
set_option linter.unusedVariables false
set_option linter.unusedSimpArgs false
set_option maxRecDepth 100000
set_option maxHeartbeats 25600000
namespace Go.Proofs.YtmkpfdcnikgokaaGreat
open Go.RowKit
/-- An operation of a list, as it lies. -/
structure OpL where
 k:Int
 t:Int
 r:Int
 A:Option Addr
 c:Nat
 p:List Rn
 z:Int
def OpL.cells (x:OpL):List Value:= [.int .u8 x.k,.int .u32 x.t,.int .u8 x.r,.slice x.A x.p.length x.c,.int .i64 x.z]
def opcs (L:List OpL):List Value:=L.flatMap OpL.cells
theorem opcs_get (L:List OpL) (j:Nat) (h:j < L.length) (i:Nat) (hi:i < 5):(opcs L)[j * 5+i]?=(L[j].cells)[i]?:=by
 induction L generalizing j with
 | nil=>simp at h
 | cons x L ih=>
   have e:opcs (x :: L)=x.cells++opcs L:=rfl
   have hl:x.cells.length=5:=rfl
   rw [e]
   cases j with
   | zero=>rw [List.getElem?_append_left (by omega)];simp
   | succ j=>
     rw [List.getElem?_append_right (by omega),hl]
     have:=ih j (by simpa using h)
     rw [show (j+1) * 5+i - 5=j * 5+i by omega]
     simpa using this
/-- A list of operations that is read. -/
def RO (w:World) (B:Nat) (A:Option Addr) (L:List OpL):Prop:=RD w B 5 A L.length (opcs L)∧∀ x∈L,RR w B x.A x.p
theorem RO.below {w w':World} {B:Nat} {A:Option Addr} {L:List OpL} (h:RO w B A L) (hb:Below B w w'):RO w' B A L:=⟨RD.below h.1 hb,fun x hx=>RD.below (h.2 x hx) hb⟩
theorem RO.more {w:World} {B B':Nat} {A:Option Addr} {L:List OpL} (h:RO w B A L) (hB:B≤B'):RO w B' A L:=⟨RD.more h.1 hB,fun x hx=>RD.more (h.2 x hx) hB⟩
theorem RO.cell {w:World} {B:Nat} {A:Option Addr} {L:List OpL} (h:RO w B A L) (hl:0 < L.length):∃ b off,A=some ⟨b,off,none⟩∧b < B∧∀ j (hj:j < L.length),
 w.cell? ⟨b,off+j * 5,none⟩=some (.int .u8 L[j].k)∧w.cell? ⟨b,off+j * 5+1,none⟩=some (.int .u32 L[j].t)∧w.cell? ⟨b,off+j * 5+2,none⟩=some (.int .u8 L[j].r)∧w.cell? ⟨b,off+j * 5+3,none⟩=some (.slice L[j].A L[j].p.length L[j].c)∧w.cell? ⟨b,off+j * 5+4,none⟩=some (.int .i64 L[j].z):=by
 obtain⟨b,off,e,hb,hc⟩:=h.1.2 hl
 refine⟨b,off,e,hb,fun j hj=>?_⟩
 have g:∀ i,i < 5→∀ u,(L[j].cells)[i]?=some u→w.cell? ⟨b,off+j * 5+i,none⟩=some u:=by
  intro i hi u hu
  rw [Nat.add_assoc]
  exact hc _ _ (by rw [opcs_get L j hj i hi,hu])
 exact⟨g 0 (by decide) _ rfl,g 1 (by decide) _ rfl,g 2 (by decide) _ rfl,g 3 (by decide) _ rfl,g 4 (by decide) _ rfl⟩
/-- Parts of their types. -/
def okO (x:OpL):Prop:=0≤x.k∧okI (x.t,x.r)∧(∀ y∈x.p,okR y)∧x.p.length < 1073741824
def mayL (x:OpL):Prop:=mayO x.k x.t x.r x.p x.z
instance (x:OpL):Decidable (mayL x):=by unfold mayL;infer_instance
def opBL (x:OpL):List UInt8:=opB x.k x.t x.r x.p x.z
/-- A list's bytes. -/
def allB (L:List OpL):List UInt8:=nbs [(L.length:Int)]++L.flatMap opBL
theorem tail_len {k t r was z:Int} (h:∀ a∈tailNums k t r was z,0≤a∧a≤1099511627776):(nbs (tailNums k t r was z)).length≤12:=by
 have h1:=nbs_len h
 have h2:(tailNums k t r was z).length≤2:=by unfold tailNums;split;·simp
                                             ·split <;> simp
 omega
theorem opB_len {x:OpL} (hm:mayL x) (ho:okO x):(opBL x).length≤1200:=by
 obtain⟨h0,hi,hr,-⟩:=ho
 have hk:1≤x.k∧x.k≤4:=by
  have:=hm.2.2
  unfold rightO at this
  omega
 have h1:=pre_len (k:=x.k) (by omega) hm.2.1 hr x.p.length
 rw [List.take_length] at h1
 have e:opBL x=nbs ([x.k,(x.p.length:Int)]++runNums 0 x.p)++nbs (tailNums x.k x.t x.r (wasR 0 x.p) x.z):=by
  rw [←nbs_append]
  rfl
 have hlw:=lastR_was hm.2.1 0
 have hpos:=mayR_last_pos hm.2.1
 obtain⟨mi1,mi2,mi3⟩:=hm.1
 unfold okI at hi
 simp only at hi
 have h2:(nbs (tailNums x.k x.t x.r (wasR 0 x.p) x.z)).length≤12:=by
  refine tail_len fun a ha=>?_
  unfold tailNums at ha
  rcases hm.2.2 with⟨g1,-,g3⟩ | ⟨g1,-,-⟩ | ⟨g1,-,g3⟩
  ·rw [if_pos g1] at ha
   simp only [List.mem_singleton] at ha
   subst ha
   have:=g3.1
   have:=g3.2.1
   omega
  ·rw [if_neg (by omega),if_pos g1] at ha
   cases ha
  ·rw [if_neg (by omega),if_neg (by omega)] at ha
   simp only [List.mem_cons,List.not_mem_nil,or_false] at ha
   omega
 rw [e,List.length_append]
 omega
theorem flat_len:∀ (L:List OpL),(∀ x∈L,mayL x∧okO x)→(L.flatMap opBL).length≤1200 * L.length
 | [],_=>by simp
 | x :: L,h=>by
   have h1:=flat_len L fun y hy=>h y (List.mem_cons_of_mem _ hy)
   have h2:=opB_len (h x List.mem_cons_self).1 (h x List.mem_cons_self).2
   rw [List.flatMap_cons,List.length_append,List.length_cons]
   omega
/-- An operation, wherever it lies. -/
abbrev OpP:=Int×Int×Int×List Rn×Int
instance:DecidableEq OpP:=fun a b=>decidable_of_iff (a.1=b.1∧a.2.1=b.2.1∧a.2.2.1=b.2.2.1∧a.2.2.2.1=b.2.2.2.1∧a.2.2.2.2=b.2.2.2.2) (by
 obtain⟨a0,a1,a2,a3,a4⟩:=a
 obtain⟨b0,b1,b2,b3,b4⟩:=b
 simp only [Prod.mk.injEq])
def OpL.op (x:OpL):OpP:=(x.k,x.t,x.r,x.p,x.z)
def opP (o:OpP):List UInt8:=opB o.1 o.2.1 o.2.2.1 o.2.2.2.1 o.2.2.2.2
def mayP (o:OpP):Prop:=mayO o.1 o.2.1 o.2.2.1 o.2.2.2.1 o.2.2.2.2
/-- What may be, in parts of its types. -/
def goodP (o:OpP):Prop:=mayP o∧(∀ x∈o.2.2.2.1,okR x)∧1≤o.1∧o.1≤4∧0≤o.2.2.1
/-- So many operations that bytes go on with, from a place on. -/
def goL (b:List UInt8):Nat→Nat→List OpP→Option (List OpP×Nat)
 | 0,a,acc=>some (acc,a)
 | m+1,a,acc=>match getP (b.drop a) with
   | none=>none
   | some (k,t,r,p,z,n)=>goL b m (a+n) (acc++ [(k,t,r,p,z)])
/-- The list that bytes begin with. -/
def readL (b:List UInt8):Option (List OpP×Nat):=(nxt b 0 0 1024).bind fun q=>goL b q.1.toNat q.2 []
def outL:Option (List OpP×Nat)→List OpP×Nat×Int
 | some (l,n)=>(l,n,0)
 | none=>([],0,8)
theorem lastR_nnL {p:List Rn} (hp:mayR p) (ho:∀ x∈p,okR x):0≤(lastR p).2:=by
 have hne:p≠ []:=fun e=>by rw [e] at hp;have:=hp.1;simp at this
 obtain⟨q,x,rfl⟩:∃ q x,p=q++ [x]:=⟨p.dropLast,p.getLast hne,(List.dropLast_concat_getLast hne).symm⟩
 rw [lastR_snoc q x hp]
 have:=ho x (by simp)
 unfold okR at this
 simp only
 omega
theorem getP_nnL {b:List UInt8} {k t r:Int} {p:List Rn} {z:Int} {n:Nat} (h:getP b=some (k,t,r,p,z,n)):0≤r:=by
 simp only [getP,Option.bind_eq_some_iff] at h
 obtain⟨⟨k',a1⟩,hk,⟨m,a2⟩,hm,⟨p',w,a3⟩,hr,⟨k2,t2,r2,p2,z2,n2⟩,ht,h⟩:=h
 simp only at hm hr ht h
 split at h
 ·rename_i hmay
  simp only [Option.some.injEq,Prod.mk.injEq] at h
  obtain⟨rfl,rfl,rfl,rfl,rfl,rfl⟩:=h
  obtain⟨t1,l1⟩:=nxt_take (L:= []) hk (by omega) (by simp [nbs])
  obtain⟨t2',l2⟩:=nxt_take hm l1 t1
  obtain⟨-,-,-,-,g5,-,-⟩:=rdRuns_inv m.toNat a2 0 _ p' w a3 (by omega) l2 t2' hr
  unfold rdTail at ht
  split at ht
  ·rw [Option.map_eq_some_iff] at ht
   obtain⟨⟨z',a4⟩,hz,he⟩:=ht
   simp only [Prod.mk.injEq] at he
   obtain⟨rfl,rfl,rfl,rfl,rfl,rfl⟩:=he
   exact lastR_nnL hmay.2.1 g5
  ·split at ht
   ·simp only [Option.some.injEq,Prod.mk.injEq] at ht
    obtain⟨rfl,rfl,rfl,rfl,rfl,rfl⟩:=ht
    exact lastR_nnL hmay.2.1 g5
   ·simp only [Option.bind_eq_some_iff,Option.map_eq_some_iff] at ht
    obtain⟨⟨d,a4⟩,hd,⟨r',a5⟩,hr',he⟩:=ht
    simp only [Prod.mk.injEq] at hd hr' he
    obtain⟨rfl,rfl,rfl,rfl,rfl,rfl⟩:=he
    exact (nxt_inv hr').1
 ·cases h
theorem getP_goodP {b:List UInt8} {k t r:Int} {p:List Rn} {z:Int} {n:Nat} (h:getP b=some (k,t,r,p,z,n)):goodP (k,t,r,p,z):=by
 obtain⟨h1,-,-,h4,h5,h6⟩:=getP_inv h
 exact⟨h1,h4,h5,h6,getP_nnL h⟩
theorem goL_inv {b:List UInt8} {pre:List UInt8}:∀ (m a:Nat) (acc l:List OpP) (n:Nat),goL b m a acc=some (l,n)→a≤b.length→b.take a=pre++acc.flatMap opP→(∀ o∈acc,goodP o)→
 (∀ o∈l,goodP o)∧l.length=acc.length+m∧n≤b.length∧b.take n=pre++l.flatMap opP
 | 0,a,acc,l,n,h,ha,ht,hg=>by
   simp only [goL,Option.some.injEq,Prod.mk.injEq] at h
   obtain⟨rfl,rfl⟩:=h
   exact⟨hg,rfl,ha,ht⟩
 | m+1,a,acc,l,n,h,ha,ht,hg=>by
   unfold goL at h
   cases hp:getP (b.drop a) with
   | none=>rw [hp] at h;cases h
   | some o=>
     obtain⟨k,t,r,p,z,s⟩:=o
     rw [hp] at h
     simp only at h
     have hgo:=getP_goodP hp
     obtain⟨-,h2,h3,-⟩:=getP_inv hp
     rw [List.length_drop] at h3
     obtain⟨g1,g2,g3,g4⟩:=goL_inv m (a+s) (acc++ [(k,t,r,p,z)]) l n h (by omega) (by
      rw [List.take_add,ht,h2,List.flatMap_append,List.flatMap_singleton,List.append_assoc]
      rfl) (fun o ho=>by
      rcases List.mem_append.1 ho with h' | h'
      ·exact hg o h'
      ·simp only [List.mem_singleton] at h'
       subst h'
       exact hgo)
     refine⟨g1,?_,g3,g4⟩
     rw [g2,List.length_append,List.length_singleton]
     omega
theorem readL_inv {b:List UInt8} {l:List OpP} {n:Nat} (h:readL b=some (l,n)):(∀ o∈l,goodP o)∧l.length≤1024∧n≤b.length∧b.take n=nbs [(l.length:Int)]++l.flatMap opP:=by
 unfold readL at h
 rw [Option.bind_eq_some_iff] at h
 obtain⟨⟨m,a⟩,hm,hg⟩:=h
 simp only at hg
 obtain⟨h1,h2,h3,-,-,-,-⟩:=nxt_inv hm
 obtain⟨t1,l1⟩:=nxt_take (L:= []) hm (by omega) (by simp [nbs])
 rw [List.nil_append] at t1
 obtain⟨g1,g2,g3,g4⟩:=goL_inv (pre:=nbs [m]) m.toNat a [] l n hg l1 (by rw [t1];simp) (fun o ho=>by cases ho)
 have hlm:(l.length:Int)=m:=by
  rw [g2,List.length_nil]
  omega
 refine⟨g1,by omega,g3,?_⟩
 rw [hlm]
 exact g4
theorem goL_fwd {rest:List UInt8}:∀ (l:List OpP) (pre:List UInt8) (acc:List OpP),(∀ o∈l,goodP o)→goL (pre++l.flatMap opP++rest) l.length pre.length acc=some (acc++l,(pre++l.flatMap opP).length)
 | [],pre,acc,_=>by simp [goL]
 | o :: l,pre,acc,h=>by
   obtain⟨k,t,r,p,z⟩:=o
   obtain⟨h1,h2,-,-,h5⟩:=h _ List.mem_cons_self
   have hd:(pre++((k,t,r,p,z) :: l).flatMap opP++rest).drop pre.length=opB k t r p z++(l.flatMap opP++rest):=by
    rw [List.append_assoc,List.drop_left,List.flatMap_cons,List.append_assoc]
    rfl
   have hf:=getP_fwd (l.flatMap opP++rest) h1 h2 h5
   simp only at hf
   rw [List.length_cons]
   unfold goL
   rw [hd,hf]
   simp only
   have ih:=goL_fwd (rest:=rest) l (pre++opB k t r p z) (acc++ [(k,t,r,p,z)]) fun o ho=>h o (List.mem_cons_of_mem _ ho)
   have e1:pre++opB k t r p z++l.flatMap opP++rest=pre++((k,t,r,p,z) :: l).flatMap opP++rest:=by
    rw [List.flatMap_cons,List.append_assoc pre]
    rfl
   have e2:pre++opB k t r p z++l.flatMap opP=pre++((k,t,r,p,z) :: l).flatMap opP:=by
    rw [List.flatMap_cons,List.append_assoc pre]
    rfl
   rw [e1,e2,List.length_append,List.append_assoc acc] at ih
   exact ih
theorem readL_fwd {l:List OpP} (rest:List UInt8) (h:∀ o∈l,goodP o) (hl:l.length≤1024):readL (nbs [(l.length:Int)]++l.flatMap opP++rest)=some (l,(nbs [(l.length:Int)]++l.flatMap opP).length):=by
 have hn:=nxt_fwd (b:=nbs [(l.length:Int)]++l.flatMap opP++rest) (rest:=l.flatMap opP++rest) (L:= []) (M:= []) (n:=(l.length:Int)) (lo:=0) (hi:=1024) (by simp) (by omega) (by omega) (by omega) (by omega)
 simp only [nbs_nil,List.length_nil,List.nil_append] at hn
 unfold readL
 rw [hn]
 show goL _ (l.length:Int).toNat (nbs [(l.length:Int)]).length []=_
 rw [Int.toNat_natCast,goL_fwd l (nbs [(l.length:Int)]) [] h,List.nil_append]
theorem op_flat (L:List OpL):(L.map OpL.op).flatMap opP=L.flatMap opBL:=by
 rw [List.flatMap_map]
 rfl
theorem allB_op (L:List OpL):allB L=nbs [((L.map OpL.op).length:Int)]++(L.map OpL.op).flatMap opP:=by
 unfold allB
 rw [op_flat,List.length_map]
/-- A list of operations in memory of the call's own. -/
def OO (w:World) (base:Nat) (A:Option Addr) (c:Nat) (L:List OpL):Prop:=
 w.ownsRow base 104 5 (.slice A L.length c) L.length (opcs L)∧∀ x∈L,w.ownsRow base 120 3 (.slice x.A x.p.length x.c) x.p.length (rns x.p)
theorem OO.below {w w':World} {base c:Nat} {A:Option Addr} {L:List OpL} (h:OO w base A c L) (hb:Below w.heap.size w w'):OO w' base A c L:=
 ⟨own_below h.1 hb (Nat.le_refl _),fun x hx=>own_below (h.2 x hx) hb (Nat.le_refl _)⟩
theorem OO.ro {w:World} {base c:Nat} {A:Option Addr} {L:List OpL} (h:OO w base A c L):RO w w.heap.size A L:=
 ⟨RD.of_own h.1,fun x hx=>RR.of_own (h.2 x hx) rfl⟩
theorem OO.nil (w:World) (base:Nat):OO w base none 0 []:=⟨World.ownsRow_nil _ _ _ _,fun x hx=>by cases hx⟩
theorem opcs_append (L M:List OpL):opcs (L++M)=opcs L++opcs M:=by simp [opcs]
theorem opcs_one (x:OpL):opcs [x]=x.cells:=by simp [opcs]
theorem cells_one (x:OpL):∀ u∈x.cells,u.oneCell'=true:=by
 intro u hu
 simp only [OpL.cells,List.mem_cons,List.not_mem_nil,or_false] at hu
 rcases hu with rfl | rfl | rfl | rfl | rfl <;> rfl
theorem opinfo:(Tryz.prog.info? 104).map (fun i=>(i.zero,i.size,i.bytes))=some (some (.agg #[.int .u8 0,.int .u32 0,.int .u8 0,.slice none 0 0,.int .i64 0]),5,48):=by kernel_rfl
theorem own_less {w:World} {base B:Nat} {e:TypeId} {size n:Nat} {v:Value} {L:List Value} (h:w.ownsRow base e size v n L) (hB:B≤base):w.ownsRow B e size v n L:=by
 refine⟨h.1,?_⟩
 rcases h.2 with h0 | ⟨g,cap,cur,h1,h2,h3⟩
 ·exact .inl h0
 ·exact .inr ⟨g,cap,cur,h1,Nat.le_trans hB h2,h3⟩
theorem own_kept {w w':World} {base:Nat} {e e':TypeId} {size n:Nat} {v:Value} {L:List Value} (h:w.ownsRow base e size v n L) (hne:e≠e') (hk:∀ (b:Nat) (o':Obj),w.heap[b]?=some o'→(∀ cur,o'≠ .cells cur e' (0,0))→w'.heap[b]?=some o'):w'.ownsRow base e size v n L:=by
 refine⟨h.1,?_⟩
 rcases h.2 with h0 | ⟨g,cap,cur,h1,h2,h3,h4⟩
 ·exact .inl h0
 ·exact .inr ⟨g,cap,cur,h1,h2,hk g _ h3 (fun cur e=>by simp only [Obj.cells.injEq] at e;exact hne e.2.1),h4⟩
theorem op_row (w:World) (x:OpL):RD (w.alloc (.cells #[.int .u8 x.k,.int .u32 x.t,.int .u8 x.r,.slice x.A x.p.length x.c,.int .i64 x.z] 104)) (w.alloc (.cells #[.int .u8 x.k,.int .u32 x.t,.int .u8 x.r,.slice x.A x.p.length x.c,.int .i64 x.z] 104)).heap.size 5 (some ⟨w.heap.size,0,none⟩) 1 x.cells:=by
 refine⟨rfl,fun _=>⟨_,_,rfl,by rw [World.size_alloc];omega,fun j u hu=>?_⟩⟩
 rw [Nat.zero_add,World.cell?_alloc_new,←Array.getElem?_toList]
 exact hu
/-- append of an operation onto a list of the call's own. -/
theorem wpList_append_op (w:World) {ops:Array Oper} {rest:List Oper} {o:Oper} {a:Act} {Q:Exit→Act→World→Prop} (hgd:o.guard=none) (s x:Operand)
 (ho:o.op= .call { callee:= .builtin .append,args:=#[s,x],argTypes:=#[48,48] })
 (base:Nat) (A:Option Addr) (c n:Nat) (L:List OpL) (hn:L.length=n) (hs:a.eval s= .slice A n c) (hOO:OO w base A c L)
 (y:OpL) (hy:w.ownsRow base 120 3 (.slice y.A y.p.length y.c) y.p.length (rns y.p)) (B:Option Addr) (hx:a.eval x= .slice B 1 1) (hr:RD w w.heap.size 5 B 1 y.cells)
 (h63:n+1≤1073741824) (hbase:base≤w.heap.size)
 (h:∀ A' c' w',OO w' base A' c' (L++ [y])→Below base w w'→(∀ (b:Nat) (o':Obj),w.heap[b]?=some o'→(∀ cur,o'≠ .cells cur 104 (0,0))→w'.heap[b]?=some o')→wpList Tryz.prog ops Q rest (a.put o.dst (.slice A' (n+1) c')) w'):wpList Tryz.prog ops Q (o :: rest) a w:=by
 obtain⟨i0,hi0,hz0,hz1,hz2⟩:=info_parts opinfo
 subst hn
 refine wpList_append_held w hgd s x 48 ho base 104 i0 (.agg #[.int .u8 0,.int .u32 0,.int .u8 0,.slice none 0 0,.int .i64 0]) 5 48 Tryz.underlying48 hi0 hz0 hz1 hz2 rfl (by decide) _ L.length (opcs L) hs hOO.1 w.heap.size B 1 1 y.cells hx hr (cells_one y) h63 (by decide) hbase fun v' w' h1 h2 h3=>?_
 obtain⟨A',c',rfl,-,-,-⟩:=own_slice h1
 refine h A' c' w' ⟨?_,fun q hq=>?_⟩ h2 h3
 ·rw [opcs_append,opcs_one,List.length_append,List.length_singleton]
  exact h1
 ·rcases List.mem_append.1 hq with hq | hq
  ·exact own_kept (hOO.2 q hq) (by decide) h3
  ·simp only [List.mem_singleton] at hq
   subst hq
   exact own_kept hy (by decide) h3
/-- A clock in memory of the call's own. -/
def OTm (w:World) (base:Nat) (A:Option Addr) (c:Nat) (L:List TmL):Prop:=
 w.ownsRow base 123 2 (.slice A L.length c) L.length (tms L)∧∀ x∈L,w.ownsRow base 129 2 (.slice x.A x.s.length x.c) x.s.length (sps x.s)
theorem OTm.below {w w':World} {base c:Nat} {A:Option Addr} {L:List TmL} (h:OTm w base A c L) (hb:Below w.heap.size w w'):OTm w' base A c L:=
 ⟨own_below h.1 hb (Nat.le_refl _),fun x hx=>own_below (h.2 x hx) hb (Nat.le_refl _)⟩
theorem OTm.at {w w':World} {base c g:Nat} {A:Option Addr} {L:List TmL} (h:OTm w base A c L) (hg:g < base) (ho:OnlyAt g w w'):OTm w' base A c L:=
 ⟨own_at h.1 hg ho,fun x hx=>own_at (h.2 x hx) hg ho⟩
theorem OTm.nil (w:World) (base:Nat):OTm w base none 0 []:=⟨World.ownsRow_nil _ _ _ _,fun x hx=>by cases hx⟩
theorem OTm.less {w:World} {base B c:Nat} {A:Option Addr} {L:List TmL} (h:OTm w base A c L) (hB:B≤base):OTm w B A c L:=⟨own_less h.1 hB,fun x hx=>own_less (h.2 x hx) hB⟩
theorem OTm.rt {w:World} {base c:Nat} {A:Option Addr} {L:List TmL} (h:OTm w base A c L):RT w w.heap.size A L:=⟨RD.of_own h.1,fun x hx=>RD.of_own (h.2 x hx)⟩
theorem tminfo:(Tryz.prog.info? 123).map (fun i=>(i.zero,i.size,i.bytes))=some (some (.agg #[.int .u8 0,.slice none 0 0]),2,32):=by kernel_rfl
theorem spinfo:(Tryz.prog.info? 129).map (fun i=>(i.zero,i.size,i.bytes))=some (some (.agg #[.int .u32 0,.int .u32 0]),2,8):=by kernel_rfl
theorem tms_snoc (L:List TmL) (y:TmL):tms L++y.cells=tms (L++ [y]):=by rw [tms_append];simp [tms]
theorem sps_snoc (l:List Sp) (y:Sp):sps l++ [.int .u32 y.1,.int .u32 y.2]=sps (l++ [y]):=by rw [sps_append];simp [sps]
theorem pb_row (w:World) (a b:Value) (T:TypeId):RD (w.alloc (.cells #[a,b] T)) (w.alloc (.cells #[a,b] T)).heap.size 2 (some ⟨w.heap.size,0,none⟩) 1 [a,b]:=by
 refine⟨rfl,fun _=>⟨_,_,rfl,by rw [World.size_alloc];omega,fun j u hu=>?_⟩⟩
 rw [Nat.zero_add,World.cell?_alloc_new,←Array.getElem?_toList]
 exact hu
theorem own_setT {w:World} {base g size n:Nat} {e T:TypeId} {v:Value} {L:List Value} {a b:Value} (h:w.ownsRow base e size v n L) (hF:PB w g a b T) (hT:e≠T) (off:Nat) (u:Value):(w.setCell ⟨g,off,none⟩ u).ownsRow base e size v n L:=by
 refine⟨h.1,?_⟩
 rcases h.2 with h0 | ⟨q,cap,cur,h1,h2,h3,h4⟩
 ·exact .inl h0
 ·have hne:q≠g:=by
   intro e
   unfold PB at hF
   rw [←e,h3] at hF
   simp only [Option.some.injEq,Obj.cells.injEq] at hF
   exact hT hF.2.1
  exact .inr ⟨q,cap,cur,h1,h2,(heap_setCell_other _ _ _ _ hne).trans h3,h4⟩
theorem EY.belowB {w w':World} {g B:Nat} {st:ES} (h:EY w g st) (hb:Below B w w') (hg:g < B):EY w' g st:=by
 obtain⟨A,c,h1,h2,h3⟩:=h
 exact⟨A,c,(hb.block g hg).trans h1,RBT.below h2 (hb.mono (Nat.le_of_lt hg)),h3⟩
/-- append of one to a clock of the call's own. -/
theorem wpList_append_tm (w:World) {ops:Array Oper} {rest:List Oper} {o:Oper} {a:Act} {Q:Exit→Act→World→Prop} (hgd:o.guard=none) (s x:Operand)
 (ho:o.op= .call { callee:= .builtin .append,args:=#[s,x],argTypes:=#[47,47] })
 (base:Nat) (A:Option Addr) (c n:Nat) (L:List TmL) (hn:L.length=n) (hs:a.eval s= .slice A n c) (hO:OTm w base A c L)
 (y:TmL) (hy:w.ownsRow base 129 2 (.slice y.A y.s.length y.c) y.s.length (sps y.s)) (B:Option Addr) (hx:a.eval x= .slice B 1 1) (hr:RD w w.heap.size 2 B 1 y.cells)
 (h63:n+1≤1073741824) (hbase:base≤w.heap.size)
 (h:∀ A' c' w',OTm w' base A' c' (L++ [y])→Below base w w'→wpList Tryz.prog ops Q rest (a.put o.dst (.slice A' (n+1) c')) w'):wpList Tryz.prog ops Q (o :: rest) a w:=by
 obtain⟨i0,hi0,hz0,hz1,hz2⟩:=info_parts tminfo
 subst hn
 refine wpList_append_held w hgd s x 47 ho base 123 i0 (.agg #[.int .u8 0,.slice none 0 0]) 2 32 Tryz.underlying47 hi0 hz0 hz1 hz2 rfl (by decide) _ L.length (tms L) hs hO.1 w.heap.size B 1 1 y.cells hx hr (fun u hu=>tms_one [y] u (by simpa [tms] using hu)) h63 (by decide) hbase fun v' w' h1 h2 h3=>?_
 obtain⟨A',c',rfl,-,-,-⟩:=own_slice h1
 refine h A' c' w' ⟨?_,fun q hq=>?_⟩ h2
 ·rw [←tms_snoc,List.length_append,List.length_singleton]
  exact h1
 ·rcases List.mem_append.1 hq with hq | hq
  ·exact own_kept (hO.2 q hq) (by decide) h3
  ·simp only [List.mem_singleton] at hq
   subst hq
   exact own_kept hy (by decide) h3
/-- The spans of a replica, as they are read: none where something is wrong. -/
def eyeSp (acc:List Sp):Nat→Int→ES→Option (List Sp)×ES
 | 0,_,st=>(some acc,st)
 | k+1,was,st=>
   if 1073741824 < was+(eyeN 1073741824 st).1+(eyeN 1073741824 (eyeN 1073741824 st).2).1∨(eyeN 1073741824 (eyeN 1073741824 st).2).2.2=true then (none,((eyeN 1073741824 (eyeN 1073741824 st).2).2.1,true))
   else eyeSp (acc++ [(was+(eyeN 1073741824 st).1,was+(eyeN 1073741824 st).1+(eyeN 1073741824 (eyeN 1073741824 st).2).1)]) k (was+(eyeN 1073741824 st).1+(eyeN 1073741824 (eyeN 1073741824 st).2).1) (eyeN 1073741824 (eyeN 1073741824 st).2).2
/-- The rest of a clock behind a replica's spans. -/
def eyeTmK (K:List PT→ES→List PT×ES) (acc:List PT) (R:Int):Option (List Sp)×ES→List PT×ES
 | (none,st)=>([],st)
 | (some s,st)=>K (acc++ [(R,s)]) st
/-- A clock's replicas, as they are read. -/
def eyeTm:Nat→List PT→ES→List PT×ES
 | 0,acc,st=>(acc,st)
 | k+1,acc,st=>eyeTmK (eyeTm k) acc (eyeN 7 st).1 (eyeSp [] (eyeN 1024 (eyeN 7 st).2).1.toNat 0 (eyeN 1024 (eyeN 7 st).2).2)
theorem eyeSp_step {acc:List Sp} {k:Nat} {was a b:Int} {st t1 t2:ES} (ha:eyeN 1073741824 st=(a,t1)) (hb:eyeN 1073741824 t1=(b,t2)):
 eyeSp acc (k+1) was st=if 1073741824 < was+a+b∨t2.2=true then (none,(t2.1,true)) else eyeSp (acc++ [(was+a,was+a+b)]) k (was+a+b) t2:=by
 simp only [eyeSp,ha,hb]
theorem eyeTm_step {acc:List PT} {k:Nat} {R m:Int} {st r1 r2:ES} (ha:eyeN 7 st=(R,r1)) (hb:eyeN 1024 r1=(m,r2)):
 eyeTm (k+1) acc st=eyeTmK (eyeTm k) acc R (eyeSp [] m.toNat 0 r2):=by
 simp only [eyeTm,ha,hb]
/-- The next clock. -/
def eyeC (st:ES):List PT×ES:=eyeTm (eyeN 8 st).1.toNat [] (eyeN 8 st).2
theorem eyeclock (g:Nat) (st:ES) (w:World) (h:EY w g st) (P:List PT) (s9:ES) (hx:eyeC st=(P,s9)):
 Calls Tryz.prog 59 #[.pointer (some ⟨g,0,none⟩)] w fun e w'=>∃ A c L,e= .returned (.slice A (List.length (α:=TmL) L) c)∧L.map TmL.pt=P∧OTm w' w.heap.size A c L∧(∀ x∈L,okT x)∧L.length≤8∧EY w' g s9∧OnlyAt g w w':=by
 obtain⟨i0,hi0,hz0,hz1,hz2⟩:=info_parts spinfo
 have hlt:=h.lt
 have Hlt:=hide hlt
 have Hle:=hide (Nat.le_of_lt hlt)
 unfold eyeC at hx
 obtain⟨n,s1,h1⟩:∃ x s,eyeN 8 st=(x,s):=⟨_,_,rfl⟩
 rw [h1] at hx
 simp only at hx
 have H1:=hide h1
 have HX:=hide hx
 have HE:=hide h
 clear h1 hx h hlt
 go_enter Tryz.func59,Tryz.ntmps59
 have hmf:∀ (fn:Fn) (first cap:Array Value) (W:World),(Instr.makeFunc fn first cap).run Tryz.prog W= .ok (.func fn first cap) W:=fun _ _ _ _=>rfl
 go_wp2_with fail
 refine (eye_at g 8 st w HE.out n s1 H1.out (by decide)).mono ?_
 rintro e w2 ⟨rfl,hE2,ho2,x0,x1⟩
 have HE2:=hide hE2
 have HO2:=hide ho2
 obtain⟨N,rfl⟩:∃ N:Nat,n=N:=⟨n.toNat,by omega⟩
 have HX2:=HX
 rw [Int.toNat_natCast] at HX2
 clear hE2 ho2 HX HE
 go_wp2_with fail
 go_loopw [2,11] (fun v i wr=>∃ (j:Nat) (A:Option Addr) (c:Nat) (L:List TmL) (sj:ES),j≤N∧i= .int .i64 (j:Int)∧v= .slice A j c∧Hid (L.length=j)∧Hid (eyeTm (N - j) (L.map TmL.pt) sj=(P,s9))∧Hid (OTm wr w.heap.size A c L)∧Hid (∀ x∈L,okT x)∧Hid (EY wr g sj)∧Hid (OnlyAt g w wr)) (fun _ i _=>N - (intOf i).toNat)
 case atStart=>exact⟨0,none,0, [],s1,by omega,rfl,rfl,hide rfl,HX2,hide (OTm.nil _ _),hide (fun x hx=>by cases hx),HE2,HO2⟩
 case round=>
  obtain⟨j,A,c,L,sj,hj,rfl,rfl,HLl,HP,HT,HK,HEj,HOj⟩:=hrel
  clear HX2 HE2 HO2
  by_cases hlt:j < N
  ·have z0:(j:Int) < N:=by omega
   have HP1:=HP
   rw [show N - j=(N - (j+1))+1 by omega] at HP1
   obtain⟨R,r1,hR⟩:∃ x s,eyeN 7 sj=(x,s):=⟨_,_,rfl⟩
   obtain⟨m,r2,hm⟩:∃ x s,eyeN 1024 r1=(x,s):=⟨_,_,rfl⟩
   rw [eyeTm_step hR hm] at HP1
   have HP2:=hide HP1.out
   have HR:=hide hR
   have Hm:=hide hm
   clear HP HP1 hR hm
   go_wp2_with fail
   refine (eye_at g 7 sj wr HEj.out R r1 HR.out (by decide)).mono ?_
   rintro e w3 ⟨rfl,hE3,ho3,R0,R1⟩
   have HE3:=hide hE3
   have HO3:=hide (HOj.out.trans ho3)
   have HT3:=hide (HT.out.at Hlt.out ho3)
   have hRu:IntKind.u8.wrap R=R:=by simp [IntKind.wrap,IntKind.bits,IntKind.signed];omega
   obtain⟨w4,hw4,F4,hs4,hb4⟩:=two_pb w3 (.int .u8 R) (.slice none 0 0) 123
   have hlt3:=HE3.out.lt
   obtain⟨gx,hgx⟩:∃ q,q=w3.heap.size:=⟨_,rfl⟩
   have Hgx:=hide hgx
   have Hg:=hide (show g < gx by rw [hgx];exact hlt3)
   have Hwx:=hide (show w.heap.size≤gx by rw [hgx];exact HO3.out.1.size)
   have HE4:=hide (HE3.out.below hb4)
   have HO4:=hide (OnlyAt.below hb4 (Nat.le_of_lt hlt3))
   obtain⟨y0,y1⟩:=F4.cells
   have g0:=F4.fr 0
   have g1:=F4.fr 1
   have HF4:Hid (PB w4 gx (.int .u8 R) (.slice none 0 0) 123):=hide (by rw [hgx];exact F4)
   have Hw4:=hide hw4
   clear HT HOj HEj hE3 ho3 F4 hb4 hlt3 hgx hw4 y0 y1 g0 g1
   go_wp2_with fail
   rw [Hw4.out,←Hgx.out]
   clear Hw4
   refine (eye_at g 1024 r1 w4 HE4.out m r2 Hm.out (by decide)).mono ?_
   rintro e w5 ⟨rfl,hE5,ho5,m0,m1⟩
   have HE5:=hide hE5
   have HO5:=hide (HO4.out.trans ho5)
   have HF5:=hide (HF4.out.only ho5 (by have:=Hg.out;omega))
   obtain⟨M,rfl⟩:∃ M:Nat,m=M:=⟨m.toNat,by omega⟩
   rw [Int.toNat_natCast] at HP2
   clear hE5 ho5 HE4 HO4 HF4
   go_wp2_with fail
   go_loopw [2,5,19] (fun q v i wr=>∃ (k:Nat) (was:Int) (A2:Option Addr) (c2:Nat) (l:List Sp) (sk:ES),q= .slice A j c∧k≤M∧i= .int .i64 (k:Int)∧v= .int .i64 was∧0≤was∧was≤1073741824∧Hid (l.length=k)∧Hid (eyeSp l (M - k) was sk=eyeSp [] M 0 r2)∧Hid (PB wr gx (.int .u8 R) (.slice A2 (List.length (α:=Sp) l) c2) 123)∧Hid (wr.ownsRow gx 129 2 (.slice A2 (List.length (α:=Sp) l) c2) l.length (sps l))∧Hid (∀ x∈l,okS x)∧Hid (EY wr g sk)∧Hid (OnlyAt g w3 wr)) (fun _ _ i _=>M - (intOf i).toNat)
   case atStart=>exact⟨0,0,none,0, [],r2,rfl,by omega,rfl,rfl,by decide,by decide,hide rfl,hide rfl,HF5,hide (World.ownsRow_nil _ _ _ _),hide (fun x hx=>by cases hx),HE5,HO5⟩
   case round=>
    obtain⟨k,was,A2,c2,l,sk,rfl,hk,rfl,rfl,hw0,hw9,Hll,HS,HF,HR2,HKs,HEk,HOk⟩:=hrel
    clear HE5 HO5 HF5
    by_cases hlk:k < M
    ·have z1:(k:Int) < M:=by omega
     have HS1:=HS
     rw [show M - k=(M - (k+1))+1 by omega] at HS1
     obtain⟨a,t1,ha⟩:∃ x s,eyeN 1073741824 sk=(x,s):=⟨_,_,rfl⟩
     obtain⟨b,t2,hb⟩:∃ x s,eyeN 1073741824 t1=(x,s):=⟨_,_,rfl⟩
     rw [eyeSp_step ha hb] at HS1
     have HS2:=hide HS1.out
     have Ha:=hide ha
     have Hb:=hide hb
     clear HS HS1 ha hb
     go_wp2_with fail
     refine (eye_at g 1073741824 sk _ HEk.out a t1 Ha.out (by decide)).mono ?_
     rintro e w6 ⟨rfl,hE6,ho6,a0,a1⟩
     have HE6:=hide hE6
     have HO6:=hide (HOk.out.trans ho6)
     have HF6:=hide (HF.out.only ho6 (by have:=Hg.out;omega))
     have HR6:=hide (own_at HR2.out Hg.out ho6)
     have ha64:IntKind.i64.wrap (was+a)=was+a:=IntWalk.i64_in _ (by omega)
     clear hE6 ho6 HEk HOk HF HR2
     go_wp2_with fail
     refine (eye_at g 1073741824 t1 w6 HE6.out b t2 Hb.out (by decide)).mono ?_
     rintro e w7 ⟨rfl,hE7,ho7,b0,b1⟩
     have HE7:=hide hE7
     have HO7:=hide (HO6.out.trans ho7)
     have HO7x:=HO7
     have HF7:=hide (HF6.out.only ho7 (by have:=Hg.out;omega))
     have HR7:=hide (own_at HR6.out Hg.out ho7)
     have hb64:IntKind.i64.wrap (was+a+b)=was+a+b:=IntWalk.i64_in _ (by omega)
     clear hE7 ho7 HE6 HO6 HF6 HR6
     by_cases hbig:(1073741824:Int) < was+a+b∨t2.2=true
     ·have HQ:=hide (show eyeSp [] M 0 r2=(none,(t2.1,true)) by rw [←HS2.out,if_pos hbig])
      have HQ2:=hide (show P= []∧s9=(t2.1,true) by
       have:=HP2.out
       rw [HQ.out] at this
       simp only [eyeTmK,Prod.mk.injEq] at this
       exact⟨this.1.symm,this.2.symm⟩)
      have HE8:=hide (HE7.out.setBad true)
      have HO8:=hide ((HO3.out.trans HO7x.out).trans (OnlyAt.set g 1 w7 (.bool true)))
      have f1:=HE7.out.fr1
      have c1:=HE7.out.cell1
      obtain⟨bb,hbb⟩:∃ q,q=t2.2:=⟨_,rfl⟩
      rw [←hbb] at c1
      have hcs:(1073741824:Int) < was+a+b∨¬ (1073741824:Int) < was+a+b∧bb=true:=by
       by_cases h:(1073741824:Int) < was+a+b
       ·exact .inl h
       ·exact .inr ⟨h,by rw [hbb];exact hbig.resolve_left h⟩
      clear HS2 HP2 HQ HT3 HKs HE3 hbig hbb
      rcases hcs with hcs | ⟨hcs,rfl⟩
      all_goals
       go_wp2_with fail
       go_ret
       exact⟨none,0, [],rfl,HQ2.out.1.symm,OTm.nil _ _,fun x hx=>(by cases hx),Nat.zero_le _,by rw [HQ2.out.2];exact HE8.out,HO8.out⟩
     ·obtain⟨hbg,hbad⟩:¬ (1073741824:Int) < was+a+b∧t2.2=false:=by
       refine⟨fun h=>hbig (.inl h),?_⟩
       cases h:t2.2
       ·rfl
       ·exact absurd (.inr h) hbig
      have HS3:=hide (show eyeSp (l++ [(was+a,was+a+b)]) (M - (k+1)) (was+a+b) t2=eyeSp [] M 0 r2 by rw [←HS2.out,if_neg hbig])
      obtain⟨w8,hw8,F8,hs8,hb8⟩:=two_pb w7 (.int .u32 (was+a)) (.int .u32 (was+a+b)) 129
      have hrow:RD w8 w8.heap.size 2 (some ⟨w7.heap.size,0,none⟩) 1 [.int .u32 (was+a),.int .u32 (was+a+b)]:=by rw [←hw8];exact pb_row _ _ _ _
      have HF8:=hide (HF7.out.below hb8)
      have hownY:=own_below HR7.out hb8 (Nat.le_refl _)
      have HE8:=hide (HE7.out.below hb8)
      have HO8:=hide (HO7.out.trans (OnlyAt.below hb8 (Nat.le_of_lt HE7.out.lt)))
      have c1:=HE7.out.cell1
      rw [hbad] at c1
      obtain⟨y0,y1⟩:=HF7.out.cells
      have hau:IntKind.u32.wrap (was+a)=was+a:=IntWalk.u32_in _ (by omega)
      have hbu:IntKind.u32.wrap (was+a+b)=was+a+b:=IntWalk.u32_in _ (by omega)
      have hgx8:gx≤w8.heap.size:=by
       have:=HO8.out.1.size
       have:=(Array.getElem?_eq_some_iff.1 HF8.out).1
       omega
      have hsz:l.length+1≤1073741824:=by have:=Hll.out;omega
      have Hw8:=hide hw8
      clear HS2 hbig hbad F8 hw8 hs8 hb8
      go_wp2_with (at_builtin;refine wpList_append_held _ rfl (.tmp 41) (.tmp 47) 121 rfl gx 129 i0 (.agg #[.int .u32 0,.int .u32 0]) 2 8 Tryz.underlying121 hi0 hz0 hz1 hz2 rfl (by decide) _ l.length (sps l) rfl (by rw [Hw8.out];exact hownY) w8.heap.size (some ⟨w7.heap.size,0,none⟩) 1 1 [.int .u32 (was+a),.int .u32 (was+a+b)] rfl (by rw [Hw8.out];exact hrow) (sps_one [(was+a,was+a+b)]) hsz (by decide) (by rw [Hw8.out];exact hgx8) ?_;rw [Hw8.out];intro v9 w9 hown9 hb9 hk9;obtain⟨A9,c9,rfl,-,-,-⟩:=own_slice hown9;have HF9:=hide (hk9 gx _ HF8.out (fun cur e=>by simp at e));clear y0 y1 c1;obtain⟨y0,y1⟩:=PB.cells HF9.out;have q1:=PB.fr HF9.out 1)
      go_roundw
      case rel=>
       refine⟨k+1,was+a+b,A9,c9,l++ [(was+a,was+a+b)],t2,rfl,by omega,by go_num,rfl,by omega,by omega,hide ?_,HS3,hide ?_,hide ?_,hide ?_,hide ?_,hide ?_⟩
       ·rw [List.length_append,Hll.out];rfl
       ·rw [List.length_append,List.length_singleton]
        exact PB.set1 HF9.out _
       ·rw [List.length_append,List.length_singleton,←sps_snoc]
        exact own_setT hown9 HF9.out (by decide) 1 _
       ·intro x hx
        rcases List.mem_append.1 hx with h | h
        ·exact HKs.out x h
        ·simp only [List.mem_singleton] at h
         subst h
         exact⟨by simp only;omega,by simp only;omega,by simp only;omega,by simp only;omega⟩
       ·exact (HE8.out.belowB hb9 Hg.out).other Hg.out 1 _
       ·exact (HO8.out.more (by rw [←Hgx.out];exact hb9) (by have:=Hg.out;rw [←Hgx.out];omega)).setNew (Nat.le_of_eq Hgx.out.symm) (by have:=Hg.out;rw [←Hgx.out];omega) 1 _
      case measure=>simp [intOf];omega
    ·have z1:¬ (k:Int) < M:=by omega
     obtain rfl:k=M:=by omega
     have HP3:=hide (show eyeTm (N - (j+1)) ((L++ [(⟨R,A2,c2,l⟩:TmL)]).map TmL.pt) sk=(P,s9) by
      have:=HP2.out
      rw [←HS.out,Nat.sub_self] at this
      rw [List.map_append]
      exact this)
     obtain⟨y0,y1⟩:=HF.out.cells
     have HTr:=hide (HT3.out.at Hlt.out HOk.out)
     have HO8:=hide (HO3.out.trans HOk.out)
     have HR8:=hide (own_less HR2.out Hwx.out)
     clear HS HP2 HT3 HO3 HOk HR2
     have hbx:w.heap.size≤wr.heap.size:=HO8.out.1.size
     have hrow:=pb_row wr (.int .u8 R) (.slice A2 l.length c2) 123
     have HEx:=hide (HEk.out.below (boxed wr (.cells #[.int .u8 R,.slice A2 l.length c2] 123)))
     have HOx:=hide (HO8.out.trans (OnlyAt.below (boxed wr (.cells #[.int .u8 R,.slice A2 l.length c2] 123)) (Nat.le_of_lt HEk.out.lt)))
     have Hokx:=hide (show okT ⟨R,A2,c2,l⟩ from⟨R0,by show R < 256;omega,HKs.out,by have:=Hll.out;show l.length < _;omega⟩)
     go_wp2_with (at_builtin;refine wpList_append_tm _ rfl (.tmp 51) (.tmp 53) rfl w.heap.size A c j L HLl.out rfl (HTr.out.below (boxed _ _)) ⟨R,A2,c2,l⟩ (own_below HR8.out (boxed _ _) (Nat.le_refl _)) (some ⟨wr.heap.size,0,none⟩) rfl hrow (by omega) (Nat.le_trans hbx (boxed wr _).size) ?_;intro A3 c3 w9 hT9 hb9)
     go_roundw
     case rel=>
      refine⟨j+1,A3,c3,L++ [⟨R,A2,c2,l⟩],sk,by omega,by go_num,rfl,hide ?_,HP3,hide hT9,hide ?_,hide (HEx.out.belowB hb9 Hlt.out),hide (HOx.out.more hb9 Hle.out)⟩
      ·rw [List.length_append,HLl.out];rfl
      ·intro x hx
       rcases List.mem_append.1 hx with h | h
       ·exact HK.out x h
       ·simp only [List.mem_singleton] at h
        subst h
        exact Hokx.out
     case measure=>simp [intOf];omega
  ·have z0:¬ (j:Int) < N:=by omega
   obtain rfl:j=N:=by omega
   have HP9:=hide (show L.map TmL.pt=P∧sj=s9 by
    have:=HP.out
    rw [Nat.sub_self] at this
    simp only [eyeTm,Prod.mk.injEq] at this
    exact this)
   clear HP
   go_wp2_with fail
   go_ret
   exact⟨A,c,L,by rw [HLl.out];rfl,HP9.out.1,HT.out,HK.out,by rw [HLl.out];omega,by rw [←HP9.out.2];exact HEj.out,HOj.out⟩
end Go.Proofs.YtmkpfdcnikgokaaGreat
