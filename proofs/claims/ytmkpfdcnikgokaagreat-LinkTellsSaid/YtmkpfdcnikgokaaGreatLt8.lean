/-
  Texts of this claim, put together: CodeMath, NumPut, NumGet, NumRefB, CodePut, OpBox, CodeWrite. What each theorem asks stands in its statement.
-/
import Derived.Test.YtmkpfdcnikgokaaGreatRows
import Derived.IntWalk
import Derived.Test.YtmkpfdcnikgokaaGreatLt1
import Derived.Test.YtmkpfdcnikgokaaGreatLt4
import Derived.Test.YtmkpfdcnikgokaaGreatLt7
set_option linter.unusedVariables false
set_option linter.unusedSimpArgs false
set_option maxRecDepth 100000
set_option maxHeartbeats 25600000
namespace Go.Proofs.YtmkpfdcnikgokaaGreat
/-- The bytes of numbers. -/
def nbs (L:List Int):List UInt8:=L.flatMap fun z=>nb z.toNat
theorem nbs_nil:nbs []= []:=rfl
theorem nbs_append (L M:List Int):nbs (L++M)=nbs L++nbs M:=by simp [nbs]
theorem nbs_cons (z:Int) (L:List Int):nbs (z :: L)=nb z.toNat++nbs L:=by simp [nbs]
/-- A place's numbers, from a time on; its last time. -/
def runNums:Int→List Rn→List Int
 | _, []=> []
 | was,x :: p=>(x.1 - was) :: x.2.1 :: x.2.2 :: runNums (x.1+x.2.2 - 1) p
def wasR:Int→List Rn→Int
 | was, []=>was
 | _,x :: p=>wasR (x.1+x.2.2 - 1) p
theorem runNums_append:∀ (p q:List Rn) (was:Int),runNums was (p++q)=runNums was p++runNums (wasR was p) q
 | [],_,_=>rfl
 | x :: p,q,was=>by simp [runNums,wasR,runNums_append p q]
theorem wasR_append:∀ (p q:List Rn) (was:Int),wasR was (p++q)=wasR (wasR was p) q
 | [],_,_=>rfl
 | x :: p,q,was=>by simp [wasR,wasR_append p q]
/-- What stands behind the runs. -/
def tailNums (k t r was z:Int):List Int:=if k=1 then [z] else if k=2 then [] else [t - was,r]
/-- An operation's numbers, and bytes. -/
def opNums (k t r:Int) (p:List Rn) (z:Int):List Int:=k :: (p.length:Int) :: (runNums 0 p++tailNums k t r (wasR 0 p) z)
def opB (k t r:Int) (p:List Rn) (z:Int):List UInt8:=nbs (opNums k t r p z)
/-- The next number of bytes, from a place on; none: there is none between these. -/
def nxt (b:List UInt8) (a:Nat) (lo hi:Int):Option (Int×Nat):=
 match gget (b.drop a) with
 | some (n,s)=>if (n:Int) < lo∨hi < (n:Int) then none else some ((n:Int),a+s)
 | none=>none
theorem nxt_inv {b:List UInt8} {a a':Nat} {lo hi n:Int} (h:nxt b a lo hi=some (n,a')):lo≤n∧n≤hi∧0≤n∧n≤1099511627776∧a < a'∧(a≤b.length→a'≤b.length)∧(a≤b.length→b.take a'=b.take a++nb n.toNat):=by
 unfold nxt at h
 split at h
 ·rename_i m s hg
  split at h
  ·cases h
  ·rename_i hb
   simp only [Option.some.injEq,Prod.mk.injEq] at h
   obtain⟨rfl,rfl⟩:=h
   obtain⟨h1,h2,h3,h4⟩:=gget_inv hg
   have h5:=nb_pos m
   rw [List.length_drop] at h2
   refine⟨by omega,by omega,by omega,by omega,by omega,fun h=>by omega,fun h=>?_⟩
   rw [Int.toNat_natCast,h3,List.take_add]
 ·cases h
theorem nxt_take {b:List UInt8} {a a':Nat} {lo hi n:Int} {L:List Int} (h:nxt b a lo hi=some (n,a')) (ha:a≤b.length) (hL:b.take a=nbs L):b.take a'=nbs (L++ [n])∧a'≤b.length:=by
 obtain⟨-,-,-,-,-,h1,h2⟩:=nxt_inv h
 refine⟨?_,h1 ha⟩
 rw [h2 ha,hL,nbs_append,nbs_cons,nbs_nil,List.append_nil]
theorem nxt_fwd {b rest:List UInt8} {L M:List Int} {n lo hi:Int} (hb:b=nbs (L++n :: M)++rest) (h0:0≤n) (h1:lo≤n) (h2:n≤hi) (h3:n≤1099511627776):nxt b (nbs L).length lo hi=some (n,(nbs (L++ [n])).length):=by
 have hd:b.drop (nbs L).length=nb n.toNat++(nbs M++rest):=by
  rw [hb,nbs_append,nbs_cons,List.append_assoc,List.append_assoc,List.drop_left]
 unfold nxt
 rw [hd,gget_nb n.toNat _ (by omega)]
 simp only
 rw [if_neg (by omega),nbs_append,nbs_cons,nbs_nil,List.append_nil,List.length_append,Int.toNat_of_nonneg h0]
/-- So many runs that bytes have from a place on, behind a time. -/
def rdRuns (b:List UInt8):Nat→Nat→Int→Option (List Rn×Int×Nat)
 | 0,a,was=>some ([],was,a)
 | m+1,a,was=>(nxt b a 1 1073741824).bind fun d=>(nxt b d.2 0 7).bind fun r=>(nxt b r.2 1 4096).bind fun mm=>
   if 1073741824 < was+d.1+mm.1 - 1 then none else (rdRuns b m mm.2 (was+d.1+mm.1 - 1)).map fun q=>((was+d.1,r.1,mm.1) :: q.1,q.2)
theorem rdRuns_inv {b:List UInt8}:∀ (m a:Nat) (was:Int) (L:List Int) (p:List Rn) (w:Int) (a':Nat),0≤was→a≤b.length→b.take a=nbs L→rdRuns b m a was=some (p,w,a')→
 b.take a'=nbs (L++runNums was p)∧a'≤b.length∧w=wasR was p∧p.length=m∧(∀ x∈p,okR x)∧0≤w∧(w≤1073741824∨m=0)
 | 0,a,was,L,p,w,a',h0,ha,hL,h=>by
   simp only [rdRuns,Option.some.injEq,Prod.mk.injEq] at h
   obtain⟨rfl,rfl,rfl⟩:=h
   exact⟨by simpa [runNums] using hL,ha,rfl,rfl,fun x hx=>(by cases hx),h0,.inr rfl⟩
 | m+1,a,was,L,p,w,a',h0,ha,hL,h=>by
   simp only [rdRuns,Option.bind_eq_some_iff] at h
   obtain⟨⟨d,a1⟩,hd,⟨r,a2⟩,hr,⟨mm,a3⟩,hm,h⟩:=h
   simp only at hd hr hm h
   split at h
   ·cases h
   ·rename_i hle
    rw [Option.map_eq_some_iff] at h
    obtain⟨⟨q,w',a''⟩,hq,he⟩:=h
    simp only [Prod.mk.injEq] at he
    obtain⟨rfl,rfl,rfl⟩:=he
    obtain⟨d1,d2,-⟩:=nxt_inv hd
    obtain⟨r1,r2,-⟩:=nxt_inv hr
    obtain⟨m1,m2,-⟩:=nxt_inv hm
    obtain⟨t1,l1⟩:=nxt_take hd ha hL
    obtain⟨t2,l2⟩:=nxt_take hr l1 t1
    obtain⟨t3,l3⟩:=nxt_take hm l2 t2
    obtain⟨g1,g2,g3,g4,g5,g6,g7⟩:=rdRuns_inv m a3 _ _ q w' a'' (by omega) l3 t3 hq
    refine⟨?_,g2,?_,by simp [g4],?_,g6,.inl ?_⟩
    ·rw [g1]
     simp [runNums,show was+d - was=d by omega]
    ·rw [g3];rfl
    ·intro x hx
     rcases List.mem_cons.1 hx with rfl | hx
     ·exact⟨by simp only;omega,by simp only;omega,by simp only;omega,by simp only;omega,by simp only;omega,by simp only;omega⟩
     ·exact g5 x hx
    ·rcases g7 with g7 | rfl
     ·exact g7
     ·simp only [rdRuns,Option.some.injEq,Prod.mk.injEq] at hq
      obtain⟨-,rfl,-⟩:=hq
      omega
/-- May runs be read behind a time? -/
def goodR:Int→List Rn→Prop
 | _, []=>True
 | was,x :: p=>1≤x.1 - was∧x.1 - was≤1073741824∧0≤x.2.1∧x.2.1≤7∧1≤x.2.2∧x.2.2≤4096∧x.1+x.2.2 - 1≤1073741824∧goodR (x.1+x.2.2 - 1) p
theorem chain_good:∀ (p:List Rn) (x:Rn),oneR x→chainA x p→(∀ y∈p,okR y)→goodR (x.1+x.2.2 - 1) p
 | [],_,_,_,_=>trivial
 | y :: p,x,hx,hc,ho=>by
   obtain⟨h1,h2,h3⟩:=hc
   obtain⟨o1,o2,o3,o4,o5,o6⟩:=h1
   obtain⟨x1,x2,x3,x4,x5,x6⟩:=hx
   have:=ho y List.mem_cons_self
   unfold okR at this
   have hs:=h2.1
   exact⟨by omega,by omega,by omega,by omega,o4,o5,o6,chain_good p y ⟨o1,o2,o3,o4,o5,o6⟩ h3 fun z hz=>ho z (List.mem_cons_of_mem _ hz)⟩
theorem may_good {p:List Rn} (hp:mayR p) (ho:∀ y∈p,okR y):goodR 0 p:=by
 cases p with
 | nil=>trivial
 | cons x p=>
   obtain⟨h1,h2⟩:=hp.2.2.1
   obtain⟨o1,o2,o3,o4,o5,o6⟩:=h1
   have:=ho x List.mem_cons_self
   unfold okR at this
   exact⟨by omega,by omega,by omega,by omega,o4,o5,o6,chain_good p x ⟨o1,o2,o3,o4,o5,o6⟩ h2 fun z hz=>ho z (List.mem_cons_of_mem _ hz)⟩
theorem good_nums:∀ (p:List Rn) (was:Int),goodR was p→∀ a∈runNums was p,0≤a∧a≤1073741824
 | [],_,_=>fun a ha=>by cases ha
 | x :: p,was,h=>fun a ha=>by
   obtain⟨h1,h2,h3,h4,h5,h6,h7,h8⟩:=h
   simp only [runNums,List.mem_cons] at ha
   rcases ha with rfl | rfl | rfl | ha
   ·omega
   ·omega
   ·omega
   ·exact good_nums p _ h8 a ha
theorem rdRuns_fwd {b rest:List UInt8}:∀ (p:List Rn) (was:Int) (L M:List Int),goodR was p→b=nbs (L++(runNums was p++M))++rest→rdRuns b p.length (nbs L).length was=some (p,wasR was p,(nbs (L++runNums was p)).length)
 | [],was,L,M,_,_=>by simp [rdRuns,runNums,wasR]
 | x :: p,was,L,M,h,hb=>by
   obtain⟨h1,h2,h3,h4,h5,h6,h7,h8⟩:=h
   have e1:=nxt_fwd (L:=L) (n:=x.1 - was) (M:=x.2.1 :: x.2.2 :: runNums (x.1+x.2.2 - 1) p++M) (lo:=1) (hi:=1073741824) (rest:=rest) (b:=b) (by rw [hb];simp [runNums]) (by omega) h1 h2 (by omega)
   have e2:=nxt_fwd (L:=L++ [x.1 - was]) (n:=x.2.1) (M:=x.2.2 :: runNums (x.1+x.2.2 - 1) p++M) (lo:=0) (hi:=7) (rest:=rest) (b:=b) (by rw [hb];simp [runNums]) h3 h3 h4 (by omega)
   have e3:=nxt_fwd (L:=L++ [x.1 - was]++ [x.2.1]) (n:=x.2.2) (M:=runNums (x.1+x.2.2 - 1) p++M) (lo:=1) (hi:=4096) (rest:=rest) (b:=b) (by rw [hb];simp [runNums]) (by omega) h5 h6 (by omega)
   have e4:=rdRuns_fwd (b:=b) (rest:=rest) p (x.1+x.2.2 - 1) (L++ [x.1 - was]++ [x.2.1]++ [x.2.2]) M h8 (by rw [hb];simp [runNums])
   simp only [List.length_cons,rdRuns,e1,Option.bind_some,e2,e3]
   have ew:was+(x.1 - was)+x.2.2 - 1=x.1+x.2.2 - 1:=by omega
   have ex:was+(x.1 - was)=x.1:=by omega
   rw [ew,ex,if_neg (by omega),e4]
   simp [runNums,wasR]
/-- An operation that was read: kind, stamp, place, point; and how many bytes. -/
abbrev Rd:=Int×Int×Int×List Rn×Int×Nat
/-- What stands behind the runs, read. -/
def rdTail (b:List UInt8) (k:Int) (p:List Rn) (was:Int) (a:Nat):Option Rd:=
 if k=1 then (nxt b a 0 1114111).map fun z=>(k,(lastR p).1,(lastR p).2,p,z.1,z.2)
 else if k=2 then some (k,(lastR p).1,(lastR p).2,p,0,a)
 else (nxt b a 1 1073741824).bind fun d=>(nxt b d.2 0 7).map fun r=>(k,was+d.1,r.1,p,0,r.2)
/-- The operation that bytes begin with. -/
def getP (b:List UInt8):Option Rd:=
 (nxt b 0 1 4).bind fun k=>(nxt b k.2 1 64).bind fun m=>(rdRuns b m.1.toNat m.2 0).bind fun q=>(rdTail b k.1 q.1 q.2.1 q.2.2).bind fun o=>
   if mayO o.1 o.2.1 o.2.2.1 o.2.2.2.1 o.2.2.2.2.1 then some o else none
theorem lastR_was {p:List Rn} (hp:mayR p) (was:Int):(lastR p).1=wasR was p:=by
 have hne:p≠ []:=fun e=>by rw [e] at hp;have:=hp.1;simp at this
 obtain⟨q,x,rfl⟩:∃ q x,p=q++ [x]:=⟨p.dropLast,p.getLast hne,(List.dropLast_concat_getLast hne).symm⟩
 rw [lastR_snoc q x hp,wasR_append]
 rfl
theorem mayR_last_pos {p:List Rn} (hp:mayR p):1≤(lastR p).1:=by
 have hne:p≠ []:=fun e=>by rw [e] at hp;have:=hp.1;simp at this
 obtain⟨q,x,rfl⟩:∃ q x,p=q++ [x]:=⟨p.dropLast,p.getLast hne,(List.dropLast_concat_getLast hne).symm⟩
 rw [lastR_snoc q x hp]
 obtain⟨h1,-,-,h4,-⟩:=chainR_mem hp.2.2.1 x (by simp)
 unfold rend
 simp only
 omega
/-- What is read may be, and is written as just these bytes. -/
theorem getP_inv {b:List UInt8} {k t r:Int} {p:List Rn} {z:Int} {n:Nat} (h:getP b=some (k,t,r,p,z,n)):
 mayO k t r p z∧b.take n=opB k t r p z∧n≤b.length∧(∀ x∈p,okR x)∧1≤k∧k≤4:=by
 simp only [getP,Option.bind_eq_some_iff] at h
 obtain⟨⟨k',a1⟩,hk,⟨m,a2⟩,hm,⟨p',w,a3⟩,hr,⟨k2,t2,r2,p2,z2,n2⟩,ht,h⟩:=h
 simp only at hm hr ht h
 split at h
 ·rename_i hmay
  simp only [Option.some.injEq,Prod.mk.injEq] at h
  obtain⟨rfl,rfl,rfl,rfl,rfl,rfl⟩:=h
  obtain⟨k1,k2',-⟩:=nxt_inv hk
  obtain⟨m1,m2,-⟩:=nxt_inv hm
  obtain⟨t1,l1⟩:=nxt_take (L:= []) hk (by omega) (by simp [nbs])
  obtain⟨t2',l2⟩:=nxt_take hm l1 t1
  obtain⟨g1,g2,g3,g4,g5,g6,-⟩:=rdRuns_inv m.toNat a2 0 _ p' w a3 (by omega) l2 t2' hr
  have hpl:(p'.length:Int)=m:=by omega
  unfold rdTail at ht
  split at ht
  ·rename_i hk1
   subst hk1
   rw [Option.map_eq_some_iff] at ht
   obtain⟨⟨z',a4⟩,hz,he⟩:=ht
   simp only [Prod.mk.injEq] at he
   obtain⟨rfl,rfl,rfl,rfl,rfl,rfl⟩:=he
   obtain⟨t4,l4⟩:=nxt_take hz g2 g1
   refine⟨hmay,?_,l4,g5,k1,k2'⟩
   rw [t4]
   simp [opB,opNums,tailNums,hpl]
  ·split at ht
   ·rename_i hk1 hk2
    subst hk2
    simp only [Option.some.injEq,Prod.mk.injEq] at ht
    obtain⟨rfl,rfl,rfl,rfl,rfl,rfl⟩:=ht
    refine⟨hmay,?_,g2,g5,k1,k2'⟩
    rw [g1]
    simp [opB,opNums,tailNums,hpl]
   ·rename_i hk1 hk2
    simp only [Option.bind_eq_some_iff,Option.map_eq_some_iff] at ht
    obtain⟨⟨d,a4⟩,hd,⟨r',a5⟩,hr',he⟩:=ht
    simp only [Prod.mk.injEq] at hd hr' he
    obtain⟨rfl,rfl,rfl,rfl,rfl,rfl⟩:=he
    obtain⟨t4,l4⟩:=nxt_take hd g2 g1
    obtain⟨t5,l5⟩:=nxt_take hr' l4 t4
    refine⟨hmay,?_,l5,g5,k1,k2'⟩
    rw [t5]
    subst g3
    have hdd:wasR 0 p'+d - wasR 0 p'=d:=by omega
    simp [opB,opNums,tailNums,hpl,hk1,hk2,hdd]
 ·cases h
/-- What is written is read back, whatever stands behind. -/
theorem getP_fwd {k t r:Int} {p:List Rn} {z:Int} (rest:List UInt8) (h:mayO k t r p z) (ho:∀ x∈p,okR x) (hr0:0≤r):getP (opB k t r p z++rest)=some (k,t,r,p,z,(opB k t r p z).length):=by
 have hp:=h.2.1
 have hg:=may_good hp ho
 have hlw:=lastR_was hp 0
 obtain⟨hi1,hi2,hi3⟩:=h.1
 have h1:=hp.1
 have h2:=hp.2.1
 have hk:1≤k∧k≤4:=by
  have:=h.2.2
  unfold rightO at this
  omega
 generalize hb:opB k t r p z++rest=b
 have hb':b=nbs ([]++k :: ((p.length:Int) :: (runNums 0 p++tailNums k t r (wasR 0 p) z)))++rest:=by rw [←hb];rfl
 have e1:=nxt_fwd (lo:=1) (hi:=4) hb' (by omega) hk.1 hk.2 (by omega)
 have e2:=nxt_fwd (b:=b) (rest:=rest) (L:= [k]) (n:=(p.length:Int)) (M:=runNums 0 p++tailNums k t r (wasR 0 p) z) (lo:=1) (hi:=64) (by rw [hb'];rfl) (by omega) (by omega) (by omega) (by omega)
 have e3:=rdRuns_fwd (b:=b) (rest:=rest) p 0 [k,(p.length:Int)] (tailNums k t r (wasR 0 p) z) hg (by rw [hb'];rfl)
 have e1':nxt b 0 1 4=some (k,(nbs [k]).length):=e1
 have e2':nxt b (nbs [k]).length 1 64=some ((p.length:Int),(nbs [k,(p.length:Int)]).length):=e2
 have et:rdTail b k p (wasR 0 p) (nbs ([k,(p.length:Int)]++runNums 0 p)).length=some (k,t,r,p,z,(opB k t r p z).length):=by
  unfold rdTail
  rcases h.2.2 with⟨rfl,hl,hz⟩ | ⟨rfl,hl,rfl⟩ | ⟨hk34,rfl,hl⟩
  ·rw [if_pos rfl]
   have e4:=nxt_fwd (b:=b) (rest:=rest) (L:= [1,(p.length:Int)]++runNums 0 p) (n:=z) (M:= []) (lo:=0) (hi:=1114111) (by rw [hb'];simp [tailNums]) hz.1 hz.1 hz.2.1 (by have:=hz.2.1;omega)
   rw [e4,hl]
   simp [opB,opNums,tailNums]
  ·rw [if_neg (by omega),if_pos rfl,hl]
   simp [opB,opNums,tailNums]
  ·rw [if_neg (by omega),if_neg (by omega)]
   have htn:tailNums k t r (wasR 0 p) 0= [t - wasR 0 p,r]:=by unfold tailNums;rw [if_neg (by omega),if_neg (by omega)]
   rw [hlw] at hl
   have hw0:0≤wasR 0 p:=by
    rw [←hlw]
    have:=mayR_last_pos hp
    omega
   have e4:=nxt_fwd (b:=b) (rest:=rest) (L:= [k,(p.length:Int)]++runNums 0 p) (n:=t - wasR 0 p) (M:= [r]) (lo:=1) (hi:=1073741824) (by rw [hb',htn];simp) (by omega) (by omega) (by omega) (by omega)
   have e5:=nxt_fwd (b:=b) (rest:=rest) (L:= [k,(p.length:Int)]++runNums 0 p++ [t - wasR 0 p]) (n:=r) (M:= []) (lo:=0) (hi:=7) (by rw [hb',htn];simp) hr0 hr0 (by omega) (by omega)
   rw [e4]
   simp only [Option.bind_some,e5,Option.map_some]
   have:wasR 0 p+(t - wasR 0 p)=t:=by omega
   rw [this]
   simp [opB,opNums,htn]
 unfold getP
 rw [e1']
 simp only [Option.bind_some,e2']
 rw [Int.toNat_natCast,e3]
 simp only [Option.bind_some,et]
 rw [if_pos h]
end Go.Proofs.YtmkpfdcnikgokaaGreat
namespace Go.Proofs.YtmkpfdcnikgokaaGreat
open Go.RowKit
theorem u8info:(Tryz.prog.info? 5).map (fun i=>(i.zero,i.size,i.bytes))=some (some (.int .u8 0),1,1):=by kernel_rfl
/-- Get's three results. -/
def gval:Option (Nat×Nat)→Value
 | some (n,s)=> .tuple #[.int .i64 (n:Int),.int .i64 (s:Int),.int .i64 0]
 | none=> .tuple #[.int .i64 0,.int .i64 0,.int .i64 8]
theorem fv_one:fv 1=4607182418800017408:=by decide+kernel
theorem fv_128:fv 128=4638707616191610880:=by decide+kernel
theorem get_facts (n k:Nat) (x:UInt8) (hn:n < 128 ^ k) (hk:k < 6):∃ m v n' u',m=x.toNat % 128∧v=128 ^ k∧n'=n+m * v∧u'=128 ^ (k+1)∧n' < 128 ^ (k+1)∧n' < 4398046511104∧
 bits .and .u8 (x.toNat:Int) 127=(m:Int)∧floatBits .mul .f64 (fv m) (fv v)=some (fv (m * v))∧floatBits .add .f64 (fv n) (fv (m * v))=some (fv n')∧
 floatBits .mul .f64 4638707616191610880 (fv v)=some (fv u')∧floatToIntVal .f64 (fv n') .i64=some (n':Int):=by
 have hx:=x.toNat_lt
 have hp:128 ^ k≤34359738368:=by
  have:128 ^ k≤128 ^ 5:=Nat.pow_le_pow_right (by omega) (by omega)
  omega
 have hm:x.toNat % 128 < 128:=Nat.mod_lt _ (by omega)
 have hmv:x.toNat % 128 * 128 ^ k≤127 * 128 ^ k:=Nat.mul_le_mul_right _ (by omega)
 have hs:128 ^ (k+1)=128 ^ k * 128:=Nat.pow_succ _ _
 refine⟨x.toNat % 128,128 ^ k,_,_,rfl,rfl,rfl,rfl,by omega,by omega,?_,mul_fv _ _ (by omega) (by omega) (by omega),add_fv _ _ (by omega) (by omega) (by omega),?_,int_fv _ (by omega)⟩
 ·have:=u8_and_nat x.toNat 127 (by omega) (by omega)
  refine this.trans ?_
  rw [show (127:Nat)=2 ^ 7 - 1 from rfl,Nat.and_two_pow_sub_one_eq_mod]
 ·rw [←fv_128,mul_fv _ _ (by omega) (by omega) (by omega),hs,Nat.mul_comm]
theorem get_any (A:Option Addr) (c:Nat) (l:List UInt8) (w:World) (hr:RB w w.heap.size A l) (hl:l.length < 1073741824):
 Calls Tryz.prog 99 #[.slice A l.length c] w fun e w'=>e= .returned (gval (gget l))∧w=w':=by
 go_enter Tryz.func99,Tryz.ntmps99
 go_wp2_with fail
 refine wp_scope_goto 0 (fun a' w'=>w'=w∧∃ (k n u:Nat) (u6 u7 u8 u9 u10 u11 u12 u13 u14 u15 u16 u17 u18 u19 u20 u21 u22 u23 u24 u25 u26 u27 u28 u29 u30 u31 u32 u33 u34 u35 u36 u37 u38 u39 u40 u41 u42 u43 u44 u45 u46 u47 u48 u49 u50:Value),a'={ tmps:=#[.slice A l.length c,undef,.int .i64 0,.int .i64 (k:Int),.int .i64 0,.complex .f64 (fv n) (fv u),u6,u7,u8,u9,u10,u11,u12,u13,u14,u15,u16,u17,u18,u19,u20,u21,u22,u23,u24,u25,u26,u27,u28,u29,u30,u31,u32,u33,u34,u35,u36,u37,u38,u39,u40,u41,u42,u43,u44,u45,u46,u47,u48,u49,u50],defers:= [] }∧gget l=gg k n (l.drop k)∧n < 128 ^ k∧u=128 ^ k∧k≤6∧k≤l.length) (fun a' _=>(6 - (intOf (a'.tmps.getD 3 undef)).toNat)) rfl ?_ ?_
 ·intro K hK
  go_wp2_with fail
  go_step3
  go_step
  go_step
  refine hK _ _ ⟨rfl,0,0,1,undef,undef,undef,undef,undef,undef,undef,undef,undef,undef,undef,undef,undef,undef,undef,undef,undef,undef,undef,undef,undef,undef,undef,undef,undef,undef,undef,undef,undef,undef,undef,undef,undef,undef,undef,undef,undef,undef,undef,undef,undef,undef,undef,undef,undef,?_,rfl,by omega,rfl,by omega,by omega⟩
  rw [fv_zero,fv_one]
  rfl
 ·rintro a' w' ⟨rfl,k,n,u,u6,u7,u8,u9,u10,u11,u12,u13,u14,u15,u16,u17,u18,u19,u20,u21,u22,u23,u24,u25,u26,u27,u28,u29,u30,u31,u32,u33,u34,u35,u36,u37,u38,u39,u40,u41,u42,u43,u44,u45,u46,u47,u48,u49,u50,rfl,hg,hn,hu,hk6,hkl⟩
  have hu':=hide hu
  clear hu
  by_cases hend:k=l.length
  ·subst hend
   rw [List.drop_length,gg_nil] at hg
   have hg':=hide hg
   clear hg
   go_wp2_with fail
   simp only [Exit.jump]
   go_ret3
   exact⟨by rw [hg'.out];rfl,rfl⟩
  have hne:((k:Int) == (l.length:Int))=false:=by simp;omega
  by_cases h6:k=6
  ·subst h6
   rw [gg_six] at hg
   have hg':=hide hg
   clear hg
   go_wp2_with fail
   simp only [Exit.jump]
   go_ret3
   exact⟨by rw [hg'.out];rfl,rfl⟩
  have hn6:((k:Int) == 6)=false:=by simp;omega
  have hlt:k < l.length:=by omega
  obtain⟨b,off,rfl,hbb,hc⟩:=RB.cell hr (by omega)
  have hck:=hc k hlt
  clear hc hr hbb
  rw [List.drop_eq_getElem_cons hlt] at hg
  have hx:=l[k].toNat_lt
  obtain⟨m,v,n',u',hm,hv,hn',hu2,hlt',hbig,e1,e2,e3,e4,e5⟩:=get_facts n k l[k] hn (by omega)
  obtain rfl:u=v:=hu'.out.trans hv.symm
  clear hu'
  have E2:=fun w:World=>run_float_arith (P:=Tryz.prog) w .mul 175 .f64 _ _ _ e2
  have E3:=fun w:World=>run_float_arith (P:=Tryz.prog) w .add 175 .f64 _ _ _ e3
  have E4:=fun w:World=>run_float_arith (P:=Tryz.prog) w .mul 175 .f64 _ _ _ e4
  have E5:=fun w:World=>run_convert_float_int (P:=Tryz.prog) w 175 3 .f64 .i64 _ _ (by kernel_rfl) Tryz.underlying3 e5
  have E1:floatOfInt .f64 (m:Int)=fv m:=rfl
  have hm':=hide hm
  have hv':=hide hv
  have hn2:=hide hn'
  have hu3:=hide hu2
  clear e2 e3 e4 e5 hm hv hn' hu2
  generalize hxv:l[k].toNat=x at *
  have hxv':=hide hxv
  clear hxv
  have hval:=hide (show n+l[k].toNat % 128 * 128 ^ k=n' by rw [hxv'.out,hn2.out,hm'.out,hv'.out])
  by_cases h128:128≤x
  ·have hgm:=hide (gg_more (n:=n) (r:=l.drop (k+1)) h6 (show 128≤l[k].toNat by rw [hxv'.out];exact h128))
   have hg':=hide hg
   clear hg
   have h128':(128:Int)≤x:=by omega
   go_wp2_with fail
   go_step3
   have ek:(k:Int)+1=((k+1:Nat):Int):=by omega
   rw [ek]
   refine⟨rfl,⟨rfl,k+1,n',u',_,_,_,_,_,_,_,_,_,_,_,_,_,_,_,_,_,_,_,_,_,_,_,_,_,_,_,_,_,_,_,_,_,_,_,_,_,_,_,_,_,_,_,_,_,rfl,?_,hlt',hu3.out,by omega,by omega⟩,?_⟩
   ·rw [hg'.out,hgm.out,hval.out]
   ·simp [intOf];omega
  ·have hsmall:(x:Int) < 128:=by omega
   have hlk:l[k].toNat < 128:=by rw [hxv'.out];omega
   by_cases hbad:1099511627776 < n'
   ·have hgm:=hide (gg_bad (k:=k) (n:=n) (r:=l.drop (k+1)) hlk (.inl (by rw [hval.out];exact hbad)))
    have hg':=hide hg
    clear hg hlk
    have hb':(1099511627776:Int) < n':=by omega
    go_wp2_with fail
    simp only [Exit.jump]
    go_ret3
    exact⟨by rw [hg'.out,hgm.out];rfl,rfl⟩
   ·have hb':(n':Int)≤1099511627776:=by omega
    by_cases hz:x=0∧0 < k
    ·have hgm:=hide (gg_bad (k:=k) (n:=n) (r:=l.drop (k+1)) hlk (.inr (by rw [hxv'.out];exact hz)))
     have hg':=hide hg
     clear hg hlk
     have z1:((x:Int) == 0)=true:=by simp [hz.1]
     have z2:(1:Int) < (k:Int)+1:=by omega
     clear hz
     go_wp2_with fail
     simp only [Exit.jump]
     go_ret3
     exact⟨by rw [hg'.out,hgm.out];rfl,rfl⟩
    ·have hgm:=hide (gg_good (k:=k) (n:=n) (r:=l.drop (k+1)) h6 hlk (by rw [hval.out,hxv'.out];omega))
     have hg':=hide hg
     clear hg hlk
     have fin:gval (gget l)= .tuple #[.int .i64 (n':Int),.int .i64 ((k:Int)+1),.int .i64 0]:=by
      rw [hg'.out,hgm.out,hval.out];rfl
     have fin':=hide fin
     clear fin
     by_cases hx0:x=0
     ·have z1:((x:Int) == 0)=true:=by simp [hx0]
      have z2:¬ (1:Int) < (k:Int)+1:=by omega
      clear hz hx0
      go_wp2_with fail
      simp only [Exit.jump]
      go_ret3
      exact⟨by rw [fin'.out];rfl,rfl⟩
     ·have z1:((x:Int) == 0)=false:=by simp;omega
      clear hz hx0
      go_wp2_with fail
      simp only [Exit.jump]
      go_ret3
      exact⟨by rw [fin'.out];rfl,rfl⟩
theorem refbytes_ok (n:Nat) (w:World) (h:n≤1099511627776):
 Calls Tryz.prog 132 #[.int .i64 (n:Int)] w fun e w'=>∃ v,e= .returned v∧w'.ownsRow w.heap.size 5 1 v (nb n).length (u8s (nb n))∧Below w.heap.size w w':=by
 obtain⟨i0,hi0,hz0,hz1,hz2⟩:=info_parts u8info
 have H:=hide h
 clear h
 go_enter Tryz.func132,Tryz.ntmps132
 go_wp2_with fail
 go_loopw [0,3] (fun x b wr=>∃ (m:Nat) (pre:List UInt8),x= .int .i64 (m:Int)∧Hid (nb n=pre++nb m)∧m≤n∧wr.ownsRow w.heap.size 5 1 b pre.length (u8s pre)∧Below w.heap.size w wr) (fun x _ _=>(intOf x).toNat)
 case atStart=>exact⟨n, [],rfl,hide rfl,Nat.le_refl _,World.ownsRow_nil _ _ _ _,Below.refl _ _⟩
 case round=>
  obtain⟨m,pre,rfl,hb,hm,hown,hbel⟩:=hrel
  have hlen:pre.length < 1073741824:=by
   have h1:=nb_six H.out
   have h2:=congrArg List.length hb.out
   rw [List.length_append] at h2
   omega
  have hmb:(m:Int)≤1099511627776:=by have:=H.out;omega
  by_cases hlt:m < 128
  ·go_wp2_with (at_builtin;refine wpList_push rfl _ _ 23 rfl w.heap.size i0 (.int .u8 0) 1 1 Tryz.underlying23 hi0 hz0 hz1 hz2 rfl (by decide) _ _ _ rfl hown 1 rfl rfl rfl hlen (by decide) hbel.size ?_;intro v1 w1 hown1 hb1)
   go_ret
   refine⟨v1,rfl,?_,hbel.trans hb1⟩
   rw [hb.out,nb_small hlt]
   rw [u8s_append]
   have e:(m:Int) % 256=(m:Int):=by omega
   simpa [u8s,e] using hown1
  ·go_wp2_with (at_builtin;refine wpList_push rfl _ _ 23 rfl w.heap.size i0 (.int .u8 0) 1 1 Tryz.underlying23 hi0 hz0 hz1 hz2 rfl (by decide) _ _ _ rfl hown 1 rfl rfl rfl hlen (by decide) hbel.size ?_;intro v1 w1 hown1 hb1)
   go_roundw
   case rel=>
    refine⟨m / 128,pre++ [UInt8.ofNat (m % 128+128)],by go_num,hide ?_,by omega,?_,hbel.trans hb1⟩
    ·rw [hb.out,nb_big hlt]
     simp
    ·have e:((UInt8.ofNat (m % 128+128)).toNat:Int)=(m:Int) % 128+128:=by
      rw [UInt8.toNat_ofNat',Nat.mod_eq_of_lt (by omega)];omega
     have e':((m:Int) % 128+128) % 256=(m:Int) % 128+128:=by omega
     simpa [u8s,e,e'] using hown1
   case measure=>simp [intOf];omega
theorem refget_facts (n k:Nat) (x:UInt8) (hn:n < 128 ^ k) (hk:k < 6):∃ v p n' u',v=128 ^ k∧p=x.toNat % 128 * v∧n'=n+p∧u'=128 ^ (k+1)∧n' < u'∧n' < 4398046511104∧v≤34359738368∧n < 34359738368∧
 (x.toNat:Int) % 128 * (v:Int)=(p:Int)∧(p:Int)≤4398046511104∧(n:Int)+(p:Int)=(n':Int)∧(v:Int) * 128=(u':Int)∧(u':Int)≤4398046511104:=by
 have hx:=x.toNat_lt
 have hp:128 ^ k≤34359738368:=by
  have:128 ^ k≤128 ^ 5:=Nat.pow_le_pow_right (by omega) (by omega)
  omega
 have hm:x.toNat % 128 < 128:=Nat.mod_lt _ (by omega)
 have hmv:x.toNat % 128 * 128 ^ k≤127 * 128 ^ k:=Nat.mul_le_mul_right _ (by omega)
 have hs:128 ^ (k+1)=128 ^ k * 128:=Nat.pow_succ _ _
 refine⟨128 ^ k,_,_,_,rfl,rfl,rfl,rfl,by omega,by omega,by omega,by omega,?_,by omega,by omega,by omega,by omega⟩
 rw [Int.natCast_mul]
 congr 1
theorem refget_any (A:Option Addr) (c:Nat) (l:List UInt8) (w:World) (hr:RB w w.heap.size A l) (hl:l.length < 1073741824):
 Calls Tryz.prog 103 #[.slice A l.length c] w fun e w'=>e= .returned (gval (gget l))∧w=w':=by
 go_enter Tryz.func103,Tryz.ntmps103
 go_wp2_with fail
 go_loop [5,6,7] (fun x y i=>∃ (k n u:Nat),k≤6∧k≤l.length∧i= .int .i64 (k:Int)∧x= .int .i64 (n:Int)∧y= .int .i64 (u:Int)∧n < 128 ^ k∧Hid (u=128 ^ k)∧Hid (gget l=gg k n (l.drop k))) (fun _ _ i=>6 - (intOf i).toNat)
 case atStart=>exact⟨0,0,1,by omega,by omega,rfl,rfl,rfl,by omega,hide rfl,hide rfl⟩
 case round=>
  obtain⟨k,n,u,hk6,hkl,rfl,rfl,rfl,hn,hu,hg⟩:=hrel
  by_cases hend:k=l.length
  ·subst hend
   have hz:¬ (l.length:Int) < l.length:=by omega
   go_wp2_with fail
   go_ret3
   refine⟨?_,rfl⟩
   rw [hg.out,List.drop_length];rfl
  have hlt:k < l.length:=by omega
  have hlt':(k:Int) < l.length:=by omega
  by_cases h6:k=6
  ·subst h6
   go_wp2_with fail
   go_ret3
   refine⟨?_,rfl⟩
   rw [hg.out,gg_six];rfl
  have h6':(k:Int) < 6:=by omega
  obtain⟨b,off,rfl,hbb,hc⟩:=RB.cell hr (by omega)
  have hck:=hc k hlt
  clear hc hr hbb
  have hx:=l[k].toNat_lt
  obtain⟨v,p,n',u',hv,hp,hn',hu',hlt2,hbig,hv1,hn1,e1,e2,e3,e4,e5⟩:=refget_facts n k l[k] hn (by omega)
  obtain rfl:u=v:=hu.out.trans hv.symm
  have hval:=hide (show n+l[k].toNat % 128 * 128 ^ k=n' by rw [hn',hp,hv])
  have hu2:=hide hu'
  have hg':=hide (hg.out.trans (by rw [List.drop_eq_getElem_cons hlt]))
  clear hv hp hn' hu' hg hu hn
  have hxv:∃ x,x=l[k].toNat:=⟨_,rfl⟩
  obtain⟨x,hxv⟩:=hxv
  rw [←hxv] at hck e1 hx
  have hxv':=hide hxv
  clear hxv
  by_cases h128:128≤x
  ·have hgm:=hide (gg_more (n:=n) (r:=l.drop (k+1)) h6 (show 128≤l[k].toNat by rw [←hxv'.out];exact h128))
   have h128':¬ (x:Int) < 128:=by omega
   go_wp2_with fail
   go_round
   case rel=>exact⟨k+1,n',u',by omega,by omega,by go_num,rfl,rfl,by rw [←hu2.out];exact hlt2,hu2,hide (by rw [hg'.out,hgm.out,hval.out])⟩
   case measure=>simp [intOf];omega
  ·have hsmall:(x:Int) < 128:=by omega
   have hlk:l[k].toNat < 128:=by rw [←hxv'.out];omega
   by_cases hbad:1099511627776 < n'
   ·have hgm:=hide (gg_bad (k:=k) (n:=n) (r:=l.drop (k+1)) hlk (.inl (by rw [hval.out];exact hbad)))
    clear hlk
    have hb':(1099511627776:Int) < n':=by omega
    go_wp2_with fail
    go_ret3
    exact⟨by rw [hg'.out,hgm.out];rfl,rfl⟩
   ·have hb':(n':Int)≤1099511627776:=by omega
    by_cases hz:x=0∧0 < k
    ·have hgm:=hide (gg_bad (k:=k) (n:=n) (r:=l.drop (k+1)) hlk (.inr (by rw [←hxv'.out];exact hz)))
     clear hlk
     have z1:((x:Int) == 0)=true:=by simp [hz.1]
     have z2:(0:Int) < (k:Int):=by omega
     clear hz
     go_wp2_with fail
     go_ret3
     exact⟨by rw [hg'.out,hgm.out];rfl,rfl⟩
    ·have hgm:=hide (gg_good (k:=k) (n:=n) (r:=l.drop (k+1)) h6 hlk (by rw [hval.out,←hxv'.out];omega))
     clear hlk
     have fin':=hide (show gval (gget l)= .tuple #[.int .i64 (n':Int),.int .i64 ((k:Int)+1),.int .i64 0] by rw [hg'.out,hgm.out,hval.out];rfl)
     by_cases hk0:0 < k
     ·have z1:((x:Int) == 0)=false:=by simp;omega
      have z2:(0:Int) < (k:Int):=by omega
      clear hz
      go_wp2_with fail
      go_ret3
      exact⟨by rw [fin'.out];rfl,rfl⟩
     ·have z2:¬ (0:Int) < (k:Int):=by omega
      clear hz
      go_wp2_with fail
      go_ret3
      exact⟨by rw [fin'.out];rfl,rfl⟩
/-- Blocks that hold no bytes stay. -/
def Kept (w w':World):Prop:=∀ (b:Nat) (o:Obj),w.heap[b]?=some o→(∀ cur,o≠ .cells cur 5 (0,0))→w'.heap[b]?=some o
theorem Kept.refl (w:World):Kept w w:=fun _ _ h _=>h
theorem Kept.trans {a b c:World} (h:Kept a b) (k:Kept b c):Kept a c:=fun x o hx hn=>k x o (h x o hx hn) hn
theorem Kept.below {w w':World} (h:Below w.heap.size w w'):Kept w w':=fun b _ hb _=>(h.block b (Array.getElem?_eq_some_iff.1 hb).1).trans hb
/-- Numbers as cells. -/
def i64s (L:List Int):List Value:=L.map fun z=> .int .i64 z
theorem nbs_len {L:List Int} (h:∀ z∈L,0≤z∧z≤1099511627776):(nbs L).length≤6 * L.length:=by
 induction L with
 | nil=>simp [nbs]
 | cons z L ih=>
   have h1:=ih fun a ha=>h a (List.mem_cons_of_mem _ ha)
   have h2:=h z List.mem_cons_self
   have h3:=nb_six (n:=z.toNat) (by omega)
   rw [nbs_cons,List.length_append,List.length_cons]
   omega
/-- An operation in a box. -/
def FB (w:World) (g:Nat) (k t r s z:Value):Prop:=w.heap[g]?=some (.cells #[k,t,r,s,z] 104 (0,0))
theorem five_fb (w:World) (k t r s z:Value):∃ w2,w.alloc (.cells #[k,t,r,s,z] 104)=w2∧FB w2 w.heap.size k t r s z∧w.heap.size < w2.heap.size∧Below w.heap.size w w2:=
 ⟨_,rfl,heap_alloc_new _ _,by simp,boxed _ _⟩
theorem FB.cells {w:World} {g:Nat} {k t r s z:Value} (h:FB w g k t r s z):w.cell? ⟨g,0,none⟩=some k∧w.cell? ⟨g,1,none⟩=some t∧w.cell? ⟨g,2,none⟩=some r∧w.cell? ⟨g,3,none⟩=some s∧w.cell? ⟨g,4,none⟩=some z:=by
 refine⟨?_,?_,?_,?_,?_⟩ <;> (rw [cell_of_row _ _ _ _ _ _ h];rfl)
theorem FB.fr {w:World} {g:Nat} {k t r s z:Value} (h:FB w g k t r s z) (j:Nat):w.frozen? ⟨g,j,none⟩=false:=frozen_of_row _ _ _ _ _ h
theorem FB.lt {w:World} {g:Nat} {k t r s z:Value} (h:FB w g k t r s z):g < w.heap.size:=(Array.getElem?_eq_some_iff.1 h).1
theorem FB.below {w w':World} {g:Nat} {k t r s z:Value} (h:FB w g k t r s z) (hb:Below w.heap.size w w'):FB w' g k t r s z:=(hb.block g h.lt).trans h
theorem FB.set3 {w:World} {g:Nat} {k t r s z:Value} (h:FB w g k t r s z) (v:Value):FB (w.setCell ⟨g,3,none⟩ v) g k t r v z:=heap_setCell_same _ _ _ _ _ _ h
theorem FB.set4 {w:World} {g:Nat} {k t r s z:Value} (h:FB w g k t r s z) (v:Value):FB (w.setCell ⟨g,4,none⟩ v) g k t r s v:=heap_setCell_same _ _ _ _ _ _ h
theorem FB.other {w:World} {g:Nat} {k t r s z:Value} (h:FB w g k t r s z) {g':Nat} (hne:g≠g') (off:Nat) (v:Value):FB (w.setCell ⟨g',off,none⟩ v) g k t r s z:=(heap_setCell_other _ _ _ _ hne).trans h
/-- The five stores of an operation. -/
def put5 (w:World) (g:Nat) (k t r s z:Value):World:=((((w.setCell ⟨g,0,none⟩ k).setCell ⟨g,1,none⟩ t).setCell ⟨g,2,none⟩ r).setCell ⟨g,3,none⟩ s).setCell ⟨g,4,none⟩ z
theorem put5_fb {w:World} {g:Nat} {k' t' r' s' z':Value} (h:FB w g k' t' r' s' z') (k t r s z:Value):FB (put5 w g k t r s z) g k t r s z:=by
 unfold put5
 exact heap_setCell_same _ _ _ _ _ _ (heap_setCell_same _ _ _ _ _ _ (heap_setCell_same _ _ _ _ _ _ (heap_setCell_same _ _ _ _ _ _ (heap_setCell_same _ _ _ _ _ _ h))))
theorem put5_below {B:Nat} {w W:World} (h:Below B w W) (g:Nat) (k t r s z:Value) (hB:B≤g):Below B w (put5 W g k t r s z):=((((h.setCell hB _).setCell hB _).setCell hB _).setCell hB _).setCell hB _
theorem put5_other {w:World} {g:Nat} {k t r s z:Value} {g':Nat} (hne:g'≠g):(put5 w g k t r s z).heap[g']?=w.heap[g']?:=by
 unfold put5
 rw [heap_setCell_other _ _ _ _ hne,heap_setCell_other _ _ _ _ hne,heap_setCell_other _ _ _ _ hne,heap_setCell_other _ _ _ _ hne,heap_setCell_other _ _ _ _ hne]
/-- A run in a box. -/
def XB (w:World) (g:Nat) (a b c:Value):Prop:=w.heap[g]?=some (.cells #[a,b,c] 120 (0,0))
theorem three_xb (w:World) (a b c:Value):∃ w2,w.alloc (.cells #[a,b,c] 120)=w2∧XB w2 w.heap.size a b c∧w.heap.size < w2.heap.size∧Below w.heap.size w w2:=
 ⟨_,rfl,heap_alloc_new _ _,by simp,boxed _ _⟩
theorem XB.cells {w:World} {g:Nat} {a b c:Value} (h:XB w g a b c):w.cell? ⟨g,0,none⟩=some a∧w.cell? ⟨g,1,none⟩=some b∧w.cell? ⟨g,2,none⟩=some c:=by
 refine⟨?_,?_,?_⟩ <;> (rw [cell_of_row _ _ _ _ _ _ h];rfl)
theorem XB.below {w w':World} {g:Nat} {a b c:Value} (h:XB w g a b c) (hb:Below w.heap.size w w'):XB w' g a b c:=(hb.block g (Array.getElem?_eq_some_iff.1 h).1).trans h
theorem XB.kept {w w':World} {g:Nat} {a b c:Value} (h:XB w g a b c) (hk:Kept w w'):XB w' g a b c:=hk g _ h (fun cur e=>by simp at e)
theorem FB.kept {w w':World} {g:Nat} {k t r s z:Value} (h:FB w g k t r s z) (hk:Kept w w'):FB w' g k t r s z:=hk g _ h (fun cur e=>by simp at e)
theorem one_nums {x:Rn} (h:oneR x) (ho:okR x) {was:Int} (h0:0≤was) (h1:was < x.1):∀ a∈ [x.1 - was,x.2.1,x.2.2],0≤a∧a≤1099511627776:=by
 intro a ha
 obtain⟨e1,e2,e3,e4,e5,e6⟩:=h
 unfold okR at ho
 simp only [List.mem_cons,List.not_mem_nil,or_false] at ha
 omega
theorem runNums_snoc (p:List Rn) (x:Rn) (was:Int):runNums was (p++ [x])=runNums was p++ [x.1 - wasR was p,x.2.1,x.2.2]:=by
 rw [runNums_append]
 rfl
theorem wasR_snoc (p:List Rn) (x:Rn) (was:Int):wasR was (p++ [x])=x.1+x.2.2 - 1:=by
 rw [wasR_append]
 rfl
theorem good_take:∀ (p:List Rn) (was:Int) (k:Nat),goodR was p→∀ h:k < p.length,wasR was (p.take k) < p[k].1∧(0≤was→0≤wasR was (p.take k))∧(was≤1073741824→wasR was (p.take k)≤1073741824)
 | [],_,_,_,h=>by simp at h
 | x :: p,was,0,hg,_=>by
   obtain⟨h1,-⟩:=hg
   exact⟨by simp [wasR];omega,fun h=>h,fun h=>h⟩
 | x :: p,was,k+1,hg,h=>by
   obtain⟨h1,h2,h3,h4,h5,h6,h7,h8⟩:=hg
   obtain⟨q1,q2,q3⟩:=good_take p (x.1+x.2.2 - 1) k h8 (by simpa using h)
   exact⟨by simpa [wasR] using q1,fun _=>by simpa [wasR] using q2 (by omega),fun _=>by simpa [wasR] using q3 (by omega)⟩
theorem good_cut:∀ (p:List Rn) (was:Int) (j:Nat),goodR was p→goodR was (p.take j)
 | [],_,_,_=>by simp [goodR]
 | x :: p,was,0,_=>by simp [goodR]
 | x :: p,was,j+1,h=>by
   obtain⟨h1,h2,h3,h4,h5,h6,h7,h8⟩:=h
   exact⟨h1,h2,h3,h4,h5,h6,h7,good_cut p _ j h8⟩
theorem nums_len:∀ (p:List Rn) (was:Int),(runNums was p).length=3 * p.length
 | [],_=>rfl
 | x :: p,was=>by simp [runNums,nums_len p];omega
theorem pre_len {k:Int} {p:List Rn} (hk:0≤k∧k≤4) (hp:mayR p) (ho:∀ x∈p,okR x) (j:Nat):(nbs ([k,(p.length:Int)]++runNums 0 (p.take j))).length≤6 * 194:=by
 have h1:=hp.2.1
 refine Nat.le_trans (nbs_len fun a ha=>?_) ?_
 ·rcases List.mem_append.1 ha with h | h
  ·simp only [List.mem_cons,List.not_mem_nil,or_false] at h
   omega
  ·have hg:goodR 0 (p.take j):=by
    have:=may_good hp ho
    exact good_cut p 0 j this
   have:=good_nums _ _ hg a h
   omega
 ·rw [List.length_append,nums_len,List.length_take]
  simp only [List.length_cons,List.length_nil]
  omega
end Go.Proofs.YtmkpfdcnikgokaaGreat
