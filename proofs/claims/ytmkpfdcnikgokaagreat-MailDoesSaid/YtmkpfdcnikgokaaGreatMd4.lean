/-
  Texts of this claim, put together: CodeMath, NumPut, NumGet, NumRefB, CodePut, OpBox. What each theorem asks stands in its statement.
-/
import Derived.Test.YtmkpfdcnikgokaaGreatRows
import Derived.Test.YtmkpfdcnikgokaaGreatMd1
import Derived.Test.YtmkpfdcnikgokaaGreatMd3
set_option linter.unusedVariables false
set_option linter.unusedSimpArgs false
set_option maxRecDepth 100000
set_option maxHeartbeats 25600000
namespace Go.Proofs.YtmkpfdcnikgokaaGreat
def Ap (L:List Int):List UInt8:=L.flatMap fun z=>nb z.toNat
theorem Cf:Ap []= []:=rfl
theorem Au (L M:List Int):Ap (L++M)=Ap L++Ap M:=by simp [Ap]
theorem Bv (z:Int) (L:List Int):Ap (z :: L)=nb z.toNat++Ap L:=by simp [Ap]
def As:Int->List Rn->List Int
 | _, []=> []
 | was,x :: p=>(x.1 - was) :: x.2.1 :: x.2.2 :: As (x.1+x.2.2 - 1) p
def B4:Int->List Rn->Int
 | was, []=>was
 | _,x :: p=>B4 (x.1+x.2.2 - 1) p
theorem Kz:∀ (p q:List Rn) (was:Int),As was (p++q)=As was p++As (B4 was p) q
 | [],_,_=>rfl
 | x :: p,q,was=>by simp [As,B4,Kz p q]
theorem Ir:∀ (p q:List Rn) (was:Int),B4 was (p++q)=B4 (B4 was p) q
 | [],_,_=>rfl
 | x :: p,q,was=>by simp [B4,Ir p q]
def Bb (k t r was z:Int):List Int:=if k=1 then [z] else if k=2 then [] else [t - was,r]
def Ji (k t r:Int) (p:List Rn) (z:Int):List Int:=k :: (p.length:Int) :: (As 0 p++Bb k t r (B4 0 p) z)
def Je (k t r:Int) (p:List Rn) (z:Int):List UInt8:=Ap (Ji k t r p z)
def Eb (b:List UInt8) (a:Nat) (lo hi:Int):Option (Int×Nat):=
 match Ew (b.drop a) with
 | some (n,s)=>if (n:Int) < lo\/hi < (n:Int) then none else some ((n:Int),a+s)
 | none=>none
theorem Em {b:List UInt8} {a a':Nat} {lo hi n:Int} (h:Eb b a lo hi=some (n,a')):lo<=n/\n<=hi/\0<=n/\n<=1099511627776/\a < a'/\(a<=b.length->a'<=b.length)/\(a<=b.length->b.take a'=b.take a++nb n.toNat):=by
 unfold Eb at h;split at h
 ·rename_i m s hg
  split at h
  ·cases h
  ·rename_i hb
   simp only [Option.some.injEq,Prod.mk.injEq] at h;obtain⟨rfl,rfl⟩:=h;obtain⟨h1,h2,h3,h4⟩:=D6 hg;have h5:=Lv m;rw [List.length_drop] at h2;refine⟨by omega,by omega,by omega,by omega,by omega,fun h=>by omega,fun h=>?_⟩;rw [Int.toNat_natCast,h3,List.take_add]
 ·cases h
theorem Dh {b:List UInt8} {a a':Nat} {lo hi n:Int} {L:List Int} (h:Eb b a lo hi=some (n,a')) (ha:a<=b.length) (hL:b.take a=Ap L):b.take a'=Ap (L++ [n])/\a'<=b.length:=by
 obtain⟨-,-,-,-,-,h1,h2⟩:=Em h;refine⟨?_,h1 ha⟩;rw [h2 ha,hL,Au,Bv,Cf,List.append_nil]
theorem Gf {b rest:List UInt8} {L M:List Int} {n lo hi:Int} (hb:b=Ap (L++n :: M)++rest) (h0:0<=n) (h1:lo<=n) (h2:n<=hi) (h3:n<=1099511627776):Eb b (Ap L).length lo hi=some (n,(Ap (L++ [n])).length):=by
 have hd:b.drop (Ap L).length=nb n.toNat++(Ap M++rest):=by
  rw [hb,Au,Bv,List.append_assoc,List.append_assoc,List.drop_left]
 unfold Eb;rw [hd,Oh n.toNat _ (by omega)];simp only;rw [if_neg (by omega),Au,Bv,Cf,List.append_nil,List.length_append,Int.toNat_of_nonneg h0]
def Dd (b:List UInt8):Nat->Nat->Int->Option (List Rn×Int×Nat)
 | 0,a,was=>some ([],was,a)
 | m+1,a,was=>(Eb b a 1 1073741824).bind fun d=>(Eb b d.2 0 7).bind fun r=>(Eb b r.2 1 4096).bind fun mm=>
   if 1073741824 < was+d.1+mm.1 - 1 then none else (Dd b m mm.2 (was+d.1+mm.1 - 1)).map fun q=>((was+d.1,r.1,mm.1) :: q.1,q.2)
theorem Jr {b:List UInt8}:∀ (m a:Nat) (was:Int) (L:List Int) (p:List Rn) (w:Int) (a':Nat),0<=was->a<=b.length->b.take a=Ap L->Dd b m a was=some (p,w,a')->
 b.take a'=Ap (L++As was p)/\a'<=b.length/\w=B4 was p/\p.length=m/\(∀ x∈p,Gl x)/\0<=w/\(w<=1073741824\/m=0)
 | 0,a,was,L,p,w,a',h0,ha,hL,h=>by
   simp only [Dd,Option.some.injEq,Prod.mk.injEq] at h;obtain⟨rfl,rfl,rfl⟩:=h;exact⟨by simpa [As] using hL,ha,rfl,rfl,fun x hx=>(by cases hx),h0,.inr rfl⟩
 | m+1,a,was,L,p,w,a',h0,ha,hL,h=>by
   simp only [Dd,Option.bind_eq_some_iff] at h;obtain⟨⟨d,a1⟩,hd,⟨r,a2⟩,hr,⟨mm,a3⟩,hm,h⟩:=h;simp only at hd hr hm h;split at h
   ·cases h
   ·rename_i xg
    rw [Option.map_eq_some_iff] at h;obtain⟨⟨q,w',a''⟩,hq,he⟩:=h;simp only [Prod.mk.injEq] at he;obtain⟨rfl,rfl,rfl⟩:=he;obtain⟨d1,d2,-⟩:=Em hd;obtain⟨r1,r2,-⟩:=Em hr;obtain⟨m1,m2,-⟩:=Em hm;obtain⟨t1,l1⟩:=Dh hd ha hL;obtain⟨t2,l2⟩:=Dh hr l1 t1;obtain⟨t3,l3⟩:=Dh hm l2 t2;obtain⟨g1,g2,g3,g4,g5,g6,g7⟩:=Jr m a3 _ _ q w' a'' (by omega) l3 t3 hq;refine⟨?_,g2,?_,by simp [g4],?_,g6,.inl ?_⟩
    ·rw [g1];simp [As,show was+d - was=d by omega]
    ·rw [g3];rfl
    ·intro x hx;rcases List.mem_cons.1 hx with rfl | hx
     ·exact⟨by simp only;omega,by simp only;omega,by simp only;omega,by simp only;omega,by simp only;omega,by simp only;omega⟩
     ·exact g5 x hx
    ·rcases g7 with g7 | rfl
     ·exact g7
     ·simp only [Dd,Option.some.injEq,Prod.mk.injEq] at hq;obtain⟨-,rfl,-⟩:=hq;omega
def Jy:Int->List Rn->Prop
 | _, []=>True
 | was,x :: p=>1<=x.1 - was/\x.1 - was<=1073741824/\0<=x.2.1/\x.2.1<=7/\1<=x.2.2/\x.2.2<=4096/\x.1+x.2.2 - 1<=1073741824/\Jy (x.1+x.2.2 - 1) p
theorem P6:∀ (p:List Rn) (x:Rn),J6 x->Ix x p->(∀ y∈p,Gl y)->Jy (x.1+x.2.2 - 1) p
 | [],_,_,_,_=>trivial
 | y :: p,x,hx,hc,ho=>by
   obtain⟨h1,h2,h3⟩:=hc;obtain⟨o1,o2,o3,o4,o5,o6⟩:=h1;obtain⟨x1,x2,x3,x4,x5,x6⟩:=hx;have:=ho y List.mem_cons_self;unfold Gl at this;have hs:=h2.1;exact⟨by omega,by omega,by omega,by omega,o4,o5,o6,P6 p y ⟨o1,o2,o3,o4,o5,o6⟩ h3 fun z hz=>ho z (List.mem_cons_of_mem _ hz)⟩
theorem Kg {p:List Rn} (hp:E9 p) (ho:∀ y∈p,Gl y):Jy 0 p:=by
 cases p with
 | nil=>trivial
 | cons x p=>
   obtain⟨h1,h2⟩:=hp.2.2.1;obtain⟨o1,o2,o3,o4,o5,o6⟩:=h1;have:=ho x List.mem_cons_self;unfold Gl at this;exact⟨by omega,by omega,by omega,by omega,o4,o5,o6,P6 p x ⟨o1,o2,o3,o4,o5,o6⟩ h2 fun z hz=>ho z (List.mem_cons_of_mem _ hz)⟩
theorem Nk:∀ (p:List Rn) (was:Int),Jy was p->∀ a∈As was p,0<=a/\a<=1073741824
 | [],_,_=>fun a ha=>by cases ha
 | x :: p,was,h=>fun a ha=>by
   obtain⟨h1,h2,h3,h4,h5,h6,h7,h8⟩:=h;simp only [As,List.mem_cons] at ha;rcases ha with rfl | rfl | rfl | ha
   ·omega
   ·omega
   ·omega
   ·exact Nk p _ h8 a ha
theorem Py {b rest:List UInt8}:∀ (p:List Rn) (was:Int) (L M:List Int),Jy was p->b=Ap (L++(As was p++M))++rest->Dd b p.length (Ap L).length was=some (p,B4 was p,(Ap (L++As was p)).length)
 | [],was,L,M,_,_=>by simp [Dd,As,B4]
 | x :: p,was,L,M,h,hb=>by
   obtain⟨h1,h2,h3,h4,h5,h6,h7,h8⟩:=h;have e1:=Gf (L:=L) (n:=x.1 - was) (M:=x.2.1 :: x.2.2 :: As (x.1+x.2.2 - 1) p++M) (lo:=1) (hi:=1073741824) (rest:=rest) (b:=b) (by rw [hb];simp [As]) (by omega) h1 h2 (by omega);have e2:=Gf (L:=L++ [x.1 - was]) (n:=x.2.1) (M:=x.2.2 :: As (x.1+x.2.2 - 1) p++M) (lo:=0) (hi:=7) (rest:=rest) (b:=b) (by rw [hb];simp [As]) h3 h3 h4 (by omega);have e3:=Gf (L:=L++ [x.1 - was]++ [x.2.1]) (n:=x.2.2) (M:=As (x.1+x.2.2 - 1) p++M) (lo:=1) (hi:=4096) (rest:=rest) (b:=b) (by rw [hb];simp [As]) (by omega) h5 h6 (by omega);have e4:=Py (b:=b) (rest:=rest) p (x.1+x.2.2 - 1) (L++ [x.1 - was]++ [x.2.1]++ [x.2.2]) M h8 (by rw [hb];simp [As]);simp only [List.length_cons,Dd,e1,Option.bind_some,e2,e3];have ew:was+(x.1 - was)+x.2.2 - 1=x.1+x.2.2 - 1:=by omega
   have ex:was+(x.1 - was)=x.1:=by omega
   rw [ew,ex,if_neg (by omega),e4];simp [As,B4]
abbrev Rd:=Int×Int×Int×List Rn×Int×Nat
def Dc (b:List UInt8) (k:Int) (p:List Rn) (was:Int) (a:Nat):Option Rd:=
 if k=1 then (Eb b a 0 1114111).map fun z=>(k,(Bw p).1,(Bw p).2,p,z.1,z.2)
 else if k=2 then some (k,(Bw p).1,(Bw p).2,p,0,a)
 else (Eb b a 1 1073741824).bind fun d=>(Eb b d.2 0 7).map fun r=>(k,was+d.1,r.1,p,0,r.2)
def Bz (b:List UInt8):Option Rd:=
 (Eb b 0 1 4).bind fun k=>(Eb b k.2 1 64).bind fun m=>(Dd b m.1.toNat m.2 0).bind fun q=>(Dc b k.1 q.1 q.2.1 q.2.2).bind fun o=>
   if Dz o.1 o.2.1 o.2.2.1 o.2.2.2.1 o.2.2.2.2.1 then some o else none
theorem Ja {p:List Rn} (hp:E9 p) (was:Int):(Bw p).1=B4 was p:=by
 have ak:p≠ []:=fun e=>by rw [e] at hp;have:=hp.1;simp at this
 obtain⟨q,x,rfl⟩:∃ q x,p=q++ [x]:=⟨p.dropLast,p.getLast ak,(List.dropLast_concat_getLast ak).symm⟩;rw [Ig q x hp,Ir];rfl
theorem Ev {p:List Rn} (hp:E9 p):1<=(Bw p).1:=by
 have ak:p≠ []:=fun e=>by rw [e] at hp;have:=hp.1;simp at this
 obtain⟨q,x,rfl⟩:∃ q x,p=q++ [x]:=⟨p.dropLast,p.getLast ak,(List.dropLast_concat_getLast ak).symm⟩;rw [Ig q x hp];obtain⟨h1,-,-,h4,-⟩:=Eh hp.2.2.1 x (by simp);unfold R2;simp only;omega
theorem Ki {b:List UInt8} {k t r:Int} {p:List Rn} {z:Int} {n:Nat} (h:Bz b=some (k,t,r,p,z,n)):
 Dz k t r p z/\b.take n=Je k t r p z/\n<=b.length/\(∀ x∈p,Gl x)/\1<=k/\k<=4:=by
 simp only [Bz,Option.bind_eq_some_iff] at h;obtain⟨⟨k',a1⟩,hk,⟨m,a2⟩,hm,⟨p',w,a3⟩,hr,⟨k2,t2,r2,p2,z2,n2⟩,ht,h⟩:=h;simp only at hm hr ht h;split at h
 ·rename_i bt
  simp only [Option.some.injEq,Prod.mk.injEq] at h;obtain⟨rfl,rfl,rfl,rfl,rfl,rfl⟩:=h;obtain⟨k1,ZU,-⟩:=Em hk;obtain⟨m1,m2,-⟩:=Em hm;obtain⟨t1,l1⟩:=Dh (L:= []) hk (by omega) (by simp [Ap]);obtain⟨YR,l2⟩:=Dh hm l1 t1;obtain⟨g1,g2,g3,g4,g5,g6,-⟩:=Jr m.toNat a2 0 _ p' w a3 (by omega) l2 YR hr;have nc:(p'.length:Int)=m:=by omega
  unfold Dc at ht;split at ht
  ·rename_i hk1
   subst hk1;rw [Option.map_eq_some_iff] at ht;obtain⟨⟨z',a4⟩,hz,he⟩:=ht;simp only [Prod.mk.injEq] at he;obtain⟨rfl,rfl,rfl,rfl,rfl,rfl⟩:=he;obtain⟨t4,l4⟩:=Dh hz g2 g1;refine⟨bt,?_,l4,g5,k1,ZU⟩;rw [t4];simp [Je,Ji,Bb,nc]
  ·split at ht
   ·rename_i hk1 qh
    subst qh;simp only [Option.some.injEq,Prod.mk.injEq] at ht;obtain⟨rfl,rfl,rfl,rfl,rfl,rfl⟩:=ht;refine⟨bt,?_,g2,g5,k1,ZU⟩;rw [g1];simp [Je,Ji,Bb,nc]
   ·rename_i hk1 qh
    simp only [Option.bind_eq_some_iff,Option.map_eq_some_iff] at ht;obtain⟨⟨d,a4⟩,hd,⟨r',a5⟩,gf,he⟩:=ht;simp only [Prod.mk.injEq] at hd gf he;obtain⟨rfl,rfl,rfl,rfl,rfl,rfl⟩:=he;obtain⟨t4,l4⟩:=Dh hd g2 g1;obtain⟨t5,l5⟩:=Dh gf l4 t4;refine⟨bt,?_,l5,g5,k1,ZU⟩;rw [t5];subst g3;have hdd:B4 0 p'+d - B4 0 p'=d:=by omega
    simp [Je,Ji,Bb,nc,hk1,qh,hdd]
 ·cases h
theorem T8 {k t r:Int} {p:List Rn} {z:Int} (rest:List UInt8) (h:Dz k t r p z) (ho:∀ x∈p,Gl x) (NT:0<=r):Bz (Je k t r p z++rest)=some (k,t,r,p,z,(Je k t r p z).length):=by
 have hp:=h.2.1;have hg:=Kg hp ho;have FR:=Ja hp 0;obtain⟨hi1,hi2,hi3⟩:=h.1;have h1:=hp.1;have h2:=hp.2.1;have hk:1<=k/\k<=4:=by
  have:=h.2.2;unfold Cl at this;omega
 generalize hb:Je k t r p z++rest=b;have de:b=Ap ([]++k :: ((p.length:Int) :: (As 0 p++Bb k t r (B4 0 p) z)))++rest:=by rw [<-hb];rfl
 have e1:=Gf (lo:=1) (hi:=4) de (by omega) hk.1 hk.2 (by omega);have e2:=Gf (b:=b) (rest:=rest) (L:= [k]) (n:=(p.length:Int)) (M:=As 0 p++Bb k t r (B4 0 p) z) (lo:=1) (hi:=64) (by rw [de];rfl) (by omega) (by omega) (by omega) (by omega);have e3:=Py (b:=b) (rest:=rest) p 0 [k,(p.length:Int)] (Bb k t r (B4 0 p) z) hg (by rw [de];rfl);have UT:Eb b 0 1 4=some (k,(Ap [k]).length):=e1;have US:Eb b (Ap [k]).length 1 64=some ((p.length:Int),(Ap [k,(p.length:Int)]).length):=e2;have et:Dc b k p (B4 0 p) (Ap ([k,(p.length:Int)]++As 0 p)).length=some (k,t,r,p,z,(Je k t r p z).length):=by
  unfold Dc;rcases h.2.2 with⟨rfl,hl,hz⟩ | ⟨rfl,hl,rfl⟩ | ⟨hk34,rfl,hl⟩
  ·rw [if_pos rfl];have e4:=Gf (b:=b) (rest:=rest) (L:= [1,(p.length:Int)]++As 0 p) (n:=z) (M:= []) (lo:=0) (hi:=1114111) (by rw [de];simp [Bb]) hz.1 hz.1 hz.2.1 (by have:=hz.2.1;omega);rw [e4,hl];simp [Je,Ji,Bb]
  ·rw [if_neg (by omega),if_pos rfl,hl];simp [Je,Ji,Bb]
  ·rw [if_neg (by omega),if_neg (by omega)];have htn:Bb k t r (B4 0 p) 0= [t - B4 0 p,r]:=by unfold Bb;rw [if_neg (by omega),if_neg (by omega)]
   rw [FR] at hl;have ZX:0<=B4 0 p:=by
    rw [<-FR];have:=Ev hp;omega
   have e4:=Gf (b:=b) (rest:=rest) (L:= [k,(p.length:Int)]++As 0 p) (n:=t - B4 0 p) (M:= [r]) (lo:=1) (hi:=1073741824) (by rw [de,htn];simp) (by omega) (by omega) (by omega) (by omega);have e5:=Gf (b:=b) (rest:=rest) (L:= [k,(p.length:Int)]++As 0 p++ [t - B4 0 p]) (n:=r) (M:= []) (lo:=0) (hi:=7) (by rw [de,htn];simp) NT NT (by omega) (by omega);rw [e4];simp only [Option.bind_some,e5,Option.map_some];have:B4 0 p+(t - B4 0 p)=t:=by omega
   rw [this];simp [Je,Ji,htn]
 unfold Bz;rw [UT];simp only [Option.bind_some,US];rw [Int.toNat_natCast,e3];simp only [Option.bind_some,et];rw [if_pos h]
end Go.Proofs.YtmkpfdcnikgokaaGreat
namespace Go.Proofs.YtmkpfdcnikgokaaGreat
open Go.RowKit
theorem Dq:(Tryz.prog.info? 5).map (fun i=>(i.zero,i.size,i.bytes))=some (some (.int .u8 0),1,1):=by kernel_rfl
theorem Af6 (n:Int) (w:World) (h:n < 0\/1099511627776 < n):
 Calls Tryz.prog 83 #[.int .i64 n] w fun e w'=>e= .returned (.tuple #[.slice none 0 0,.int .i64 2])/\w=w':=by
 rcases h with h | h
 ·go_enter Tryz.func83,Tryz.ntmps83;go_wp2;go_ret2;exact⟨rfl,rfl⟩
 ·have h0:¬ n < 0:=by omega
  go_enter Tryz.func83,Tryz.ntmps83;go_wp2;go_ret2;exact⟨rfl,rfl⟩
theorem Yv:∀ k:Fin 256,bits .or .u8 ((k.val:Nat):Int) 128=((UInt8.ofNat (k.val % 128+128)).toNat:Int):=by decide+kernel
theorem Afv (m:Nat):bits .or .u8 ((m:Int) % 256) 128=((UInt8.ofNat (m % 128+128)).toNat:Int):=by
 have h:=Yv ⟨m % 256,Nat.mod_lt _ (by omega)⟩;have e1:(((m % 256:Nat)):Int)=(m:Int) % 256:=by omega
 have e2:m % 256 % 128=m % 128:=by omega
 simp only [e1,e2] at h;exact h
theorem Z6 (n:Nat) (w:World) (h:n<=1099511627776):
 Calls Tryz.prog 83 #[.int .i64 (n:Int)] w fun e w'=>∃ v,e= .returned (.tuple #[v,.int .i64 0])/\w'.ownsRow w.heap.size 5 1 v (nb n).length (Cw (nb n))/\Below w.heap.size w w':=by
 have h1:¬ (n:Int) < 0:=by omega
 have h2:¬ (1099511627776:Int) < n:=by omega
 obtain⟨i0,cr,cb,cu,cq⟩:=info_parts Dq;go_enter Tryz.func83,Tryz.ntmps83;go_wp2;have H:=Aa h;clear h h1 h2
 go_loopw [0,4] (fun x b wr=>∃ (m:Nat) (pre:List UInt8),x= .int .i64 (m:Int)/\Hid (nb n=pre++nb m)/\m<=n/\wr.ownsRow w.heap.size 5 1 b pre.length (Cw pre)/\Below w.heap.size w wr) (fun x _ _=>(intOf x).toNat)
 case atStart=>exact⟨n, [],rfl,Aa rfl,Nat.le_refl _,World.ownsRow_nil _ _ _ _,Below.refl _ _⟩
 case round=>
  obtain⟨m,pre,rfl,hb,hm,ah,tr⟩:=hrel;have cn:pre.length < 1073741824:=by
   have h1:=Gw H.out;have h2:=congrArg List.length hb.out;rw [List.length_append] at h2;omega
  by_cases ai:m < 128
  ·go_wp2_with (at_builtin;refine Dv rfl _ _ 23 rfl w.heap.size i0 (.int .u8 0) 1 1 Tryz.underlying23 cr cb cu cq rfl (by decide) _ _ _ rfl ah 1 rfl rfl rfl cn (by decide) tr.size ?_;intro v1 w1 aq ac);go_ret2;refine⟨v1,rfl,?_,tr.trans ac⟩;rw [hb.out,I6 ai];rw [Bg];have e:(m:Int) % 256=(m:Int):=by omega
   simpa [Cw,e] using aq
  ·go_wp2_with (at_builtin;refine Dv rfl _ _ 23 rfl w.heap.size i0 (.int .u8 0) 1 1 Tryz.underlying23 cr cb cu cq rfl (by decide) _ _ _ rfl ah 1 rfl rfl rfl cn (by decide) tr.size ?_;intro v1 w1 aq ac);go_roundw
   case rel=>
    refine⟨m / 128,pre++ [UInt8.ofNat (m % 128+128)],by go_num,Aa ?_,by omega,?_,tr.trans ac⟩
    ·rw [hb.out,O8 ai];simp
    ·rw [Afv] at aq;simpa [Cw] using aq
   case measure=>simp [intOf];omega
theorem Xs (z:Int) (w:World) (h0:0<=z) (h:z<=1099511627776):
 Calls Tryz.prog 83 #[.int .i64 z] w fun e w'=>∃ v,e= .returned (.tuple #[v,.int .i64 0])/\w'.ownsRow w.heap.size 5 1 v (nb z.toNat).length (Cw (nb z.toNat))/\Below w.heap.size w w':=by
 obtain⟨n,rfl⟩:=Int.eq_ofNat_of_zero_le h0;have:=Z6 n w (by omega);simpa using this
def Fp:Option (Nat×Nat)->Value
 | some (n,s)=> .tuple #[.int .i64 (n:Int),.int .i64 (s:Int),.int .i64 0]
 | none=> .tuple #[.int .i64 0,.int .i64 0,.int .i64 8]
theorem Ae9:fv 1=4607182418800017408:=by decide+kernel
theorem Afa:fv 128=4638707616191610880:=by decide+kernel
theorem Zc (n k:Nat) (x:UInt8) (hn:n < 128 ^ k) (hk:k < 6):∃ m v n' u',m=x.toNat % 128/\v=128 ^ k/\n'=n+m * v/\u'=128 ^ (k+1)/\n' < 128 ^ (k+1)/\n' < 4398046511104/\
 bits .and .u8 (x.toNat:Int) 127=(m:Int)/\floatBits .mul .f64 (fv m) (fv v)=some (fv (m * v))/\floatBits .add .f64 (fv n) (fv (m * v))=some (fv n')/\
 floatBits .mul .f64 4638707616191610880 (fv v)=some (fv u')/\floatToIntVal .f64 (fv n') .i64=some (n':Int):=by
 have hx:=x.toNat_lt;have hp:128 ^ k<=34359738368:=by
  have:128 ^ k<=128 ^ 5:=Nat.pow_le_pow_right (by omega) (by omega);omega
 have hm:x.toNat % 128 < 128:=Nat.mod_lt _ (by omega);have hmv:x.toNat % 128 * 128 ^ k<=127 * 128 ^ k:=Nat.mul_le_mul_right _ (by omega);have hs:128 ^ (k+1)=128 ^ k * 128:=Nat.pow_succ _ _;refine⟨x.toNat % 128,128 ^ k,_,_,rfl,rfl,rfl,rfl,by omega,by omega,?_,Aad _ _ (by omega) (by omega) (by omega),Afi _ _ (by omega) (by omega) (by omega),?_,Ae4 _ (by omega)⟩
 ·have:=u8_and_nat x.toNat 127 (by omega) (by omega);refine this.trans ?_;rw [show (127:Nat)=2 ^ 7 - 1 from rfl,Nat.and_two_pow_sub_one_eq_mod]
 ·rw [<-Afa,Aad _ _ (by omega) (by omega) (by omega),hs,Nat.mul_comm]
theorem Sr (A:Option Addr) (c:Nat) (l:List UInt8) (w:World) (hr:RB w w.heap.size A l) (hl:l.length < 1073741824):
 Calls Tryz.prog 99 #[.slice A l.length c] w fun e w'=>e= .returned (Fp (Ew l))/\w=w':=by
 go_enter Tryz.func99,Tryz.ntmps99;go_wp2_with fail;refine Qf 0 (fun a' w'=>w'=w/\∃ (k n u:Nat) (u6 u7 u8 u9 u10 u11 u12 u13 u14 u15 u16 u17 u18 u19 u20 u21 u22 u23 u24 u25 u26 u27 u28 u29 u30 u31 u32 u33 u34 u35 u36 u37 u38 u39 u40 u41 u42 u43 u44 u45 u46 u47 u48 u49 u50:Value),a'={ tmps:=#[.slice A l.length c,undef,.int .i64 0,.int .i64 (k:Int),.int .i64 0,.complex .f64 (fv n) (fv u),u6,u7,u8,u9,u10,u11,u12,u13,u14,u15,u16,u17,u18,u19,u20,u21,u22,u23,u24,u25,u26,u27,u28,u29,u30,u31,u32,u33,u34,u35,u36,u37,u38,u39,u40,u41,u42,u43,u44,u45,u46,u47,u48,u49,u50],defers:= [] }/\Ew l=gg k n (l.drop k)/\n < 128 ^ k/\u=128 ^ k/\k<=6/\k<=l.length) (fun a' _=>(6 - (intOf (a'.tmps.getD 3 undef)).toNat)) rfl ?_ ?_
 ·intro K hK;go_wp2_with fail
  go_step3
  go_step
  go_step
  refine hK _ _ ⟨rfl,0,0,1,undef,undef,undef,undef,undef,undef,undef,undef,undef,undef,undef,undef,undef,undef,undef,undef,undef,undef,undef,undef,undef,undef,undef,undef,undef,undef,undef,undef,undef,undef,undef,undef,undef,undef,undef,undef,undef,undef,undef,undef,undef,undef,undef,undef,undef,?_,rfl,by omega,rfl,by omega,by omega⟩;rw [Oi,Ae9];rfl
 ·rintro a' w' ⟨rfl,k,n,u,u6,u7,u8,u9,u10,u11,u12,u13,u14,u15,u16,u17,u18,u19,u20,u21,u22,u23,u24,u25,u26,u27,u28,u29,u30,u31,u32,u33,u34,u35,u36,u37,u38,u39,u40,u41,u42,u43,u44,u45,u46,u47,u48,u49,u50,rfl,hg,hn,hu,j8,qv⟩;have hu':=Aa hu;clear hu;by_cases tp:k=l.length
  ·subst tp;rw [List.drop_length,Ae8] at hg;have zh:=Aa hg;clear hg;go_wp2_with fail;simp only [Exit.jump]
   go_ret3
   exact⟨by rw [zh.out];rfl,rfl⟩
  have ak:((k:Int) == (l.length:Int))=false:=by simp;omega
  by_cases h6:k=6
  ·subst h6;rw [Aaf] at hg;have zh:=Aa hg;clear hg;go_wp2_with fail;simp only [Exit.jump]
   go_ret3
   exact⟨by rw [zh.out];rfl,rfl⟩
  have hn6:((k:Int) == 6)=false:=by simp;omega
  have ai:k < l.length:=by omega
  obtain⟨b,off,rfl,ll,hc⟩:=RB.cell hr (by omega);have CN:=hc k ai;clear hc hr ll;rw [List.drop_eq_getElem_cons ai] at hg;have hx:=l[k].toNat_lt;obtain⟨m,v,n',u',hm,hv,IR,ZZ,VT,jv,e1,e2,e3,e4,e5⟩:=Zc n k l[k] hn (by omega);obtain rfl:u=v:=hu'.out.trans hv.symm;clear hu';have E2:=fun w:World=>run_float_arith (P:=Tryz.prog) w .mul 175 .f64 _ _ _ e2;have E3:=fun w:World=>run_float_arith (P:=Tryz.prog) w .add 175 .f64 _ _ _ e3;have E4:=fun w:World=>run_float_arith (P:=Tryz.prog) w .mul 175 .f64 _ _ _ e4;have E5:=fun w:World=>run_convert_float_int (P:=Tryz.prog) w 175 3 .f64 .i64 _ _ (by kernel_rfl) Tryz.underlying3 e5;have E1:floatOfInt .f64 (m:Int)=fv m:=rfl;have NV:=Aa hm;have hv':=Aa hv;have hn2:=Aa IR;have hu3:=Aa ZZ;clear e2 e3 e4 e5 hm hv IR ZZ;generalize QA:l[k].toNat=x at *;have wo:=Aa QA;clear QA;have ql:=Aa (show n+l[k].toNat % 128 * 128 ^ k=n' by rw [wo.out,hn2.out,NV.out,hv'.out]);by_cases GR:128<=x
  ·have CK:=Aa (So (n:=n) (r:=l.drop (k+1)) h6 (show 128<=l[k].toNat by rw [wo.out];exact GR));have zh:=Aa hg;clear hg;have h128':(128:Int)<=x:=by omega
   go_wp2_with fail
   go_step3
   have ek:(k:Int)+1=((k+1:Nat):Int):=by omega
   rw [ek];refine⟨rfl,⟨rfl,k+1,n',u',_,_,_,_,_,_,_,_,_,_,_,_,_,_,_,_,_,_,_,_,_,_,_,_,_,_,_,_,_,_,_,_,_,_,_,_,_,_,_,_,_,_,_,_,_,rfl,?_,VT,hu3.out,by omega,by omega⟩,?_⟩
   ·rw [zh.out,CK.out,ql.out]
   ·simp [intOf];omega
  ·have XH:(x:Int) < 128:=by omega
   have nf:l[k].toNat < 128:=by rw [wo.out];omega
   by_cases xa:1099511627776 < n'
   ·have CK:=Aa (Sb (k:=k) (n:=n) (r:=l.drop (k+1)) nf (.inl (by rw [ql.out];exact xa)));have zh:=Aa hg;clear hg nf;have de:(1099511627776:Int) < n':=by omega
    go_wp2_with fail;simp only [Exit.jump]
    go_ret3
    exact⟨by rw [zh.out,CK.out];rfl,rfl⟩
   ·have de:(n':Int)<=1099511627776:=by omega
    by_cases hz:x=0/\0 < k
    ·have CK:=Aa (Sb (k:=k) (n:=n) (r:=l.drop (k+1)) nf (.inr (by rw [wo.out];exact hz)));have zh:=Aa hg;clear hg nf;have z1:((x:Int) == 0)=true:=by simp [hz.1]
     have z2:(1:Int) < (k:Int)+1:=by omega
     clear hz;go_wp2_with fail;simp only [Exit.jump]
     go_ret3
     exact⟨by rw [zh.out,CK.out];rfl,rfl⟩
    ·have CK:=Aa (Sq (k:=k) (n:=n) (r:=l.drop (k+1)) h6 nf (by rw [ql.out,wo.out];omega));have zh:=Aa hg;clear hg nf;have fin:Fp (Ew l)= .tuple #[.int .i64 (n':Int),.int .i64 ((k:Int)+1),.int .i64 0]:=by
      rw [zh.out,CK.out,ql.out];rfl
     have LK:=Aa fin;clear fin;by_cases qe:x=0
     ·have z1:((x:Int) == 0)=true:=by simp [qe]
      have z2:¬ (1:Int) < (k:Int)+1:=by omega
      clear hz qe;go_wp2_with fail;simp only [Exit.jump]
      go_ret3
      exact⟨by rw [LK.out];rfl,rfl⟩
     ·have z1:((x:Int) == 0)=false:=by simp;omega
      clear hz qe;go_wp2_with fail;simp only [Exit.jump]
      go_ret3
      exact⟨by rw [LK.out];rfl,rfl⟩
theorem Ny (n:Nat) (w:World) (h:n<=1099511627776):
 Calls Tryz.prog 132 #[.int .i64 (n:Int)] w fun e w'=>∃ v,e= .returned v/\w'.ownsRow w.heap.size 5 1 v (nb n).length (Cw (nb n))/\Below w.heap.size w w':=by
 obtain⟨i0,cr,cb,cu,cq⟩:=info_parts Dq;have H:=Aa h;clear h;go_enter Tryz.func132,Tryz.ntmps132;go_wp2_with fail
 go_loopw [0,3] (fun x b wr=>∃ (m:Nat) (pre:List UInt8),x= .int .i64 (m:Int)/\Hid (nb n=pre++nb m)/\m<=n/\wr.ownsRow w.heap.size 5 1 b pre.length (Cw pre)/\Below w.heap.size w wr) (fun x _ _=>(intOf x).toNat)
 case atStart=>exact⟨n, [],rfl,Aa rfl,Nat.le_refl _,World.ownsRow_nil _ _ _ _,Below.refl _ _⟩
 case round=>
  obtain⟨m,pre,rfl,hb,hm,ah,tr⟩:=hrel;have cn:pre.length < 1073741824:=by
   have h1:=Gw H.out;have h2:=congrArg List.length hb.out;rw [List.length_append] at h2;omega
  have hmb:(m:Int)<=1099511627776:=by have:=H.out;omega
  by_cases ai:m < 128
  ·go_wp2_with (at_builtin;refine Dv rfl _ _ 23 rfl w.heap.size i0 (.int .u8 0) 1 1 Tryz.underlying23 cr cb cu cq rfl (by decide) _ _ _ rfl ah 1 rfl rfl rfl cn (by decide) tr.size ?_;intro v1 w1 aq ac);go_ret;refine⟨v1,rfl,?_,tr.trans ac⟩;rw [hb.out,I6 ai];rw [Bg];have e:(m:Int) % 256=(m:Int):=by omega
   simpa [Cw,e] using aq
  ·go_wp2_with (at_builtin;refine Dv rfl _ _ 23 rfl w.heap.size i0 (.int .u8 0) 1 1 Tryz.underlying23 cr cb cu cq rfl (by decide) _ _ _ rfl ah 1 rfl rfl rfl cn (by decide) tr.size ?_;intro v1 w1 aq ac);go_roundw
   case rel=>
    refine⟨m / 128,pre++ [UInt8.ofNat (m % 128+128)],by go_num,Aa ?_,by omega,?_,tr.trans ac⟩
    ·rw [hb.out,O8 ai];simp
    ·have e:((UInt8.ofNat (m % 128+128)).toNat:Int)=(m:Int) % 128+128:=by
      rw [UInt8.toNat_ofNat',Nat.mod_eq_of_lt (by omega)];omega
     have e':((m:Int) % 128+128) % 256=(m:Int) % 128+128:=by omega
     simpa [Cw,e,e'] using aq
   case measure=>simp [intOf];omega
theorem Sz (n k:Nat) (x:UInt8) (hn:n < 128 ^ k) (hk:k < 6):∃ v p n' u',v=128 ^ k/\p=x.toNat % 128 * v/\n'=n+p/\u'=128 ^ (k+1)/\n' < u'/\n' < 4398046511104/\v<=34359738368/\n < 34359738368/\
 (x.toNat:Int) % 128 * (v:Int)=(p:Int)/\(p:Int)<=4398046511104/\(n:Int)+(p:Int)=(n':Int)/\(v:Int) * 128=(u':Int)/\(u':Int)<=4398046511104:=by
 have hx:=x.toNat_lt;have hp:128 ^ k<=34359738368:=by
  have:128 ^ k<=128 ^ 5:=Nat.pow_le_pow_right (by omega) (by omega);omega
 have hm:x.toNat % 128 < 128:=Nat.mod_lt _ (by omega);have hmv:x.toNat % 128 * 128 ^ k<=127 * 128 ^ k:=Nat.mul_le_mul_right _ (by omega);have hs:128 ^ (k+1)=128 ^ k * 128:=Nat.pow_succ _ _;refine⟨128 ^ k,_,_,_,rfl,rfl,rfl,rfl,by omega,by omega,by omega,by omega,?_,by omega,by omega,by omega,by omega⟩;rw [Int.natCast_mul]
 congr 1
theorem Jq (A:Option Addr) (c:Nat) (l:List UInt8) (w:World) (hr:RB w w.heap.size A l) (hl:l.length < 1073741824):
 Calls Tryz.prog 103 #[.slice A l.length c] w fun e w'=>e= .returned (Fp (Ew l))/\w=w':=by
 go_enter Tryz.func103,Tryz.ntmps103;go_wp2_with fail
 go_loop [5,6,7] (fun x y i=>∃ (k n u:Nat),k<=6/\k<=l.length/\i= .int .i64 (k:Int)/\x= .int .i64 (n:Int)/\y= .int .i64 (u:Int)/\n < 128 ^ k/\Hid (u=128 ^ k)/\Hid (Ew l=gg k n (l.drop k))) (fun _ _ i=>6 - (intOf i).toNat)
 case atStart=>exact⟨0,0,1,by omega,by omega,rfl,rfl,rfl,by omega,Aa rfl,Aa rfl⟩
 case round=>
  obtain⟨k,n,u,j8,qv,rfl,rfl,rfl,hn,hu,hg⟩:=hrel;by_cases tp:k=l.length
  ·subst tp;have hz:¬ (l.length:Int) < l.length:=by omega
   go_wp2_with fail
   go_ret3
   refine⟨?_,rfl⟩;rw [hg.out,List.drop_length];rfl
  have ai:k < l.length:=by omega
  have VT:(k:Int) < l.length:=by omega
  by_cases h6:k=6
  ·subst h6;go_wp2_with fail
   go_ret3
   refine⟨?_,rfl⟩;rw [hg.out,Aaf];rfl
  have h6':(k:Int) < 6:=by omega
  obtain⟨b,off,rfl,ll,hc⟩:=RB.cell hr (by omega);have CN:=hc k ai;clear hc hr ll;have hx:=l[k].toNat_lt;obtain⟨v,p,n',u',hv,hp,IR,hu',OS,jv,QC,hn1,e1,e2,e3,e4,e5⟩:=Sz n k l[k] hn (by omega);obtain rfl:u=v:=hu.out.trans hv.symm;have ql:=Aa (show n+l[k].toNat % 128 * 128 ^ k=n' by rw [IR,hp,hv]);have ZZ:=Aa hu';have zh:=Aa (hg.out.trans (by rw [List.drop_eq_getElem_cons ai]));clear hv hp IR hu' hg hu hn;have QA:∃ x,x=l[k].toNat:=⟨_,rfl⟩;obtain⟨x,QA⟩:=QA;rw [<-QA] at CN e1 hx;have wo:=Aa QA;clear QA;by_cases GR:128<=x
  ·have CK:=Aa (So (n:=n) (r:=l.drop (k+1)) h6 (show 128<=l[k].toNat by rw [<-wo.out];exact GR));have h128':¬ (x:Int) < 128:=by omega
   go_wp2_with fail
   go_round
   case rel=>exact⟨k+1,n',u',by omega,by omega,by go_num,rfl,rfl,by rw [<-ZZ.out];exact OS,ZZ,Aa (by rw [zh.out,CK.out,ql.out])⟩
   case measure=>simp [intOf];omega
  ·have XH:(x:Int) < 128:=by omega
   have nf:l[k].toNat < 128:=by rw [<-wo.out];omega
   by_cases xa:1099511627776 < n'
   ·have CK:=Aa (Sb (k:=k) (n:=n) (r:=l.drop (k+1)) nf (.inl (by rw [ql.out];exact xa)));clear nf;have de:(1099511627776:Int) < n':=by omega
    go_wp2_with fail
    go_ret3
    exact⟨by rw [zh.out,CK.out];rfl,rfl⟩
   ·have de:(n':Int)<=1099511627776:=by omega
    by_cases hz:x=0/\0 < k
    ·have CK:=Aa (Sb (k:=k) (n:=n) (r:=l.drop (k+1)) nf (.inr (by rw [<-wo.out];exact hz)));clear nf;have z1:((x:Int) == 0)=true:=by simp [hz.1]
     have z2:(0:Int) < (k:Int):=by omega
     clear hz;go_wp2_with fail
     go_ret3
     exact⟨by rw [zh.out,CK.out];rfl,rfl⟩
    ·have CK:=Aa (Sq (k:=k) (n:=n) (r:=l.drop (k+1)) h6 nf (by rw [ql.out,<-wo.out];omega));clear nf;have LK:=Aa (show Fp (Ew l)= .tuple #[.int .i64 (n':Int),.int .i64 ((k:Int)+1),.int .i64 0] by rw [zh.out,CK.out,ql.out];rfl);by_cases EM:0 < k
     ·have z1:((x:Int) == 0)=false:=by simp;omega
      have z2:(0:Int) < (k:Int):=by omega
      clear hz;go_wp2_with fail
      go_ret3
      exact⟨by rw [LK.out];rfl,rfl⟩
     ·have z2:¬ (0:Int) < (k:Int):=by omega
      clear hz;go_wp2_with fail
      go_ret3
      exact⟨by rw [LK.out];rfl,rfl⟩
def Dm (w w':World):Prop:=∀ (b:Nat) (o:Obj),w.heap[b]?=some o->(∀ bh,o≠ .cells bh 5 (0,0))->w'.heap[b]?=some o
theorem Dm.refl (w:World):Dm w w:=fun _ _ h _=>h
theorem Dm.trans {a b c:World} (h:Dm a b) (k:Dm b c):Dm a c:=fun x o hx hn=>k x o (h x o hx hn) hn
theorem Dm.below {w w':World} (h:Below w.heap.size w w'):Dm w w':=fun b _ hb _=>(h.block b (Array.getElem?_eq_some_iff.1 hb).1).trans hb
def Jg (L:List Int):List Value:=L.map fun z=> .int .i64 z
theorem Bu {L:List Int} (h:∀ z∈L,0<=z/\z<=1099511627776):(Ap L).length<=6 * L.length:=by
 induction L with
 | nil=>simp [Ap]
 | cons z L ih=>
   have h1:=ih fun a ha=>h a (List.mem_cons_of_mem _ ha);have h2:=h z List.mem_cons_self;have h3:=Gw (n:=z.toNat) (by omega);rw [Bv,List.length_append,List.length_cons];omega
theorem K7 (v:Value) (pre:List UInt8) (aa g c:Nat) (L:List Int) (w:World) (ah:w.ownsRow aa 5 1 v pre.length (Cw pre)) (ao:aa<=w.heap.size)
 (hg:w.heap[g]?=some (.cells (Jg L).toArray 3 (0,0))) (hL:∀ z∈L,0<=z/\z<=1099511627776) (ay:pre.length+6 * L.length<=1000000000):
 Calls Tryz.prog 84 #[v,.slice (some ⟨g,0,none⟩) L.length c] w fun e w'=>∃ v',e= .returned v'/\w'.ownsRow aa 5 1 v' (pre++Ap L).length (Cw (pre++Ap L))/\Below aa w w'/\Dm w w':=by
 obtain⟨i0,cr,cb,cu,cq⟩:=info_parts Dq;have HL:=Aa hL;have Hg:=Aa hg;clear hL hg;go_enter Tryz.func84,Tryz.ntmps84;go_wp2_with fail
 go_loopw [0,11] (fun u i wr=>∃ k:Nat,k<=L.length/\i= .int .i64 (k:Int)/\wr.ownsRow aa 5 1 u (pre++Ap (L.take k)).length (Cw (pre++Ap (L.take k)))/\Below aa w wr/\Hid (Dm w wr)) (fun _ i _=>L.length - (intOf i).toNat)
 case atStart=>exact⟨0,by omega,rfl,by simpa [Ap] using ah,Below.refl _ _,Aa (Dm.refl w)⟩
 case round=>
  obtain⟨k,hk,rfl,oz,hb,NI⟩:=hrel;by_cases ai:k < L.length
  ·have z0:(k:Int) < L.length:=by omega
   obtain⟨z,hz⟩:∃ z,z=L[k]:=⟨_,rfl⟩;have IJ:=HL.out L[k] (List.getElem_mem ai);rw [<-hz] at IJ;have FS:=NI.out g _ Hg.out (fun bh e=>by simp at e);have d0:wr.cell? ⟨g,k,none⟩=some (.int .i64 z):=by
    rw [cell_of_row _ _ _ _ _ _ FS,hz];simp [Jg,ai]
   have gw:Ap (L.take (k+1))=Ap (L.take k)++nb z.toNat:=by
    rw [List.take_succ_eq_append_getElem ai,Au,Bv,Cf,List.append_nil,hz]
   have jx:=Aa gw;have ME:=Aa (Gw (n:=z.toNat) (by omega));have MD:=Aa (Bu (L:=L.take k) fun a ha=>HL.out a (List.mem_of_mem_take ha));have hP:=Aa (Xs z wr IJ.1 IJ.2);clear FS hz IJ gw;go_wp2_with fail;refine hP.out.mono ?_;rintro e w2 ⟨v2,rfl,cm,ae⟩;obtain⟨A2,c2,rfl,-,-,-⟩:=Ao cm;have XI:=Ai oz ae (Nat.le_refl _);have cj:aa<=w2.heap.size:=Nat.le_trans ao (Nat.le_trans hb.size ae.size);have hs:(pre++Ap (L.take k)).length+(nb z.toNat).length<=1073741824:=by
    have h1:=ME.out;have h2:=MD.out;rw [List.length_take,Nat.min_eq_left (by omega)] at h2;rw [List.length_append];omega
   go_wp2_with (at_builtin;refine Ar _ rfl (.tmp 20) (.tmp 21) 23 rfl aa 5 i0 (.int .u8 0) 1 1 Tryz.underlying23 cr cb cu cq rfl (by decide) _ _ _ rfl XI w2.heap.size A2 (nb z.toNat).length c2 (Cw (nb z.toNat)) rfl (RD.of_own cm) (Ce _) hs (by decide) cj ?_;intro v3 w3 dm ag ui);go_roundw
   case rel=>
    refine⟨k+1,by omega,by go_num,?_,(hb.trans (ae.mono (Nat.le_trans ao hb.size))).trans ag,Aa ((NI.out.trans (Dm.below ae)).trans ui)⟩;rw [jx.out,<-List.append_assoc,Bg,List.length_append];exact dm
   case measure=>simp [intOf];omega
  ·have hz:¬ (k:Int) < L.length:=by omega
   have qv:L.take k=L:=List.take_of_length_le (by omega);rw [qv] at oz;go_wp2_with fail;go_ret;exact⟨_,rfl,by first | exact oz | (rw [List.length_append] at oz;exact oz),hb,NI.out⟩
def FB (w:World) (g:Nat) (k t r s z:Value):Prop:=w.heap[g]?=some (.cells #[k,t,r,s,z] 104 (0,0))
theorem Cv (w:World) (k t r s z:Value):∃ w2,w.alloc (.cells #[k,t,r,s,z] 104)=w2/\FB w2 w.heap.size k t r s z/\w.heap.size < w2.heap.size/\Below w.heap.size w w2:=
 ⟨_,rfl,heap_alloc_new _ _,by simp,Bf _ _⟩
theorem FB.cells {w:World} {g:Nat} {k t r s z:Value} (h:FB w g k t r s z):w.cell? ⟨g,0,none⟩=some k/\w.cell? ⟨g,1,none⟩=some t/\w.cell? ⟨g,2,none⟩=some r/\w.cell? ⟨g,3,none⟩=some s/\w.cell? ⟨g,4,none⟩=some z:=by
 refine⟨?_,?_,?_,?_,?_⟩ <;> (rw [cell_of_row _ _ _ _ _ _ h];rfl)
theorem FB.fr {w:World} {g:Nat} {k t r s z:Value} (h:FB w g k t r s z) (j:Nat):w.frozen? ⟨g,j,none⟩=false:=frozen_of_row _ _ _ _ _ h
theorem FB.lt {w:World} {g:Nat} {k t r s z:Value} (h:FB w g k t r s z):g < w.heap.size:=(Array.getElem?_eq_some_iff.1 h).1
theorem FB.below {w w':World} {g:Nat} {k t r s z:Value} (h:FB w g k t r s z) (hb:Below w.heap.size w w'):FB w' g k t r s z:=(hb.block g h.lt).trans h
theorem FB.set3 {w:World} {g:Nat} {k t r s z:Value} (h:FB w g k t r s z) (v:Value):FB (w.setCell ⟨g,3,none⟩ v) g k t r v z:=heap_setCell_same _ _ _ _ _ _ h
theorem FB.set4 {w:World} {g:Nat} {k t r s z:Value} (h:FB w g k t r s z) (v:Value):FB (w.setCell ⟨g,4,none⟩ v) g k t r s v:=heap_setCell_same _ _ _ _ _ _ h
theorem FB.other {w:World} {g:Nat} {k t r s z:Value} (h:FB w g k t r s z) {g':Nat} (ak:g≠g') (off:Nat) (v:Value):FB (w.setCell ⟨g',off,none⟩ v) g k t r s z:=(heap_setCell_other _ _ _ _ ak).trans h
def Di (w:World) (g:Nat) (k t r s z:Value):World:=((((w.setCell ⟨g,0,none⟩ k).setCell ⟨g,1,none⟩ t).setCell ⟨g,2,none⟩ r).setCell ⟨g,3,none⟩ s).setCell ⟨g,4,none⟩ z
theorem El {w:World} {g:Nat} {k' t' r' s' z':Value} (h:FB w g k' t' r' s' z') (k t r s z:Value):FB (Di w g k t r s z) g k t r s z:=by
 unfold Di;exact heap_setCell_same _ _ _ _ _ _ (heap_setCell_same _ _ _ _ _ _ (heap_setCell_same _ _ _ _ _ _ (heap_setCell_same _ _ _ _ _ _ (heap_setCell_same _ _ _ _ _ _ h))))
theorem Cm {B:Nat} {w W:World} (h:Below B w W) (g:Nat) (k t r s z:Value) (hB:B<=g):Below B w (Di W g k t r s z):=((((h.setCell hB _).setCell hB _).setCell hB _).setCell hB _).setCell hB _
theorem Eg {w:World} {g:Nat} {k t r s z:Value} {g':Nat} (ak:g'≠g):(Di w g k t r s z).heap[g']?=w.heap[g']?:=by
 unfold Di;rw [heap_setCell_other _ _ _ _ ak,heap_setCell_other _ _ _ _ ak,heap_setCell_other _ _ _ _ ak,heap_setCell_other _ _ _ _ ak,heap_setCell_other _ _ _ _ ak]
theorem Nh {w w':World} {aa B:Nat} {e:TypeId} {size n:Nat} {v:Value} {L:List Value} (h:w.ownsRow aa e size v n L) (hB:B<=aa) (hk:∀ g,aa<=g->w'.heap[g]?=w.heap[g]?):w'.ownsRow B e size v n L:=by
 refine⟨h.1,?_⟩;rcases h.2 with h0 | ⟨g,cap,bh,h1,h2,h3,h4⟩
 ·exact .inl h0
 ·exact .inr ⟨g,cap,bh,h1,Nat.le_trans hB h2,(hk g h2).trans h3,h4⟩
end Go.Proofs.YtmkpfdcnikgokaaGreat
