/-
  Texts of this claim, put together: CodeGetMath, ListStep, AppStep. What each theorem asks stands in its statement.
-/
import Derived.Test.YtmkpfdcnikgokaaGreatLt3
import Derived.Test.YtmkpfdcnikgokaaGreatLt9
import Derived.Test.YtmkpfdcnikgokaaGreatLt11
set_option linter.unusedVariables false
set_option linter.unusedSimpArgs false
set_option maxRecDepth 100000
set_option maxHeartbeats 25600000
namespace Go.Proofs.YtmkpfdcnikgokaaGreat
open Go.RowKit
/-- next, whether something was wrong or not. -/
theorem next_any (A:Option Addr) (b:List UInt8) (n c g a:Nat) (bad:Bool) (lo hi:Int) (w:World) (h:RDR w g A n c a bad) (hr:RB w w.heap.size A b) (hn:b.length=n) (hl:n < 1073741824) (ha:a≤n) (hc:n≤c) (hA:A=none→c=0) (hlh:lo≤hi):
 Calls Tryz.prog 135 #[.pointer (some ⟨g,0,none⟩),.int .i64 lo,.int .i64 hi] w fun e w'=>∃ x a' bd,e= .returned (.int .i64 x)∧RDR w' g A n c a' bd∧OnlyAt g w w'∧a'≤n∧lo≤x∧x≤hi∧
  (bad=false→∀ y q,nxt b a lo hi=some (y,q)→x=y∧a'=q∧bd=false)∧(bad=false→nxt b a lo hi=none→bd=true)∧(bad=true→bd=true):=by
 cases bad with
 | true=>
   refine (next_bad A n c g a lo hi w h).mono ?_
   rintro e w' ⟨rfl,rfl⟩
   exact⟨lo,a,true,rfl,h,OnlyAt.refl _ _,ha,Int.le_refl _,hlh,fun e=>(by cases e),fun e=>(by cases e),fun _=>rfl⟩
 | false=>
   refine (next_ok A b n c g a lo hi w h hr hn hl ha hc hA).mono ?_
   rintro e w' ⟨x,a',bd,he,h1,h2,h3,h4,h5⟩
   have hx:lo≤x∧x≤hi:=by
    cases hq:nxt b a lo hi with
    | none=>
      rw [(h5 hq).1]
      exact⟨Int.le_refl _,hlh⟩
    | some q=>
      obtain⟨y,q⟩:=q
      rw [(h4 y q hq).1]
      exact⟨(nxt_inv hq).1,(nxt_inv hq).2.1⟩
   exact⟨x,a',bd,he,h1,h2,h3,hx.1,hx.2,fun _=>h4,fun _ h=>(h5 h).2,fun e=>(by cases e)⟩
/-- What is known of an answer, with one number more read. -/
theorem read_step {α:Type} {G:Option α} {b:List UInt8} {a a':Nat} {lo hi x:Int} {bd bd':Bool} {K:Int×Nat→Option α} (h1:bd=false→G=(nxt b a lo hi).bind K) (h2:bd=true→G=none)
 (hs:bd=false→∀ y q,nxt b a lo hi=some (y,q)→x=y∧a'=q∧bd'=false) (hn:bd=false→nxt b a lo hi=none→bd'=true) (hb:bd=true→bd'=true):(bd'=false→G=K (x,a'))∧(bd'=true→G=none):=by
 cases bd with
 | true=>
   have:=hb rfl
   subst this
   exact⟨fun e=>(by cases e),fun _=>h2 rfl⟩
 | false=>
   have h1:=h1 rfl
   cases hq:nxt b a lo hi with
   | none=>
     have:=hn rfl hq
     subst this
     rw [hq] at h1
     exact⟨fun e=>(by cases e),fun _=>h1⟩
   | some q=>
     obtain⟨y,q⟩:=q
     obtain⟨rfl,rfl,rfl⟩:=hs rfl y q hq
     rw [hq] at h1
     exact⟨fun _=>h1,fun e=>(by cases e)⟩
/-- The end of reading: is it an operation? -/
def finP (o:Rd):Option Rd:=if mayO o.1 o.2.1 o.2.2.1 o.2.2.2.1 o.2.2.2.2.1 then some o else none
theorem getP_start (b:List UInt8):getP b=(nxt b 0 1 4).bind fun k=>(nxt b k.2 1 64).bind fun m=>(rdRuns b m.1.toNat m.2 0).bind fun q=>(rdTail b k.1 q.1 q.2.1 q.2.2).bind finP:=rfl
/-- What is known before a run is read. -/
theorem run_start {b:List UInt8} {m a:Nat} {was:Int} {k:Int} {p:List Rn}:
 ((rdRuns b (m+1) a was).bind fun q=>(rdTail b k (p++q.1) q.2.1 q.2.2).bind finP)=
   (nxt b a 1 1073741824).bind fun d=>(nxt b d.2 0 7).bind fun r=>(nxt b r.2 1 4096).bind fun mm=>
     if 1073741824 < was+d.1+mm.1 - 1 then none else (rdRuns b m mm.2 (was+d.1+mm.1 - 1)).bind fun q=>(rdTail b k ((p++ [(was+d.1,r.1,mm.1)])++q.1) q.2.1 q.2.2).bind finP:=by
 simp only [rdRuns,Option.bind_assoc]
 congr 1
 funext d
 congr 1
 funext r
 congr 1
 funext mm
 split
 ·rfl
 ·rw [Option.bind_map]
  congr 1
  funext q
  simp
/-- An answer, as its parts. -/
def outP:Option Rd→Int×Int×Int×List Rn×Int×Nat×Int
 | some (k,t,r,p,z,n)=>(k,t,r,p,z,n,0)
 | none=>(0,0,0, [],0,0,8)
theorem own_only {w w':World} {base g n c at' size k:Nat} {A:Option Addr} {bad:Bool} {v:Value} {L:List Value} (h:w.ownsRow base 120 size v k L) (hR:RDR w g A n c at' bad) (ho:OnlyAt g w w'):w'.ownsRow base 120 size v k L:=by
 refine⟨h.1,?_⟩
 rcases h.2 with h0 | ⟨q,cap,cur,h1,h2,h3,h4⟩
 ·exact .inl h0
 ·have hne:q≠g:=by
   intro e
   unfold RDR at hR
   rw [←e,h3] at hR
   simp at hR
  exact .inr ⟨q,cap,cur,h1,h2,(ho.2 q hne (Array.getElem?_eq_some_iff.1 h3).1).trans h3,h4⟩
theorem RDR.kept {w w':World} {g n c at':Nat} {A:Option Addr} {bad:Bool} (h:RDR w g A n c at' bad) (hk:∀ (b:Nat) (o:Obj),w.heap[b]?=some o→(∀ cur,o≠ .cells cur 120 (0,0))→w'.heap[b]?=some o):RDR w' g A n c at' bad:=hk g _ h (fun cur e=>by simp at e)
theorem FB.keptR {w w':World} {g:Nat} {k t r s z:Value} (h:FB w g k t r s z) (hk:∀ (b:Nat) (o:Obj),w.heap[b]?=some o→(∀ cur,o≠ .cells cur 120 (0,0))→w'.heap[b]?=some o):FB w' g k t r s z:=hk g _ h (fun cur e=>by simp at e)
theorem FB.set0 {w:World} {g:Nat} {k t r s z:Value} (h:FB w g k t r s z) (v:Value):FB (w.setCell ⟨g,0,none⟩ v) g v t r s z:=heap_setCell_same _ _ _ _ _ _ h
theorem FB.set12 {w:World} {g:Nat} {k t r s z:Value} (h:FB w g k t r s z) (u v:Value):FB ((w.setCell ⟨g,1,none⟩ u).setCell ⟨g,2,none⟩ v) g k u v s z:=heap_setCell_same _ _ _ _ _ _ (heap_setCell_same _ _ _ _ _ _ h)
theorem RDR.other {w:World} {g n c at':Nat} {A:Option Addr} {bad:Bool} (h:RDR w g A n c at' bad) {g':Nat} (hne:g≠g') (off:Nat) (v:Value):RDR (w.setCell ⟨g',off,none⟩ v) g A n c at' bad:=(heap_setCell_other _ _ _ _ hne).trans h
theorem own_set {w:World} {base g size n:Nat} {v:Value} {L:List Value} {k t r s z:Value} (h:w.ownsRow base 120 size v n L) (hF:FB w g k t r s z) (off:Nat) (u:Value):(w.setCell ⟨g,off,none⟩ u).ownsRow base 120 size v n L:=by
 refine⟨h.1,?_⟩
 rcases h.2 with h0 | ⟨q,cap,cur,h1,h2,h3,h4⟩
 ·exact .inl h0
 ·have hne:q≠g:=by
   intro e
   unfold FB at hF
   rw [←e,h3] at hF
   simp at hF
  exact .inr ⟨q,cap,cur,h1,h2,(heap_setCell_other _ _ _ _ hne).trans h3,h4⟩
theorem own_put5 {w:World} {base g size n:Nat} {v:Value} {L:List Value} {k t r s z k' t' r' s' z':Value} (h:w.ownsRow base 120 size v n L) (hF:FB w g k t r s z):(put5 w g k' t' r' s' z').ownsRow base 120 size v n L:=by
 refine⟨h.1,?_⟩
 rcases h.2 with h0 | ⟨q,cap,cur,h1,h2,h3,h4⟩
 ·exact .inl h0
 ·have hne:q≠g:=by
   intro e
   unfold FB at hF
   rw [←e,h3] at hF
   simp at hF
  exact .inr ⟨q,cap,cur,h1,h2,(put5_other hne).trans h3,h4⟩
theorem own_set2 {w:World} {base g size n:Nat} {v:Value} {L:List Value} {k t r s z:Value} (h:w.ownsRow base 120 size v n L) (hF:FB w g k t r s z) (x y:Value):((w.setCell ⟨g,1,none⟩ x).setCell ⟨g,2,none⟩ y).ownsRow base 120 size v n L:=by
 have h1:FB (w.setCell ⟨g,1,none⟩ x) g k x r s z:=heap_setCell_same _ _ _ _ _ _ hF
 exact own_set (own_set h hF 1 x) h1 2 y
theorem run_append_held {P:Program} (w:World) (base:Nat) (t ty e:TypeId) (i:TypeInfo) (z:Value) (size bytes:Nat) (ht:P.underlying t=some (.slice e)) (hi:P.info? e=some i) (hz:i.zero=some z)
 (hsize:i.size=size) (hby:i.bytes=bytes) (hzs:z.cells.size=size) (hsz:0 < size)
 (v:Value) (n:Nat) (xs:List Value) (hown:w.ownsRow base e size v n xs)
 (B:Nat) (A:Option Addr) (m c:Nat) (news:List Value) (hr:RD w B size A m news) (h1:∀ u∈news,u.oneCell'=true)
 (h63:n+m≤1073741824) (hbytes:bytes≤65536) (hbase:base≤w.heap.size):
 ∃ v' w',(Builtin.append_ #[t,t] ty #[v,.slice A m c]).run P w= .ok v' w'∧w'.ownsRow base e size v' (n+m) (xs++news)∧Below base w w'∧(∀ (b:Nat) (o':Obj),w.heap[b]?=some o'→(∀ cur,o'≠ .cells cur e (0,0))→w'.heap[b]?=some o'):=by
 have hb':(n+m) * bytes≤140737488355328:=by
  have:(n+m) * bytes≤(n+m) * 65536:=Nat.mul_le_mul_left _ hbytes
  omega
 obtain⟨v',w',hrun,h2,h3⟩:=run_append_src (P:=P) w base t ty e i z size bytes ht hi hz hsize hby hzs hsz v n xs hown B A m c news hr h1 (by unfold maxLen;omega) hb' hbase
 refine⟨v',w',hrun,h2,grown_below hown h3 hbase,?_⟩
 intro b o' hb hne
 obtain⟨-,-,-,-,hk⟩:=h3
 rw [hk b (Array.getElem?_eq_some_iff.1 hb).1 ?_]
 ·exact hb
 ·rcases hown.2 with⟨rfl,_⟩ | ⟨g,cap,cur,rfl,_,hg,_⟩
  ·intro e1;cases e1
  ·intro e1
   simp only [Value.ownBlock,Option.some.injEq] at e1
   subst e1
   rw [hg] at hb
   exact hne cur (Option.some.inj hb).symm
theorem upd_ne {done:Nat→Bool} {i j:Nat} (h:j≠i):upd done i j=done j:=by simp [upd,h]
theorem upd_eq {done:Nat→Bool} {i:Nat}:upd done i i=true:=by simp [upd]
theorem upd_true {done:Nat→Bool} {i j:Nat} (h:done j=true):upd done i j=true:=by simp [upd,h]
theorem upd_false {done:Nat→Bool} {i j:Nat} (h:upd done i j=false):done j=false:=by
 cases hx:done j
 ·rfl
 ·rw [upd_true hx] at h;cases h
theorem put_ne {ρ:Nat→Value} {d s:Nat} {v:Value} (h:s≠d):putS ρ (some d) v s=ρ s:=by simp [putS,h]
theorem put_eq {ρ:Nat→Value} {d:Nat} {v:Value}:putS ρ (some d) v d=v:=by simp [putS]
/-- An operation whose value is no fixed one. -/
theorem LI.skip {L:List (Option (Nat×Value))} {Wp:World→Prop} {done:Nat→Bool} {ρ:Nat→Value} {w w':World} (h:LI L Wp done ρ w) (S:List (Option Nat)) (hS:L.map (Option.map Prod.fst)=S) (i d:Nat) (v:Value) (hi:(L[i]?).join=none) (hB:(S.all fun o=>decide (o≠some d))=true) (hw:Wp w'):
 LI L Wp (upd done i) (putS ρ (some d) v) w':=by
 refine⟨hw,fun j s u hj hd=>?_⟩
 have hij:j≠i:=fun e=>by rw [e,hi] at hj;cases hj
 have hne:s≠d:=by
  intro e
  subst e
  have hm:some s∈S:=by
   rw [←hS]
   obtain⟨o,ho,he⟩:∃ o,L[j]?=some o∧o=some (s,u):=by
    cases hx:L[j]? with
    | none=>rw [hx] at hj;cases hj
    | some o=>rw [hx] at hj;exact⟨o,rfl,by simpa [Option.join] using hj⟩
   exact List.mem_map.2 ⟨o,List.mem_of_getElem? ho,by rw [he];rfl⟩
  have:=List.all_eq_true.1 hB _ hm
  simp at this
 rw [put_ne hne]
 refine h.2 j s u hj ?_
 rwa [upd_ne hij] at hd
theorem OO.only {w w':World} {base g n c a c':Nat} {A A':Option Addr} {bad:Bool} {L:List OpL} (h:OO w base A' c' L) (hR:RDR w g A n c a bad) (ho:OnlyAt g w w'):OO w' base A' c' L:=by
 refine⟨⟨h.1.1,?_⟩,fun x hx=>own_only (h.2 x hx) hR ho⟩
 rcases h.1.2 with h0 | ⟨q,cap,cur,h1,h2,h3,h4⟩
 ·exact .inl h0
 ·have hne:q≠g:=by
   intro e
   unfold RDR at hR
   rw [←e,h3] at hR
   simp at hR
  exact .inr ⟨q,cap,cur,h1,h2,(ho.2 q hne (Array.getElem?_eq_some_iff.1 h3).1).trans h3,h4⟩
/-- The region's fixed values. -/
def stepV (gr a s:Nat) (V:Value) (y:OpL):List (Option (Nat×Value)):=
 [some (30,.pointer (some ⟨gr,0,none⟩)),some (31,V),some (32,opv y.k y.t y.r y.A y.p.length y.c y.z),none,none,some (35,.pointer (some ⟨gr,0,none⟩)),some (36,.pointer (some ⟨gr,0,none⟩)),some (37,.pointer (some ⟨gr,1,none⟩)),some (38,.int .i64 (a:Int)),some (39,.int .i64 (s:Int)),some (40,.int .i64 ((a:Int)+(s:Int))),none,some (41,.pointer (some ⟨gr,0,none⟩)),some (42,.pointer (some ⟨gr,1,none⟩)),none]
def stepS:List (Option Nat):= [some 30,some 31,some 32,none,none,some 35,some 36,some 37,some 38,some 39,some 40,none,some 41,some 42,none]
/-- What else holds in the middle of the region. -/
structure RJ (w0:World) (gb gr:Nat) (A:Option Addr) (n c a s:Nat) (A':Option Addr) (m c':Nat) (L:List OpL) (y:OpL) (done:Nat→Bool) (ρ:Nat→Value) (w:World):Prop where
 b:Below w0.heap.size w0 w
 e2:done 11=false→ρ 2= .slice A' m c'
 f2:done 2=false→FB w gb (.int .u8 y.k) (.int .u32 y.t) (.int .u8 y.r) (.slice y.A y.p.length y.c) (.int .i64 y.z)
 m3:done 3=true→done 4=false→∃ g,ρ 33= .slice (some ⟨g,0,none⟩) 1 1∧w.heap[g]?=some (.cells #[.int .u8 y.k,.int .u32 y.t,.int .u8 y.r,.slice y.A y.p.length y.c,.int .i64 y.z] 104 (0,0))
 m4:done 4=false→OO w w0.heap.size A' c' L∧w.ownsRow w0.heap.size 120 3 (.slice y.A y.p.length y.c) y.p.length (rns y.p)
 n4:done 4=true→∃ A2 c2,ρ 34= .slice A2 (m+1) c2∧OO w w0.heap.size A2 c2 (L++ [y])∧(done 11=true→ρ 2= .slice A2 (m+1) c2)
 r1:done 14=false→RDR w gr A n c a false
 r2:done 14=true→RDR w gr A n c (a+s) false
 z3:done 3=true→done 2=true
 z4:done 4=true→done 3=true
 z41:done 4=true→done 1=true
 z11:done 11=true→done 4=true
 z10:done 10=true→done 8=true
 z14:done 14=true→done 8=true
section
variable {w0:World} {gb gr:Nat} {A:Option Addr} {n c a s:Nat} {A':Option Addr} {m c':Nat} {L:List OpL} {y:OpL} {done:Nat→Bool} {ρ:Nat→Value} {w:World}
theorem RJ.plain (h:RJ w0 gb gr A n c a s A' m c' L y done ρ w) (i d:Nat) (v:Value) (h3:3≠i) (h4:4≠i) (h11:11≠i) (h14:14≠i) (d2:2≠d) (d33:33≠d) (d34:34≠d) (z:i=10→done 8=true):RJ w0 gb gr A n c a s A' m c' L y (upd done i) (putS ρ (some d) v) w:=
 { b:=h.b
   e2:=fun k=>by rw [upd_ne h11] at k;rw [put_ne d2];exact h.e2 k
   f2:=fun k=>h.f2 (upd_false k)
   m3:=fun k l=>by rw [upd_ne h3] at k;rw [upd_ne h4] at l;rw [put_ne d33];exact h.m3 k l
   m4:=fun k=>by rw [upd_ne h4] at k;exact h.m4 k
   n4:=fun k=>by
    rw [upd_ne h4] at k
    obtain⟨A2,c2,k1,k2,k3⟩:=h.n4 k
    exact⟨A2,c2,by rw [put_ne d34];exact k1,k2,fun l=>by rw [upd_ne h11] at l;rw [put_ne d2];exact k3 l⟩
   r1:=fun k=>by rw [upd_ne h14] at k;exact h.r1 k
   r2:=fun k=>by rw [upd_ne h14] at k;exact h.r2 k
   z3:=fun k=>by rw [upd_ne h3] at k;exact upd_true (h.z3 k)
   z4:=fun k=>by rw [upd_ne h4] at k;exact upd_true (h.z4 k)
   z41:=fun k=>by rw [upd_ne h4] at k;exact upd_true (h.z41 k)
   z11:=fun k=>by rw [upd_ne h11] at k;exact upd_true (h.z11 k)
   z10:=fun k=>by
    by_cases e:10=i
    ·exact upd_true (z e.symm)
    ·rw [upd_ne e] at k;exact upd_true (h.z10 k)
   z14:=fun k=>by rw [upd_ne h14] at k;exact upd_true (h.z14 k) }
theorem RJ.row (h:RJ w0 gb gr A n c a s A' m c' L y done ρ w) (hn:done 3=false) (h2:done 2=true):
 RJ w0 gb gr A n c a s A' m c' L y (upd done 3) (putS ρ (some 33) (.slice (some ⟨w.heap.size,0,none⟩) 1 1)) (w.alloc (.cells #[.int .u8 y.k,.int .u32 y.t,.int .u8 y.r,.slice y.A y.p.length y.c,.int .i64 y.z] 104)):=by
 have n4:done 4=false:=by
  cases hx:done 4 with
  | false=>rfl
  | true=>rw [h.z4 hx] at hn;cases hn
 have n11:done 11=false:=by
  cases hx:done 11 with
  | false=>rfl
  | true=>rw [h.z11 hx] at n4;cases n4
 have hb:=boxed w (.cells #[.int .u8 y.k,.int .u32 y.t,.int .u8 y.r,.slice y.A y.p.length y.c,.int .i64 y.z] 104)
 exact
 { b:=fresh h.b hb
   e2:=fun _=>by rw [put_ne (by decide)];exact h.e2 n11
   f2:=fun k=>by have:=upd_false k;rw [h2] at this;cases this
   m3:=fun _ _=>⟨w.heap.size,put_eq,heap_alloc_new _ _⟩
   m4:=fun _=>⟨(h.m4 n4).1.below hb,own_below (h.m4 n4).2 hb (Nat.le_refl _)⟩
   n4:=fun k=>by rw [upd_ne (by decide),n4] at k;cases k
   r1:=fun k=>(h.r1 (upd_false k)).below hb
   r2:=fun k=>by rw [upd_ne (by decide)] at k;exact (h.r2 k).below hb
   z3:=fun _=>upd_true h2
   z4:=fun k=>by rw [upd_ne (by decide),n4] at k;cases k
   z41:=fun k=>by rw [upd_ne (by decide),n4] at k;cases k
   z11:=fun k=>by rw [upd_ne (by decide),n11] at k;cases k
   z10:=fun k=>by rw [upd_ne (by decide)] at k;exact upd_true (h.z10 k)
   z14:=fun k=>by rw [upd_ne (by decide)] at k;exact upd_true (h.z14 k) }
theorem RJ.app (h:RJ w0 gb gr A n c a s A' m c' L y done ρ w) (hn:done 4=false) (h3:done 3=true) (h1:done 1=true) {w':World} {A2:Option Addr} {c2:Nat} (hOO:OO w' w0.heap.size A2 c2 (L++ [y])) (hb:Below w0.heap.size w w') (hk:∀ (b:Nat) (o':Obj),w.heap[b]?=some o'→(∀ cur,o'≠ .cells cur 104 (0,0))→w'.heap[b]?=some o'):
 RJ w0 gb gr A n c a s A' m c' L y (upd done 4) (putS ρ (some 34) (.slice A2 (m+1) c2)) w':=by
 have n11:done 11=false:=by
  cases hx:done 11 with
  | false=>rfl
  | true=>rw [h.z11 hx] at hn;cases hn
 have hR:∀ {a':Nat},RDR w gr A n c a' false→RDR w' gr A n c a' false:=fun hr=>hk gr _ hr (fun cur e=>by simp at e)
 exact
 { b:=h.b.trans hb
   e2:=fun _=>by rw [put_ne (by decide)];exact h.e2 n11
   f2:=fun k=>by have:=upd_false k;rw [h.z3 h3] at this;cases this
   m3:=fun _ k=>by rw [upd_eq] at k;cases k
   m4:=fun k=>by rw [upd_eq] at k;cases k
   n4:=fun _=>⟨A2,c2,put_eq,hOO,fun k=>by rw [upd_ne (by decide),n11] at k;cases k⟩
   r1:=fun k=>hR (h.r1 (upd_false k))
   r2:=fun k=>by rw [upd_ne (by decide)] at k;exact hR (h.r2 k)
   z3:=fun k=>by rw [upd_ne (by decide)] at k;exact upd_true (h.z3 k)
   z4:=fun _=>upd_true h3
   z41:=fun _=>upd_true h1
   z11:=fun k=>by rw [upd_ne (by decide),n11] at k;cases k
   z10:=fun k=>by rw [upd_ne (by decide)] at k;exact upd_true (h.z10 k)
   z14:=fun k=>by rw [upd_ne (by decide)] at k;exact upd_true (h.z14 k) }
theorem RJ.asg (h:RJ w0 gb gr A n c a s A' m c' L y done ρ w) (h4:done 4=true) {v:Value} (hv:v=ρ 34):
 RJ w0 gb gr A n c a s A' m c' L y (upd done 11) (putS ρ (some 2) v) w:=
 { b:=h.b
   e2:=fun k=>by rw [upd_eq] at k;cases k
   f2:=fun k=>h.f2 (upd_false k)
   m3:=fun _ k=>by rw [upd_ne (by decide),h4] at k;cases k
   m4:=fun k=>by rw [upd_ne (by decide),h4] at k;cases k
   n4:=fun _=>by
    obtain⟨A2,c2,k1,k2,-⟩:=h.n4 h4
    exact⟨A2,c2,by rw [put_ne (by decide)];exact k1,k2,fun _=>by rw [put_eq,hv];exact k1⟩
   r1:=fun k=>h.r1 (upd_false k)
   r2:=fun k=>by rw [upd_ne (by decide)] at k;exact h.r2 k
   z3:=fun k=>by rw [upd_ne (by decide)] at k;exact upd_true (h.z3 k)
   z4:=fun k=>by rw [upd_ne (by decide)] at k;exact upd_true (h.z4 k)
   z41:=fun k=>by rw [upd_ne (by decide)] at k;exact upd_true (h.z41 k)
   z11:=fun _=>upd_true h4
   z10:=fun k=>by rw [upd_ne (by decide)] at k;exact upd_true (h.z10 k)
   z14:=fun k=>by rw [upd_ne (by decide)] at k;exact upd_true (h.z14 k) }
theorem RJ.store (h:RJ w0 gb gr A n c a s A' m c' L y done ρ w) (hn:done 14=false) (h10:done 10=true) (hgr:w0.heap.size≤gr) (hne:gb≠gr) (v:Value):
 RJ w0 gb gr A n c a s A' m c' L y (upd done 14) (putS ρ none v) (w.setCell ⟨gr,1,none⟩ (.int .i64 ((a:Int)+(s:Int)))):=by
 have hR:=h.r1 hn
 have ho:=OnlyAt.set gr 1 w (.int .i64 ((a:Int)+(s:Int)))
 have hR2:RDR (w.setCell ⟨gr,1,none⟩ (.int .i64 ((a:Int)+(s:Int)))) gr A n c (a+s) false:=by
  have:=hR.set1 (a+s)
  rwa [show ((a+s:Nat):Int)=(a:Int)+(s:Int) by omega] at this
 exact
 { b:=h.b.setCell hgr _
   e2:=fun k=>by rw [upd_ne (by decide)] at k;exact h.e2 k
   f2:=fun k=>(h.f2 (upd_false k)).only ho hne
   m3:=fun k l=>by
    rw [upd_ne (by decide)] at k l
    obtain⟨g,k1,k2⟩:=h.m3 k l
    refine⟨g,k1,?_⟩
    have hgg:g≠gr:=by
     intro e
     unfold RDR at hR
     rw [←e,k2] at hR
     simp at hR
    exact (heap_setCell_other _ _ _ _ hgg).trans k2
   m4:=fun k=>by
    rw [upd_ne (by decide)] at k
    exact⟨(h.m4 k).1.only hR ho,own_only (h.m4 k).2 hR ho⟩
   n4:=fun k=>by
    rw [upd_ne (by decide)] at k
    obtain⟨A2,c2,k1,k2,k3⟩:=h.n4 k
    exact⟨A2,c2,k1,k2.only hR ho,fun l=>by rw [upd_ne (by decide)] at l;exact k3 l⟩
   r1:=fun k=>by rw [upd_eq] at k;cases k
   r2:=fun _=>hR2
   z3:=fun k=>by rw [upd_ne (by decide)] at k;exact upd_true (h.z3 k)
   z4:=fun k=>by rw [upd_ne (by decide)] at k;exact upd_true (h.z4 k)
   z41:=fun k=>by rw [upd_ne (by decide)] at k;exact upd_true (h.z41 k)
   z11:=fun k=>by rw [upd_ne (by decide)] at k;exact upd_true (h.z11 k)
   z10:=fun k=>by rw [upd_ne (by decide)] at k;exact upd_true (h.z10 k)
   z14:=fun _=>upd_true (h.z10 h10) }
end
/-- append at the step. -/
theorem step_append {o:Oper} {ρ:Nat→Value} {w w0:World} {R:Clm} (s x:Operand) (ho:o.op= .call { callee:= .builtin .append,args:=#[s,x],argTypes:=#[48,48] })
 {A':Option Addr} {m c':Nat} {L:List OpL} {y:OpL} {g:Nat} (hs:evalOf ρ s= .slice A' m c') (hx:evalOf ρ x= .slice (some ⟨g,0,none⟩) 1 1) (hm:L.length=m) (hOO:OO w w0.heap.size A' c' L) (hy:w.ownsRow w0.heap.size 120 3 (.slice y.A y.p.length y.c) y.p.length (rns y.p))
 (hg:w.heap[g]?=some (.cells #[.int .u8 y.k,.int .u32 y.t,.int .u8 y.r,.slice y.A y.p.length y.c,.int .i64 y.z] 104 (0,0))) (h63:m+1≤1073741824) (hb:w0.heap.size≤w.heap.size)
 (h:∀ A2 c2 w',OO w' w0.heap.size A2 c2 (L++ [y])→Below w0.heap.size w w'→(∀ (b:Nat) (o':Obj),w.heap[b]?=some o'→(∀ cur,o'≠ .cells cur 104 (0,0))→w'.heap[b]?=some o')→R (.slice A2 (m+1) c2) w'):opOK Tryz.prog o ρ w R:=by
 subst hm
 obtain⟨i0,hi0,hz0,hz1,hz2⟩:=info_parts opinfo
 have hr:RD w w.heap.size 5 (some ⟨g,0,none⟩) 1 y.cells:=by
  refine⟨rfl,fun _=>⟨g,0,rfl,(Array.getElem?_eq_some_iff.1 hg).1,fun j u hu=>?_⟩⟩
  rw [Nat.zero_add,cell_of_row _ _ _ _ _ _ hg,←Array.getElem?_toList]
  exact hu
 obtain⟨v',w',hrun,h1,h2,h3⟩:=run_append_held (P:=Tryz.prog) w w0.heap.size 48 o.type 104 i0 (.agg #[.int .u8 0,.int .u32 0,.int .u8 0,.slice none 0 0,.int .i64 0]) 5 48 Tryz.underlying48 hi0 hz0 hz1 hz2 rfl (by decide) _ L.length (opcs L) hOO.1 w.heap.size (some ⟨g,0,none⟩) 1 1 y.cells hr (cells_one y) h63 (by decide) hb
 obtain⟨A2,c2,rfl,-,-,-⟩:=own_slice h1
 refine opOK_append s x _ ho _ _ hs hx _ w' hrun (h A2 c2 w' ⟨?_,fun q hq=>?_⟩ h2 h3)
 ·rw [opcs_append,opcs_one,List.length_append,List.length_singleton]
  exact h1
 ·rcases List.mem_append.1 hq with hq | hq
  ·exact own_kept (hOO.2 q hq) (by decide) h3
  ·simp only [List.mem_singleton] at hq
   subst hq
   exact own_kept hy (by decide) h3
/-- What stands in the middle of such a region: before and behind the call, the row, the append, the store. -/
structure AJ (kl ke kc kr ka ks sc sr sa:Nat) (T E0 E1 O0 B0:World→Prop) (X:Value→World→Prop) (R:Value→Nat→World→Prop) (O1 B1:Value→World→Prop) (done:Nat→Bool) (ρ:Nat→Value) (W:World):Prop where
 t:T W
 e0:done kc=false→E0 W
 e1:done kc=true→E1 W
 o0:done ka=false→O0 W
 x1:done kc=true→done ka=false→X (ρ sc) W∧(done kr=true→∃ q,ρ sr= .slice (some ⟨q,0,none⟩) 1 1∧R (ρ sc) q W)
 a1:done ka=true→O1 (ρ sa) W
 b0:done ks=false→B0 W
 b1:done ks=true→B1 (ρ sa) W
 zr:done kr=true→done kc=true
 za:done ka=true→done kr=true
 zs:done ks=true→done ka=true
 zl:done ka=true→done kl=true
 ze:done ke=true→done kc=true
section
variable {kl ke kc kr ka ks sc sr sa:Nat} {T E0 E1 O0 B0:World→Prop} {X:Value→World→Prop} {R:Value→Nat→World→Prop} {O1 B1:Value→World→Prop} {done:Nat→Bool} {ρ:Nat→Value} {W:World}
theorem AJ.start (ρ:Nat→Value) (t:T W) (e:E0 W) (o:O0 W) (b:B0 W):AJ kl ke kc kr ka ks sc sr sa T E0 E1 O0 B0 X R O1 B1 (fun _=>false) ρ W:=
 ⟨t,fun _=>e,fun h=>(by cases h),fun _=>o,fun h=>(by cases h),fun h=>(by cases h),fun _=>b,fun h=>(by cases h),fun h=>(by cases h),fun h=>(by cases h),fun h=>(by cases h),fun h=>(by cases h),fun h=>(by cases h)⟩
theorem AJ.plain (h:AJ kl ke kc kr ka ks sc sr sa T E0 E1 O0 B0 X R O1 B1 done ρ W) (i d:Nat) (v:Value) (h1:kc≠i) (h2:kr≠i) (h3:ka≠i) (h4:ks≠i) (d1:sc≠d) (d2:sr≠d) (d3:sa≠d) (z:ke=i→done kc=true):
 AJ kl ke kc kr ka ks sc sr sa T E0 E1 O0 B0 X R O1 B1 (upd done i) (putS ρ (some d) v) W:=
 { t:=h.t
   e0:=fun k=>by rw [upd_ne h1] at k;exact h.e0 k
   e1:=fun k=>by rw [upd_ne h1] at k;exact h.e1 k
   o0:=fun k=>by rw [upd_ne h3] at k;exact h.o0 k
   x1:=fun k l=>by
    rw [upd_ne h1] at k
    rw [upd_ne h3] at l
    rw [upd_ne h2,put_ne d1,put_ne d2]
    exact h.x1 k l
   a1:=fun k=>by rw [upd_ne h3] at k;rw [put_ne d3];exact h.a1 k
   b0:=fun k=>by rw [upd_ne h4] at k;exact h.b0 k
   b1:=fun k=>by rw [upd_ne h4] at k;rw [put_ne d3];exact h.b1 k
   zr:=fun k=>by rw [upd_ne h2] at k;rw [upd_ne h1];exact h.zr k
   za:=fun k=>by rw [upd_ne h3] at k;rw [upd_ne h2];exact h.za k
   zs:=fun k=>by rw [upd_ne h4] at k;rw [upd_ne h3];exact h.zs k
   zl:=fun k=>by rw [upd_ne h3] at k;exact upd_true (h.zl k)
   ze:=fun k=>by
    by_cases e:ke=i
    ·exact upd_true (z e)
    ·rw [upd_ne e] at k;exact upd_true (h.ze k) }
theorem AJ.nor (h:AJ kl ke kc kr ka ks sc sr sa T E0 E1 O0 B0 X R O1 B1 done ρ W) (hc:done kc=false):done kr=false:=by
 cases hx:done kr with
 | false=>rfl
 | true=>rw [h.zr hx] at hc;cases hc
theorem AJ.noa (h:AJ kl ke kc kr ka ks sc sr sa T E0 E1 O0 B0 X R O1 B1 done ρ W) (hc:done kr=false):done ka=false:=by
 cases hx:done ka with
 | false=>rfl
 | true=>rw [h.za hx] at hc;cases hc
theorem AJ.nos (h:AJ kl ke kc kr ka ks sc sr sa T E0 E1 O0 B0 X R O1 B1 done ρ W) (hc:done ka=false):done ks=false:=by
 cases hx:done ks with
 | false=>rfl
 | true=>rw [h.zs hx] at hc;cases hc
theorem AJ.call (h:AJ kl ke kc kr ka ks sc sr sa T E0 E1 O0 B0 X R O1 B1 done ρ W) (hn:done kc=false) (hd:kc≠kr∧kc≠ka∧kc≠ks) {v:Value} {W':World} (t:T W') (e:E1 W') (o:O0 W') (b:B0 W') (x:X v W'):
 AJ kl ke kc kr ka ks sc sr sa T E0 E1 O0 B0 X R O1 B1 (upd done kc) (putS ρ (some sc) v) W':=by
 have nr:=h.nor hn
 have na:=h.noa nr
 have ns:=h.nos na
 exact
 { t:=t
   e0:=fun k=>by rw [upd_eq] at k;cases k
   e1:=fun _=>e
   o0:=fun _=>o
   x1:=fun _ _=>by
    rw [put_eq]
    exact⟨x,fun k=>by rw [upd_ne hd.1.symm,nr] at k;cases k⟩
   a1:=fun k=>by rw [upd_ne hd.2.1.symm,na] at k;cases k
   b0:=fun _=>b
   b1:=fun k=>by rw [upd_ne hd.2.2.symm,ns] at k;cases k
   zr:=fun _=>upd_eq
   za:=fun k=>by rw [upd_ne hd.2.1.symm,na] at k;cases k
   zs:=fun k=>by rw [upd_ne hd.2.2.symm,ns] at k;cases k
   zl:=fun k=>by rw [upd_ne hd.2.1.symm,na] at k;cases k
   ze:=fun _=>upd_eq }
theorem AJ.row (h:AJ kl ke kc kr ka ks sc sr sa T E0 E1 O0 B0 X R O1 B1 done ρ W) (hn:done kr=false) (hc:done kc=true) (hd:kr≠kc∧kr≠ka∧kr≠ks∧sc≠sr) {q:Nat} {W':World} (t:T W') (e:E1 W') (o:O0 W') (b:B0 W') (x:X (ρ sc) W') (r:R (ρ sc) q W'):
 AJ kl ke kc kr ka ks sc sr sa T E0 E1 O0 B0 X R O1 B1 (upd done kr) (putS ρ (some sr) (.slice (some ⟨q,0,none⟩) 1 1)) W':=by
 have na:=h.noa hn
 have ns:=h.nos na
 exact
 { t:=t
   e0:=fun k=>by rw [upd_ne hd.1.symm,hc] at k;cases k
   e1:=fun _=>e
   o0:=fun _=>o
   x1:=fun _ _=>by
    rw [put_ne hd.2.2.2]
    exact⟨x,fun _=>⟨q,put_eq,r⟩⟩
   a1:=fun k=>by rw [upd_ne hd.2.1.symm,na] at k;cases k
   b0:=fun _=>b
   b1:=fun k=>by rw [upd_ne hd.2.2.1.symm,ns] at k;cases k
   zr:=fun _=>upd_true hc
   za:=fun _=>upd_eq
   zs:=fun k=>by rw [upd_ne hd.2.2.1.symm,ns] at k;cases k
   zl:=fun k=>by rw [upd_ne hd.2.1.symm,na] at k;cases k
   ze:=fun _=>upd_true hc }
theorem AJ.app (h:AJ kl ke kc kr ka ks sc sr sa T E0 E1 O0 B0 X R O1 B1 done ρ W) (hn:done ka=false) (hr:done kr=true) (hl:done kl=true) (hd:ka≠kc∧ka≠kr∧ka≠ks) {v:Value} {W':World} (t:T W') (e:E1 W') (o:O1 v W') (b:B0 W'):
 AJ kl ke kc kr ka ks sc sr sa T E0 E1 O0 B0 X R O1 B1 (upd done ka) (putS ρ (some sa) v) W':=by
 have ns:=h.nos hn
 exact
 { t:=t
   e0:=fun k=>by rw [upd_ne hd.1.symm,h.zr hr] at k;cases k
   e1:=fun _=>e
   o0:=fun k=>by rw [upd_eq] at k;cases k
   x1:=fun _ k=>by rw [upd_eq] at k;cases k
   a1:=fun _=>by rw [put_eq];exact o
   b0:=fun _=>b
   b1:=fun k=>by rw [upd_ne hd.2.2.symm,ns] at k;cases k
   zr:=fun _=>upd_true (h.zr hr)
   za:=fun _=>upd_true hr
   zs:=fun _=>upd_eq
   zl:=fun _=>upd_true hl
   ze:=fun _=>upd_true (h.zr hr) }
theorem AJ.store (h:AJ kl ke kc kr ka ks sc sr sa T E0 E1 O0 B0 X R O1 B1 done ρ W) (ha:done ka=true) (hd:ks≠kc∧ks≠kr∧ks≠ka) {v:Value} {W':World} (t:T W') (e:E1 W') (o:O1 (ρ sa) W') (b:B1 (ρ sa) W'):
 AJ kl ke kc kr ka ks sc sr sa T E0 E1 O0 B0 X R O1 B1 (upd done ks) (putS ρ none v) W':=
 { t:=t
   e0:=fun k=>by rw [upd_ne hd.1.symm,h.zr (h.za ha)] at k;cases k
   e1:=fun _=>e
   o0:=fun k=>by rw [upd_ne hd.2.2.symm,ha] at k;cases k
   x1:=fun _ k=>by rw [upd_ne hd.2.2.symm,ha] at k;cases k
   a1:=fun _=>o
   b0:=fun k=>by rw [upd_eq] at k;cases k
   b1:=fun _=>b
   zr:=fun _=>upd_true (h.zr (h.za ha))
   za:=fun _=>upd_true (h.za ha)
   zs:=fun _=>upd_true ha
   zl:=fun _=>upd_true (h.zl ha)
   ze:=fun _=>upd_true (h.zr (h.za ha)) }
end
end Go.Proofs.YtmkpfdcnikgokaaGreat
