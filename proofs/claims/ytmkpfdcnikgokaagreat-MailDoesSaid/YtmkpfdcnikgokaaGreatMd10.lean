/-
  Texts of this claim, put together: ListStep, AppStep. What each theorem asks stands in its statement.
-/
import Derived.Test.YtmkpfdcnikgokaaGreatMd7
import Derived.Test.YtmkpfdcnikgokaaGreatMd8
import Derived.Test.YtmkpfdcnikgokaaGreatMd9
set_option linter.unusedVariables false
set_option linter.unusedSimpArgs false
set_option maxRecDepth 100000
set_option maxHeartbeats 25600000
namespace Go.Proofs.YtmkpfdcnikgokaaGreat
open Go.RowKit
theorem Dg {P:Program} (w:World) (aa:Nat) (t ty e:TypeId) (i:TypeInfo) (z:Value) (size bytes:Nat) (ht:P.underlying t=some (.slice e)) (hi:P.info? e=some i) (hz:i.zero=some z)
 (jw:i.size=size) (ss:i.bytes=bytes) (CC:z.cells.size=size) (ay:0 < size)
 (v:Value) (n:Nat) (xs:List Value) (ah:w.ownsRow aa e size v n xs)
 (B:Nat) (A:Option Addr) (m c:Nat) (news:List Value) (hr:RD w B size A m news) (h1:∀ u∈news,u.oneCell'=true)
 (uk:n+m<=1073741824) (fm:bytes<=65536) (ao:aa<=w.heap.size):
 ∃ v' w',(Builtin.append_ #[t,t] ty #[v,.slice A m c]).run P w= .ok v' w'/\w'.ownsRow aa e size v' (n+m) (xs++news)/\Below aa w w'/\(∀ (b:Nat) (o':Obj),w.heap[b]?=some o'->(∀ bh,o'≠ .cells bh e (0,0))->w'.heap[b]?=some o'):=by
 have de:(n+m) * bytes<=140737488355328:=by
  have:(n+m) * bytes<=(n+m) * 65536:=Nat.mul_le_mul_left _ fm;omega
 obtain⟨v',w',je,h2,h3⟩:=Ej (P:=P) w aa t ty e i z size bytes ht hi hz jw ss CC ay v n xs ah B A m c news hr h1 (by unfold maxLen;omega) de ao;refine⟨v',w',je,h2,E8 ah h3 ao,?_⟩;intro b o' hb ak;obtain⟨-,-,-,-,hk⟩:=h3;rw [hk b (Array.getElem?_eq_some_iff.1 hb).1 ?_]
 ·exact hb
 ·rcases ah.2 with⟨rfl,_⟩ | ⟨g,cap,bh,rfl,_,hg,_⟩
  ·intro e1;cases e1
  ·intro e1;simp only [Value.ownBlock,Option.some.injEq] at e1;subst e1;rw [hg] at hb;exact ak bh (Option.some.inj hb).symm
theorem Aw {done:Nat->Bool} {i j:Nat} (h:j≠i):Bo done i j=done j:=by simp [Bo,h]
theorem Gv {done:Nat->Bool} {i:Nat}:Bo done i i=true:=by simp [Bo]
theorem Be {done:Nat->Bool} {i j:Nat} (h:done j=true):Bo done i j=true:=by simp [Bo,h]
theorem E6 {done:Nat->Bool} {i j:Nat} (h:Bo done i j=false):done j=false:=by
 cases hx:done j
 ·rfl
 ·rw [Be hx] at h;cases h
theorem Ft {ρ:Nat->Value} {d s:Nat} {v:Value} (h:s≠d):Bn ρ (some d) v s=ρ s:=by simp [Bn,h]
theorem M8 {ρ:Nat->Value} {d:Nat} {v:Value}:Bn ρ (some d) v d=v:=by simp [Bn]
theorem LI.skip {L:List (Option (Nat×Value))} {Wp:World->Prop} {done:Nat->Bool} {ρ:Nat->Value} {w w':World} (h:LI L Wp done ρ w) (S:List (Option Nat)) (hS:L.map (Option.map Prod.fst)=S) (i d:Nat) (v:Value) (hi:(L[i]?).join=none) (hB:(S.all fun o=>decide (o≠some d))=true) (hw:Wp w'):
 LI L Wp (Bo done i) (Bn ρ (some d) v) w':=by
 refine⟨hw,fun j s u hj hd=>?_⟩;have we:j≠i:=fun e=>by rw [e,hi] at hj;cases hj
 have ak:s≠d:=by
  intro e;subst e;have hm:some s∈S:=by
   rw [<-hS];obtain⟨o,ho,he⟩:∃ o,L[j]?=some o/\o=some (s,u):=by
    cases hx:L[j]? with
    | none=>rw [hx] at hj;cases hj
    | some o=>rw [hx] at hj;exact⟨o,rfl,by simpa [Option.join] using hj⟩
   exact List.mem_map.2 ⟨o,List.mem_of_getElem? ho,by rw [he];rfl⟩
  have:=List.all_eq_true.1 hB _ hm;simp at this
 rw [Ft ak];refine h.2 j s u hj ?_;rwa [Aw we] at hd
theorem OO.only {w w':World} {aa g n c a c':Nat} {A A':Option Addr} {bad:Bool} {L:List Bj} (h:OO w aa A' c' L) (hR:Fr w g A n c a bad) (ho:Ah g w w'):OO w' aa A' c' L:=by
 refine⟨⟨h.1.1,?_⟩,fun x hx=>Es (h.2 x hx) hR ho⟩;rcases h.1.2 with h0 | ⟨q,cap,bh,h1,h2,h3,h4⟩
 ·exact .inl h0
 ·have ak:q≠g:=by
   intro e;unfold Fr at hR;rw [<-e,h3] at hR;simp at hR
  exact .inr ⟨q,cap,bh,h1,h2,(ho.2 q ak (Array.getElem?_eq_some_iff.1 h3).1).trans h3,h4⟩
def Afr (gr a s:Nat) (V:Value) (y:Bj):List (Option (Nat×Value)):=
 [some (30,.pointer (some ⟨gr,0,none⟩)),some (31,V),some (32,Gq y.k y.t y.r y.A y.p.length y.c y.z),none,none,some (35,.pointer (some ⟨gr,0,none⟩)),some (36,.pointer (some ⟨gr,0,none⟩)),some (37,.pointer (some ⟨gr,1,none⟩)),some (38,.int .i64 (a:Int)),some (39,.int .i64 (s:Int)),some (40,.int .i64 ((a:Int)+(s:Int))),none,some (41,.pointer (some ⟨gr,0,none⟩)),some (42,.pointer (some ⟨gr,1,none⟩)),none]
def Il:List (Option Nat):= [some 30,some 31,some 32,none,none,some 35,some 36,some 37,some 38,some 39,some 40,none,some 41,some 42,none]
structure RJ (w0:World) (gb gr:Nat) (A:Option Addr) (n c a s:Nat) (A':Option Addr) (m c':Nat) (L:List Bj) (y:Bj) (done:Nat->Bool) (ρ:Nat->Value) (w:World):Prop where
 b:Below w0.heap.size w0 w
 e2:done 11=false->ρ 2= .slice A' m c'
 f2:done 2=false->FB w gb (.int .u8 y.k) (.int .u32 y.t) (.int .u8 y.r) (.slice y.A y.p.length y.c) (.int .i64 y.z)
 m3:done 3=true->done 4=false->∃ g,ρ 33= .slice (some ⟨g,0,none⟩) 1 1/\w.heap[g]?=some (.cells #[.int .u8 y.k,.int .u32 y.t,.int .u8 y.r,.slice y.A y.p.length y.c,.int .i64 y.z] 104 (0,0))
 m4:done 4=false->OO w w0.heap.size A' c' L/\w.ownsRow w0.heap.size 120 3 (.slice y.A y.p.length y.c) y.p.length (Ed y.p)
 n4:done 4=true->∃ A2 c2,ρ 34= .slice A2 (m+1) c2/\OO w w0.heap.size A2 c2 (L++ [y])/\(done 11=true->ρ 2= .slice A2 (m+1) c2)
 r1:done 14=false->Fr w gr A n c a false
 r2:done 14=true->Fr w gr A n c (a+s) false
 z3:done 3=true->done 2=true
 z4:done 4=true->done 3=true
 z41:done 4=true->done 1=true
 z11:done 11=true->done 4=true
 z10:done 10=true->done 8=true
 z14:done 14=true->done 8=true
section
variable {w0:World} {gb gr:Nat} {A:Option Addr} {n c a s:Nat} {A':Option Addr} {m c':Nat} {L:List Bj} {y:Bj} {done:Nat->Bool} {ρ:Nat->Value} {w:World}
theorem RJ.plain (h:RJ w0 gb gr A n c a s A' m c' L y done ρ w) (i d:Nat) (v:Value) (h3:3≠i) (h4:4≠i) (ky:11≠i) (jd:14≠i) (d2:2≠d) (d33:33≠d) (d34:34≠d) (z:i=10->done 8=true):RJ w0 gb gr A n c a s A' m c' L y (Bo done i) (Bn ρ (some d) v) w:=
 { b:=h.b
   e2:=fun k=>by rw [Aw ky] at k;rw [Ft d2];exact h.e2 k
   f2:=fun k=>h.f2 (E6 k)
   m3:=fun k l=>by rw [Aw h3] at k;rw [Aw h4] at l;rw [Ft d33];exact h.m3 k l
   m4:=fun k=>by rw [Aw h4] at k;exact h.m4 k
   n4:=fun k=>by
    rw [Aw h4] at k
    obtain⟨A2,c2,k1,k2,k3⟩:=h.n4 k
    exact⟨A2,c2,by rw [Ft d34];exact k1,k2,fun l=>by rw [Aw ky] at l;rw [Ft d2];exact k3 l⟩
   r1:=fun k=>by rw [Aw jd] at k;exact h.r1 k
   r2:=fun k=>by rw [Aw jd] at k;exact h.r2 k
   z3:=fun k=>by rw [Aw h3] at k;exact Be (h.z3 k)
   z4:=fun k=>by rw [Aw h4] at k;exact Be (h.z4 k)
   z41:=fun k=>by rw [Aw h4] at k;exact Be (h.z41 k)
   z11:=fun k=>by rw [Aw ky] at k;exact Be (h.z11 k)
   z10:=fun k=>by
    by_cases e:10=i
    ·exact Be (z e.symm)
    ·rw [Aw e] at k;exact Be (h.z10 k)
   z14:=fun k=>by rw [Aw jd] at k;exact Be (h.z14 k) }
theorem RJ.row (h:RJ w0 gb gr A n c a s A' m c' L y done ρ w) (hn:done 3=false) (h2:done 2=true):
 RJ w0 gb gr A n c a s A' m c' L y (Bo done 3) (Bn ρ (some 33) (.slice (some ⟨w.heap.size,0,none⟩) 1 1)) (w.alloc (.cells #[.int .u8 y.k,.int .u32 y.t,.int .u8 y.r,.slice y.A y.p.length y.c,.int .i64 y.z] 104)):=by
 have n4:done 4=false:=by
  cases hx:done 4 with
  | false=>rfl
  | true=>rw [h.z4 hx] at hn;cases hn
 have XS:done 11=false:=by
  cases hx:done 11 with
  | false=>rfl
  | true=>rw [h.z11 hx] at n4;cases n4
 have hb:=Bf w (.cells #[.int .u8 y.k,.int .u32 y.t,.int .u8 y.r,.slice y.A y.p.length y.c,.int .i64 y.z] 104);exact
 { b:=Ad h.b hb
   e2:=fun _=>by rw [Ft (by decide)];exact h.e2 XS
   f2:=fun k=>by have:=E6 k;rw [h2] at this;cases this
   m3:=fun _ _=>⟨w.heap.size,M8,heap_alloc_new _ _⟩
   m4:=fun _=>⟨(h.m4 n4).1.below hb,Ai (h.m4 n4).2 hb (Nat.le_refl _)⟩
   n4:=fun k=>by rw [Aw (by decide),n4] at k;cases k
   r1:=fun k=>(h.r1 (E6 k)).below hb
   r2:=fun k=>by rw [Aw (by decide)] at k;exact (h.r2 k).below hb
   z3:=fun _=>Be h2
   z4:=fun k=>by rw [Aw (by decide),n4] at k;cases k
   z41:=fun k=>by rw [Aw (by decide),n4] at k;cases k
   z11:=fun k=>by rw [Aw (by decide),XS] at k;cases k
   z10:=fun k=>by rw [Aw (by decide)] at k;exact Be (h.z10 k)
   z14:=fun k=>by rw [Aw (by decide)] at k;exact Be (h.z14 k) }
theorem RJ.app (h:RJ w0 gb gr A n c a s A' m c' L y done ρ w) (hn:done 4=false) (h3:done 3=true) (h1:done 1=true) {w':World} {A2:Option Addr} {c2:Nat} (NL:OO w' w0.heap.size A2 c2 (L++ [y])) (hb:Below w0.heap.size w w') (hk:∀ (b:Nat) (o':Obj),w.heap[b]?=some o'->(∀ bh,o'≠ .cells bh 104 (0,0))->w'.heap[b]?=some o'):
 RJ w0 gb gr A n c a s A' m c' L y (Bo done 4) (Bn ρ (some 34) (.slice A2 (m+1) c2)) w':=by
 have XS:done 11=false:=by
  cases hx:done 11 with
  | false=>rfl
  | true=>rw [h.z11 hx] at hn;cases hn
 have hR:∀ {a':Nat},Fr w gr A n c a' false->Fr w' gr A n c a' false:=fun hr=>hk gr _ hr (fun bh e=>by simp at e);exact
 { b:=h.b.trans hb
   e2:=fun _=>by rw [Ft (by decide)];exact h.e2 XS
   f2:=fun k=>by have:=E6 k;rw [h.z3 h3] at this;cases this
   m3:=fun _ k=>by rw [Gv] at k;cases k
   m4:=fun k=>by rw [Gv] at k;cases k
   n4:=fun _=>⟨A2,c2,M8,NL,fun k=>by rw [Aw (by decide),XS] at k;cases k⟩
   r1:=fun k=>hR (h.r1 (E6 k))
   r2:=fun k=>by rw [Aw (by decide)] at k;exact hR (h.r2 k)
   z3:=fun k=>by rw [Aw (by decide)] at k;exact Be (h.z3 k)
   z4:=fun _=>Be h3
   z41:=fun _=>Be h1
   z11:=fun k=>by rw [Aw (by decide),XS] at k;cases k
   z10:=fun k=>by rw [Aw (by decide)] at k;exact Be (h.z10 k)
   z14:=fun k=>by rw [Aw (by decide)] at k;exact Be (h.z14 k) }
theorem RJ.asg (h:RJ w0 gb gr A n c a s A' m c' L y done ρ w) (h4:done 4=true) {v:Value} (hv:v=ρ 34):
 RJ w0 gb gr A n c a s A' m c' L y (Bo done 11) (Bn ρ (some 2) v) w:=
 { b:=h.b
   e2:=fun k=>by rw [Gv] at k;cases k
   f2:=fun k=>h.f2 (E6 k)
   m3:=fun _ k=>by rw [Aw (by decide),h4] at k;cases k
   m4:=fun k=>by rw [Aw (by decide),h4] at k;cases k
   n4:=fun _=>by
    obtain⟨A2,c2,k1,k2,-⟩:=h.n4 h4
    exact⟨A2,c2,by rw [Ft (by decide)];exact k1,k2,fun _=>by rw [M8,hv];exact k1⟩
   r1:=fun k=>h.r1 (E6 k)
   r2:=fun k=>by rw [Aw (by decide)] at k;exact h.r2 k
   z3:=fun k=>by rw [Aw (by decide)] at k;exact Be (h.z3 k)
   z4:=fun k=>by rw [Aw (by decide)] at k;exact Be (h.z4 k)
   z41:=fun k=>by rw [Aw (by decide)] at k;exact Be (h.z41 k)
   z11:=fun _=>Be h4
   z10:=fun k=>by rw [Aw (by decide)] at k;exact Be (h.z10 k)
   z14:=fun k=>by rw [Aw (by decide)] at k;exact Be (h.z14 k) }
theorem RJ.store (h:RJ w0 gb gr A n c a s A' m c' L y done ρ w) (hn:done 14=false) (kb:done 10=true) (FS:w0.heap.size<=gr) (ak:gb≠gr) (v:Value):
 RJ w0 gb gr A n c a s A' m c' L y (Bo done 14) (Bn ρ none v) (w.setCell ⟨gr,1,none⟩ (.int .i64 ((a:Int)+(s:Int)))):=by
 have hR:=h.r1 hn;have ho:=Ah.set gr 1 w (.int .i64 ((a:Int)+(s:Int)));have sw:Fr (w.setCell ⟨gr,1,none⟩ (.int .i64 ((a:Int)+(s:Int)))) gr A n c (a+s) false:=by
  have:=hR.set1 (a+s);rwa [show ((a+s:Nat):Int)=(a:Int)+(s:Int) by omega] at this
 exact
 { b:=h.b.setCell FS _
   e2:=fun k=>by rw [Aw (by decide)] at k;exact h.e2 k
   f2:=fun k=>(h.f2 (E6 k)).only ho ak
   m3:=fun k l=>by
    rw [Aw (by decide)] at k l
    obtain⟨g,k1,k2⟩:=h.m3 k l
    refine⟨g,k1,?_⟩
    have hgg:g≠gr:=by
     intro e
     unfold Fr at hR
     rw [<-e,k2] at hR
     simp at hR
    exact (heap_setCell_other _ _ _ _ hgg).trans k2
   m4:=fun k=>by
    rw [Aw (by decide)] at k
    exact⟨(h.m4 k).1.only hR ho,Es (h.m4 k).2 hR ho⟩
   n4:=fun k=>by
    rw [Aw (by decide)] at k
    obtain⟨A2,c2,k1,k2,k3⟩:=h.n4 k
    exact⟨A2,c2,k1,k2.only hR ho,fun l=>by rw [Aw (by decide)] at l;exact k3 l⟩
   r1:=fun k=>by rw [Gv] at k;cases k
   r2:=fun _=>sw
   z3:=fun k=>by rw [Aw (by decide)] at k;exact Be (h.z3 k)
   z4:=fun k=>by rw [Aw (by decide)] at k;exact Be (h.z4 k)
   z41:=fun k=>by rw [Aw (by decide)] at k;exact Be (h.z41 k)
   z11:=fun k=>by rw [Aw (by decide)] at k;exact Be (h.z11 k)
   z10:=fun k=>by rw [Aw (by decide)] at k;exact Be (h.z10 k)
   z14:=fun _=>Be (h.z10 kb) }
end
theorem Ui {o:Oper} {ρ:Nat->Value} {w w0:World} {R:P9} (s x:Operand) (ho:o.op= .call { callee:= .builtin .append,args:=#[s,x],argTypes:=#[48,48] })
 {A':Option Addr} {m c':Nat} {L:List Bj} {y:Bj} {g:Nat} (hs:Fg ρ s= .slice A' m c') (hx:Fg ρ x= .slice (some ⟨g,0,none⟩) 1 1) (hm:L.length=m) (NL:OO w w0.heap.size A' c' L) (hy:w.ownsRow w0.heap.size 120 3 (.slice y.A y.p.length y.c) y.p.length (Ed y.p))
 (hg:w.heap[g]?=some (.cells #[.int .u8 y.k,.int .u32 y.t,.int .u8 y.r,.slice y.A y.p.length y.c,.int .i64 y.z] 104 (0,0))) (uk:m+1<=1073741824) (hb:w0.heap.size<=w.heap.size)
 (h:∀ A2 c2 w',OO w' w0.heap.size A2 c2 (L++ [y])->Below w0.heap.size w w'->(∀ (b:Nat) (o':Obj),w.heap[b]?=some o'->(∀ bh,o'≠ .cells bh 104 (0,0))->w'.heap[b]?=some o')->R (.slice A2 (m+1) c2) w'):Ih Tryz.prog o ρ w R:=by
 subst hm;obtain⟨i0,cr,cb,cu,cq⟩:=info_parts Sa;have hr:RD w w.heap.size 5 (some ⟨g,0,none⟩) 1 y.cells:=by
  refine⟨rfl,fun _=>⟨g,0,rfl,(Array.getElem?_eq_some_iff.1 hg).1,fun j u hu=>?_⟩⟩;rw [Nat.zero_add,cell_of_row _ _ _ _ _ _ hg,<-Array.getElem?_toList];exact hu
 obtain⟨v',w',je,h1,h2,h3⟩:=Dg (P:=Tryz.prog) w w0.heap.size 48 o.type 104 i0 (.agg #[.int .u8 0,.int .u32 0,.int .u8 0,.slice none 0 0,.int .i64 0]) 5 48 Tryz.underlying48 cr cb cu cq rfl (by decide) _ L.length (Ec L) NL.1 w.heap.size (some ⟨g,0,none⟩) 1 1 y.cells hr (Nn y) uk (by decide) hb;obtain⟨A2,c2,rfl,-,-,-⟩:=Ao h1;refine E7 s x _ ho _ _ hs hx _ w' je (h A2 c2 w' ⟨?_,fun q hq=>?_⟩ h2 h3)
 ·rw [N0,T2,List.length_append,List.length_singleton];exact h1
 ·rcases List.mem_append.1 hq with hq | hq
  ·exact Ef (NL.2 q hq) (by decide) h3
  ·simp only [List.mem_singleton] at hq;subst hq;exact Ef hy (by decide) h3
structure AJ (kl ke kc kr ka ks sc sr sa:Nat) (T E0 E1 O0 B0:World->Prop) (X:Value->World->Prop) (R:Value->Nat->World->Prop) (O1 B1:Value->World->Prop) (done:Nat->Bool) (ρ:Nat->Value) (W:World):Prop where
 t:T W
 e0:done kc=false->E0 W
 e1:done kc=true->E1 W
 o0:done ka=false->O0 W
 x1:done kc=true->done ka=false->X (ρ sc) W/\(done kr=true->∃ q,ρ sr= .slice (some ⟨q,0,none⟩) 1 1/\R (ρ sc) q W)
 a1:done ka=true->O1 (ρ sa) W
 b0:done ks=false->B0 W
 b1:done ks=true->B1 (ρ sa) W
 zr:done kr=true->done kc=true
 za:done ka=true->done kr=true
 zs:done ks=true->done ka=true
 zl:done ka=true->done kl=true
 ze:done ke=true->done kc=true
section
variable {kl ke kc kr ka ks sc sr sa:Nat} {T E0 E1 O0 B0:World->Prop} {X:Value->World->Prop} {R:Value->Nat->World->Prop} {O1 B1:Value->World->Prop} {done:Nat->Bool} {ρ:Nat->Value} {W:World}
theorem AJ.start (ρ:Nat->Value) (t:T W) (e:E0 W) (o:O0 W) (b:B0 W):AJ kl ke kc kr ka ks sc sr sa T E0 E1 O0 B0 X R O1 B1 (fun _=>false) ρ W:=
 ⟨t,fun _=>e,fun h=>(by cases h),fun _=>o,fun h=>(by cases h),fun h=>(by cases h),fun _=>b,fun h=>(by cases h),fun h=>(by cases h),fun h=>(by cases h),fun h=>(by cases h),fun h=>(by cases h),fun h=>(by cases h)⟩
theorem AJ.plain (h:AJ kl ke kc kr ka ks sc sr sa T E0 E1 O0 B0 X R O1 B1 done ρ W) (i d:Nat) (v:Value) (h1:kc≠i) (h2:kr≠i) (h3:ka≠i) (h4:ks≠i) (d1:sc≠d) (d2:sr≠d) (d3:sa≠d) (z:ke=i->done kc=true):
 AJ kl ke kc kr ka ks sc sr sa T E0 E1 O0 B0 X R O1 B1 (Bo done i) (Bn ρ (some d) v) W:=
 { t:=h.t
   e0:=fun k=>by rw [Aw h1] at k;exact h.e0 k
   e1:=fun k=>by rw [Aw h1] at k;exact h.e1 k
   o0:=fun k=>by rw [Aw h3] at k;exact h.o0 k
   x1:=fun k l=>by
    rw [Aw h1] at k
    rw [Aw h3] at l
    rw [Aw h2,Ft d1,Ft d2]
    exact h.x1 k l
   a1:=fun k=>by rw [Aw h3] at k;rw [Ft d3];exact h.a1 k
   b0:=fun k=>by rw [Aw h4] at k;exact h.b0 k
   b1:=fun k=>by rw [Aw h4] at k;rw [Ft d3];exact h.b1 k
   zr:=fun k=>by rw [Aw h2] at k;rw [Aw h1];exact h.zr k
   za:=fun k=>by rw [Aw h3] at k;rw [Aw h2];exact h.za k
   zs:=fun k=>by rw [Aw h4] at k;rw [Aw h3];exact h.zs k
   zl:=fun k=>by rw [Aw h3] at k;exact Be (h.zl k)
   ze:=fun k=>by
    by_cases e:ke=i
    ·exact Be (z e)
    ·rw [Aw e] at k;exact Be (h.ze k) }
theorem AJ.nor (h:AJ kl ke kc kr ka ks sc sr sa T E0 E1 O0 B0 X R O1 B1 done ρ W) (hc:done kc=false):done kr=false:=by
 cases hx:done kr with
 | false=>rfl
 | true=>rw [h.zr hx] at hc;cases hc
theorem AJ.noa (h:AJ kl ke kc kr ka ks sc sr sa T E0 E1 O0 B0 X R O1 B1 done ρ W) (hc:done kr=false):done ka=false:=by
 cases hx:done ka with
 | false=>rfl
 | true=>rw [h.za hx] at hc;cases hc
theorem AJ.nos (h:AJ kl ke kc kr ka ks sc sr sa T E0 E1 O0 B0 X R O1 B1 done ρ W) (hc:done ka=false):done ks=false:=by
 cases hx:done ks with
 | false=>rfl
 | true=>rw [h.zs hx] at hc;cases hc
theorem AJ.call (h:AJ kl ke kc kr ka ks sc sr sa T E0 E1 O0 B0 X R O1 B1 done ρ W) (hn:done kc=false) (hd:kc≠kr/\kc≠ka/\kc≠ks) {v:Value} {W':World} (t:T W') (e:E1 W') (o:O0 W') (b:B0 W') (x:X v W'):
 AJ kl ke kc kr ka ks sc sr sa T E0 E1 O0 B0 X R O1 B1 (Bo done kc) (Bn ρ (some sc) v) W':=by
 have nr:=h.nor hn;have na:=h.noa nr;have ns:=h.nos na;exact
 { t:=t
   e0:=fun k=>by rw [Gv] at k;cases k
   e1:=fun _=>e
   o0:=fun _=>o
   x1:=fun _ _=>by
    rw [M8]
    exact⟨x,fun k=>by rw [Aw hd.1.symm,nr] at k;cases k⟩
   a1:=fun k=>by rw [Aw hd.2.1.symm,na] at k;cases k
   b0:=fun _=>b
   b1:=fun k=>by rw [Aw hd.2.2.symm,ns] at k;cases k
   zr:=fun _=>Gv
   za:=fun k=>by rw [Aw hd.2.1.symm,na] at k;cases k
   zs:=fun k=>by rw [Aw hd.2.2.symm,ns] at k;cases k
   zl:=fun k=>by rw [Aw hd.2.1.symm,na] at k;cases k
   ze:=fun _=>Gv }
theorem AJ.row (h:AJ kl ke kc kr ka ks sc sr sa T E0 E1 O0 B0 X R O1 B1 done ρ W) (hn:done kr=false) (hc:done kc=true) (hd:kr≠kc/\kr≠ka/\kr≠ks/\sc≠sr) {q:Nat} {W':World} (t:T W') (e:E1 W') (o:O0 W') (b:B0 W') (x:X (ρ sc) W') (r:R (ρ sc) q W'):
 AJ kl ke kc kr ka ks sc sr sa T E0 E1 O0 B0 X R O1 B1 (Bo done kr) (Bn ρ (some sr) (.slice (some ⟨q,0,none⟩) 1 1)) W':=by
 have na:=h.noa hn;have ns:=h.nos na;exact
 { t:=t
   e0:=fun k=>by rw [Aw hd.1.symm,hc] at k;cases k
   e1:=fun _=>e
   o0:=fun _=>o
   x1:=fun _ _=>by
    rw [Ft hd.2.2.2]
    exact⟨x,fun _=>⟨q,M8,r⟩⟩
   a1:=fun k=>by rw [Aw hd.2.1.symm,na] at k;cases k
   b0:=fun _=>b
   b1:=fun k=>by rw [Aw hd.2.2.1.symm,ns] at k;cases k
   zr:=fun _=>Be hc
   za:=fun _=>Gv
   zs:=fun k=>by rw [Aw hd.2.2.1.symm,ns] at k;cases k
   zl:=fun k=>by rw [Aw hd.2.1.symm,na] at k;cases k
   ze:=fun _=>Be hc }
theorem AJ.app (h:AJ kl ke kc kr ka ks sc sr sa T E0 E1 O0 B0 X R O1 B1 done ρ W) (hn:done ka=false) (hr:done kr=true) (hl:done kl=true) (hd:ka≠kc/\ka≠kr/\ka≠ks) {v:Value} {W':World} (t:T W') (e:E1 W') (o:O1 v W') (b:B0 W'):
 AJ kl ke kc kr ka ks sc sr sa T E0 E1 O0 B0 X R O1 B1 (Bo done ka) (Bn ρ (some sa) v) W':=by
 have ns:=h.nos hn;exact
 { t:=t
   e0:=fun k=>by rw [Aw hd.1.symm,h.zr hr] at k;cases k
   e1:=fun _=>e
   o0:=fun k=>by rw [Gv] at k;cases k
   x1:=fun _ k=>by rw [Gv] at k;cases k
   a1:=fun _=>by rw [M8];exact o
   b0:=fun _=>b
   b1:=fun k=>by rw [Aw hd.2.2.symm,ns] at k;cases k
   zr:=fun _=>Be (h.zr hr)
   za:=fun _=>Be hr
   zs:=fun _=>Gv
   zl:=fun _=>Be hl
   ze:=fun _=>Be (h.zr hr) }
theorem AJ.store (h:AJ kl ke kc kr ka ks sc sr sa T E0 E1 O0 B0 X R O1 B1 done ρ W) (ha:done ka=true) (hd:ks≠kc/\ks≠kr/\ks≠ka) {v:Value} {W':World} (t:T W') (e:E1 W') (o:O1 (ρ sa) W') (b:B1 (ρ sa) W'):
 AJ kl ke kc kr ka ks sc sr sa T E0 E1 O0 B0 X R O1 B1 (Bo done ks) (Bn ρ none v) W':=
 { t:=t
   e0:=fun k=>by rw [Aw hd.1.symm,h.zr (h.za ha)] at k;cases k
   e1:=fun _=>e
   o0:=fun k=>by rw [Aw hd.2.2.symm,ha] at k;cases k
   x1:=fun _ k=>by rw [Aw hd.2.2.symm,ha] at k;cases k
   a1:=fun _=>o
   b0:=fun k=>by rw [Gv] at k;cases k
   b1:=fun _=>b
   zr:=fun _=>Be (h.zr (h.za ha))
   za:=fun _=>Be (h.za ha)
   zs:=fun _=>Be ha
   zl:=fun _=>Be (h.zl ha)
   ze:=fun _=>Be (h.zr (h.za ha)) }
end
end Go.Proofs.YtmkpfdcnikgokaaGreat
