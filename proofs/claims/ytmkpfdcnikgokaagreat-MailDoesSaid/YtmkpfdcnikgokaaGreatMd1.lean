/-
  Texts of this claim, put together: Words, Past, Float, StampMath, IdBase, PlaceMath. What each theorem asks stands in its statement.
-/
import Derived.WalkKit
import Derived.WalkSpells
import Derived.WalkLawsBesides
import Derived.Lib.Hide
import Derived.Deep.Draws
import Derived.Laws.BytesArg
import Derived.Deep.QuietTactic
import Derived.BigQuiet
import Derived.Deep.RegionWith
import Derived.Maps.AppendAt
import Derived.Deep.AppendLies
import Derived.Laws.ComplexArith
import Derived.Test.YtmkpfdcnikgokaaGreatRows
set_option linter.unusedVariables false
set_option linter.unusedSimpArgs false
set_option maxRecDepth 100000
set_option maxHeartbeats 25600000
namespace Go.Proofs.YtmkpfdcnikgokaaGreat
open Go.RowKit
theorem Fk (b off n:Nat):(⟨b,off,none⟩:Addr).add n=⟨b,off+n,none⟩:=by
 unfold Addr.add;by_cases h:n=0 <;> simp [h]
def RD (w:World) (B size:Nat) (A:Option Addr) (n:Nat) (xs:List Value):Prop:=
 xs.length=n * size/\(0 < n->∃ b off,A=some ⟨b,off,none⟩/\b < B/\∀ j u,xs[j]?=some u->w.cell? ⟨b,off+j,none⟩=some u)
section
variable {w w':World} {B B' size n:Nat} {A:Option Addr} {xs:List Value}
theorem RD.nil_:RD w B size A 0 []:=⟨by simp,fun h=>absurd h (by omega)⟩
theorem RD.keep (h:RD w B size A n xs) (hk:∀ p:Addr,p.block < B->w'.cell? p=w.cell? p):RD w' B size A n xs:=
 ⟨h.1,fun hn=>by
   obtain⟨b,off,e,hb,hc⟩:=h.2 hn
   exact⟨b,off,e,hb,fun j u hu=>(hk _ hb).trans (hc j u hu)⟩⟩
theorem RD.more (h:RD w B size A n xs) (hB:B<=B'):RD w B' size A n xs:=
 ⟨h.1,fun hn=>by
   obtain⟨b,off,e,hb,hc⟩:=h.2 hn
   exact⟨b,off,e,by omega,hc⟩⟩
theorem RD.below (h:RD w B size A n xs) (hb:Below B w w'):RD w' B size A n xs:=h.keep fun _ hp=>hb.cell hp
theorem RD.alloc (h:RD w B size A n xs) (hB:B<=w.heap.size) (o:Obj):RD (w.alloc o) B size A n xs:=h.keep fun p hp=>World.cell?_alloc_lt w o p (by omega)
theorem RD.take (h:RD w B size A n xs) {k:Nat} (hk:k<=n):RD w B size A k (xs.take (k * size)):=by
 refine⟨by rw [List.length_take,h.1];exact Nat.min_eq_left (Nat.mul_le_mul_right _ hk),fun hn=>?_⟩;obtain⟨b,off,e,hb,hc⟩:=h.2 (by omega);refine⟨b,off,e,hb,fun j u hu=>hc j u ?_⟩;rw [List.getElem?_take] at hu;split at hu
 ·exact hu
 ·cases hu
theorem RD.cut (h:RD w B size A n xs) {k cap:Nat} (hk:k<=n) (hc:n<=cap):
 RD w B size (if cap=k then A else A.map (·.add (k * size))) (n - k) (xs.drop (k * size)):=by
 refine⟨by rw [List.length_drop,h.1,Nat.sub_mul],fun hn=>?_⟩;obtain⟨b,off,rfl,hb,nu⟩:=h.2 (by omega);rw [if_neg (by omega)];refine⟨b,off+k * size,by simp [Fk],hb,fun j u hu=>?_⟩;have:=nu (k * size+j) u (by rw [<-hu,List.getElem?_drop]);rw [<-Nat.add_assoc] at this;exact this
theorem RD.of_own {aa:Nat} {e:TypeId} {c:Nat} (h:w.ownsRow aa e size (.slice A n c) n xs):RD w w.heap.size size A n xs:=by
 refine⟨h.1,fun hn=>?_⟩;obtain⟨g,cap,hv,_,ai⟩:=h.form hn;have hA:A=some ⟨g,0,none⟩:=by injection hv
 subst hA;refine⟨g,0,rfl,ai,fun j u hu=>?_⟩;have:=h.cells (g:=g) rfl j u hu;rw [Fk] at this;exact this
end
theorem Ao {w:World} {aa:Nat} {e:TypeId} {size n:Nat} {v:Value} {xs:List Value} (h:w.ownsRow aa e size v n xs):
 ∃ A c,v= .slice A n c/\n<=c/\c<=maxLen/\(n=0\/∃ g,A=some ⟨g,0,none⟩/\aa<=g/\g < w.heap.size):=by
 rcases h.2 with⟨rfl,rfl⟩ | ⟨g,cap,bh,rfl,hb,hg,hn,hm,_⟩
 ·exact⟨none,0,rfl,Nat.le_refl _,Nat.zero_le _,.inl rfl⟩
 ·exact⟨_,cap,rfl,hn,hm,.inr ⟨g,rfl,hb,(Array.getElem?_eq_some_iff.1 hg).1⟩⟩
theorem Ld {w:World} {aa:Nat} {e:TypeId} {size n c g:Nat} {xs:List Value} (h:w.ownsRow aa e size (.slice (some ⟨g,0,none⟩) n c) n xs):
 ∃ bh,w.heap[g]?=some (.cells bh e (0,0))/\aa<=g/\bh.size=c * size/\bh.toList.take (n * size)=xs:=by
 rcases h.2 with⟨hv,_⟩ | ⟨g',cap,bh,hv,hb,hg,_,_,hs,hx⟩
 ·cases hv
 ·simp only [Value.slice.injEq,Option.some.injEq,Addr.mk.injEq,and_true,true_and] at hv;obtain⟨rfl,rfl⟩:=hv;exact⟨bh,hg,hb,hs,hx⟩
theorem Ai {w w':World} {aa:Nat} {e:TypeId} {size n:Nat} {v:Value} {xs:List Value} (h:w.ownsRow aa e size v n xs) {B:Nat} (hb:Below B w w') (hB:w.heap.size<=B):w'.ownsRow aa e size v n xs:=by
 refine⟨h.1,?_⟩;rcases h.2 with hn | ⟨g,cap,bh,rfl,hbg,hgg,rest⟩
 ·exact .inl hn
 ·exact .inr ⟨g,cap,bh,rfl,hbg,(hb.block g (by have:=(Array.getElem?_eq_some_iff.1 hgg).1;omega)).trans hgg,rest⟩
theorem I4 {w:World} {aa base':Nat} {e:TypeId} {size n:Nat} {v:Value} {xs:List Value} (h:w.ownsRow aa e size v n xs) (hb:base'<=aa):w.ownsRow base' e size v n xs:=by
 refine⟨h.1,?_⟩;rcases h.2 with hn | ⟨g,cap,bh,rfl,hbg,rest⟩
 ·exact .inl hn
 ·exact .inr ⟨g,cap,bh,rfl,Nat.le_trans hb hbg,rest⟩
theorem E8 {w w1:World} {aa:Nat} {e:TypeId} {size n:Nat} {v:Value} {xs:List Value} (h:w.ownsRow aa e size v n xs) (hg:w.grownBy w1 v.ownBlock) (hB:aa<=w.heap.size):Below aa w w1:=
 (Below.refl _ _).grown hg hB (fun k hk=>(h.lt k hk).1)
def Cw (l:List UInt8):List Value:=l.map fun b=> .int .u8 (b.toNat:Int)
theorem Ob (l:List UInt8):(Cw l).length=l.length:=by simp [Cw]
theorem Bg (a b:List UInt8):Cw (a++b)=Cw a++Cw b:=by simp [Cw]
theorem Ce (l:List UInt8):∀ u∈Cw l,u.oneCell'=true:=by
 intro u hu;simp only [Cw,List.mem_map] at hu;obtain⟨b,_,rfl⟩:=hu;rfl
theorem Acd (l:List UInt8) (i:Nat) (h:i < l.length):(Cw l)[i]?=some (.int .u8 (l[i].toNat:Int)):=by simp [Cw,h]
theorem Pb (l:List UInt8) (k:Nat):(Cw l).take k=Cw (l.take k):=by simp [Cw,List.map_take]
theorem Tq (l:List UInt8) (k:Nat):(Cw l).drop k=Cw (l.drop k):=by simp [Cw,List.map_drop]
def RB (w:World) (B:Nat) (A:Option Addr) (l:List UInt8):Prop:=RD w B 1 A l.length (Cw l)
theorem RB.cell {w:World} {B:Nat} {A:Option Addr} {l:List UInt8} (h:RB w B A l) (hl:0 < l.length):
 ∃ b off,A=some ⟨b,off,none⟩/\b < B/\∀ j (hj:j < l.length),w.cell? ⟨b,off+j,none⟩=some (.int .u8 (l[j].toNat:Int)):=by
 obtain⟨b,off,e,hb,hc⟩:=h.2 hl;exact⟨b,off,e,hb,fun j hj=>hc j _ (Acd l j hj)⟩
section
variable {P:Program}
theorem Dv {w0:World} {bh:Array Value} {e:TypeId} {ops:Array Oper} {rest:List Oper} {o:Oper} {a:Act} {Q:Exit->Act->World->Prop} (CL:o.guard=none) (s x:Operand) (t:TypeId)
 (ho:o.op= .call { callee:= .builtin .append,args:=#[s,x],argTypes:=#[t,t] })
 (aa:Nat) (i:TypeInfo) (z:Value) (size bytes:Nat) (ht:P.underlying t=some (.slice e)) (hi:P.info? e=some i) (hz:i.zero=some z)
 (jw:i.size=size) (ss:i.bytes=bytes) (CC:z.cells.size=size) (ay:0 < size)
 (v:Value) (n:Nat) (xs:List Value) (hs:a.eval s=v) (ah:w0.ownsRow aa e size v n xs) (c:Nat)
 (hx:a.eval x= .slice (some ⟨w0.heap.size,0,none⟩) 1 c) (hl:bh.size=size) (h1:bh.toList.all (fun u=>u.oneCell')=true)
 (uk:n < 1073741824) (fm:bytes<=65536) (ao:aa<=w0.heap.size)
 (h:∀ v' w',w'.ownsRow aa e size v' (n+1) (xs++bh.toList)->Below aa w0 w'->wpList P ops Q rest (a.put o.dst v') w'):
 wpList P ops Q (o :: rest) a (w0.alloc (.cells bh e)):=by
 refine wpList_append_own (w:=w0.alloc (.cells bh e)) CL s x t ho aa e i z size bytes ht hi hz jw ss CC ay v n xs hs (ah.alloc _) ⟨w0.heap.size,0,none⟩ 1 c bh.toList hx (by simpa using hl) ?_ ?_
  (by unfold maxLen;omega) ?_ (by simp;omega) ?_
 ·intro j u hu;rw [Fk,Nat.zero_add,cell_of_row _ _ _ _ _ (0,0) (heap_alloc_new w0 _),<-Array.getElem?_toList];exact hu
 ·intro u hu;exact (List.all_eq_true.1 h1) u hu
 ·have:(n+1) * bytes<=(n+1) * 65536:=Nat.mul_le_mul_left _ fm;omega
 ·intro v' w' eh hg _;exact h v' w' eh (((Below.refl aa w0).alloc ao _).trans (E8 (ah.alloc _) hg (by simp;omega)))
end
theorem RB.row {w:World} {g:Nat} {cs:Array Value} {e:TypeId} {fr:Nat×Nat} {l:List UInt8} (h:w.heap[g]?=some (.cells cs e fr)) (hl:cs.toList=Cw l):RB w w.heap.size (some ⟨g,0,none⟩) l:=
 ⟨by simp [Ob],fun _=>⟨g,0,rfl,(Array.getElem?_eq_some_iff.1 h).1,fun j u hu=>by
   rw [Nat.zero_add,cell_of_row _ _ _ _ _ _ h,<-Array.getElem?_toList,hl]
   exact hu⟩⟩
section
variable {P:Program}
theorem Cs {w:World} {B:Nat} {A:Option Addr} {l:List UInt8} (h:RB w B A l) {src dst e:TypeId} (hs:P.underlying src=some (.slice e)) (he:P.underlying e=some (.int .u8)) (hd:P.underlying dst=some .string) (c:Nat):
 (convert src dst (.slice A l.length c)).run P w= .ok (.string ⟨l.toArray⟩) w:=by
 have hm:strOfNums (l.map fun b=>(b.toNat:Int))=⟨l.toArray⟩:=by
  unfold strOfNums
  congr 2
  rw [List.map_map];refine (List.map_congr_left (g:=id) (fun b _=>?_)).trans (List.map_id _);simp [Function.comp]
 rcases Nat.eq_zero_or_pos l.length with h0 | h0
 ·obtain rfl:=List.eq_nil_of_length_eq_zero h0;rcases A with _ | ad
  ·exact run_convert_bytes_nil w src e hs he _ c dst hd
  ·rw [run_convert_bytes_string w src dst e _ _ c hs he hd,run_bytesToString w ad _ c [] (by simpa using run_loadCells_list (P:=P) w ad [] (fun j v hj=>by simp at hj))];rfl
 ·obtain⟨b,off,rfl,_,hc⟩:=h.cell h0;rw [<-hm];exact run_convert_bytes_arg w src e hs he b off l.length c (l.map fun b=>(b.toNat:Int)) (by simp) (fun i hi=>by rw [hc i hi];simp [List.getElem?_eq_getElem hi]) dst hd
end
theorem Ad {w w1 w2:World} (h1:Below w.heap.size w w1) (h2:Below w1.heap.size w1 w2):Below w.heap.size w w2:=h1.trans (h2.mono h1.size)
theorem Ae {b c:Bool} (h:b=c):Ending.returned (.bool b)= .returned (.bool c):=by rw [h]
theorem Ge {k:IntKind} {a b:Int} (h:a=b):Value.int k a= .int k b:=by rw [h]
theorem Cu {k:IntKind} {a b:Int} (h:a=b):Ending.returned (.int k a)= .returned (.int k b):=by rw [h]
theorem Qf {P:Program} {a:Act} {w:World} {Q:Exit->Act->World->Prop} {c rest:Code} (l:Nat) (J:Act->World->Prop) (μ:Act->World->Nat) (hf:findLabel c l=some (Code.skip.seq rest))
 (first:∀ K:Exit->Act->World->Prop,(∀ a w,J a w->rest.wp P K a w)->c.wp P K a w)
 (pass:∀ a w,J a w->rest.wp P (Exit.jump l (fun a' w'=>J a' w'/\μ a' w' < μ a w) Q) a w):(Code.scope c).wp P Q a w:=
 wp_scope_jumps l J μ hf (first _ fun a w hJ=>Code.wp_mono (fun e a' w' h=>by
  cases e with
  | goto l'=>exact⟨h.1,h.2.1⟩
  | _=>exact h) (pass a w hJ)) fun a w hJ=>wp_seq (wp_skip (pass a w hJ))
theorem Bk {B:Nat} {a w:World} (h:Below B a w) (n:Nat):Below B a (w.drewN n):=⟨h.os,h.tape,h.output,h.size,h.block⟩
theorem Aa {p:Prop} (h:p):Hid p:=h
theorem Ag {p:Prop} (h:Hid p):p:=h
noncomputable def Bs (w W:World):World:=@ite World (Below w.heap.size w W) (Classical.propDecidable _) W w
theorem Af (w W:World):Below w.heap.size w (Bs w W):=by
 unfold Bs;by_cases h:Below w.heap.size w W
 ·rw [if_pos h];exact h
 ·rw [if_neg h];exact Below.refl _ _
theorem Xt {w W:World} (h:Below w.heap.size w W):W=Bs w W:=by unfold Bs;rw [if_pos h]
@[go_sem] theorem Xe (w W:World) (a:Addr) (h:a.block < w.heap.size):(Bs w W).cell? a=w.cell? a:=(Af w W).cell h
@[go_sem] theorem Adl (w W:World) (a:Addr) (h:a.block < w.heap.size):(Bs w W).frozen? a=w.frozen? a:=(Af w W).frozen h
theorem Al {P:Program} {f:FuncId} {args:Array Value} {w W:World} {v:Value}
 (h:Calls P f args (Bs w W) fun e w'=>e= .returned v/\Below (Bs w W).heap.size (Bs w W) w'):Calls P f args (Bs w W) fun e w'=>e= .returned v/\∃ u,w'=Bs w u:=
 h.mono fun _ w' ⟨he,hb⟩=>⟨he,w',Xt ((Af w W).trans (hb.mono (Af w W).size))⟩
theorem Ei {P:Program} {id:Nat} {Q:Exit->Act->World->Prop} {a:Act} {w:World} {l:List Oper} (hm:P.follows .mixedOrders=true) (hB:Region.lexB .any l.toArray=true)
 (h:wpQuiet P l.toArray (fun w'=>∃ u,w'=Bs w u) (fun a'=>∀ w',(∃ u,w'=Bs w u)->Q .normal a' w') l a):(Code.region id l.toArray true).wp P Q a w:=
 wp_region_quiet (C:=fun w'=>∃ u,w'=Bs w u) hm hB ⟨w.drew,Xt (Below.refl _ _).drew⟩ (by simpa using h)
end Go.Proofs.YtmkpfdcnikgokaaGreat
namespace Go.Proofs.YtmkpfdcnikgokaaGreat
open Ieee
def Ds (n:Nat):Nat:=(n.log2+1022) * 2 ^ 52+n * 2 ^ (52 - n.log2)
theorem I9 {n:Nat} (h0:0 < n) (h:n < 2 ^ 53):n.log2<=52:=by
 have:=(Nat.log2_lt (by omega:n≠0)).2 h;omega
theorem Pj (n s:Nat) (h0:0 < n):(n * 2 ^ s).log2=n.log2+s:=by
 have ak:n * 2 ^ s≠0:=Nat.mul_ne_zero (by omega) (by have:=Nat.two_pow_pos s;omega);rw [Nat.log2_eq_iff ak];have h1:=(Nat.log2_eq_iff (by omega:n≠0)).1 rfl;refine⟨?_,?_⟩
 ·rw [Nat.pow_add];exact Nat.mul_le_mul_right _ h1.1
 ·rw [show n.log2+s+1=(n.log2+1)+s by omega,Nat.pow_add];exact Nat.mul_lt_mul_of_pos_right h1.2 (Nat.two_pow_pos s)
theorem Kw {n:Nat} (h0:0 < n) (h:n < 2 ^ 53):2 ^ 52<=n * 2 ^ (52 - n.log2)/\n * 2 ^ (52 - n.log2) < 2 ^ 53:=by
 have h1:=(Nat.log2_eq_iff (by omega:n≠0)).1 rfl;have hl:=I9 h0 h;constructor
 ·calc 2 ^ 52=2 ^ n.log2 * 2 ^ (52 - n.log2):=by rw [<-Nat.pow_add];congr 1;omega
   _<=_:=Nat.mul_le_mul_right _ h1.1
 ·calc n * 2 ^ (52 - n.log2) < 2 ^ (n.log2+1) * 2 ^ (52 - n.log2):=Nat.mul_lt_mul_of_pos_right h1.2 (Nat.two_pow_pos _)
   _=2 ^ 53:=by rw [<-Nat.pow_add];congr 1;omega
theorem Xo {n:Nat} (h0:0 < n) (h:n < 2 ^ 53):Ds n < 2047 * 2 ^ 52:=by
 have hl:=I9 h0 h;have hfb:=Kw h0 h;unfold Ds;have:(n.log2+1022) * 2 ^ 52<=1074 * 2 ^ 52:=Nat.mul_le_mul_right _ (by omega);omega
theorem Aby (neg:Bool) (n:Nat):Toward.even.cut neg n 0=n:=by
 unfold Toward.cut;simp [Nat.mod_one]
theorem Zi (neg:Bool) (n r:Nat) (hn:0 < n):Toward.even.cut neg (n * 2 ^ r) r=n:=by
 unfold Toward.cut;have hm:min r ((n * 2 ^ r).log2+2)=r:=by rw [Pj n r hn];omega
 rw [hm,Nat.one_shiftLeft];simp only [Nat.mul_mod_left,Nat.mul_div_cancel _ (Nat.two_pow_pos r)];have:=Nat.two_pow_pos r;have e1:(2 ^ r < 2 * 0)=False:=by simp
 have e2:(2 ^ r == 2 * 0)=false:=by simp
 simp [e2]
theorem Iy (neg:Bool) (n s:Nat) (h0:0 < n) (h:n < 2 ^ 53):double.nearest neg (n * 2 ^ s) (-(s:Int))=double.word neg (Ds n):=by
 have hl:=I9 h0 h;have hfb:=Kw h0 h;have ak:n * 2 ^ s≠0:=Nat.mul_ne_zero (by omega) (by have:=Nat.two_pow_pos s;omega);have NW:double.leastPlace=-1074:=by decide
 have FI:max (-(s:Int)+((n * 2 ^ s).log2:Nat) - (double.fractionBits:Nat)) (-1074)=(n.log2:Int) - 52:=by
  rw [Pj n s h0];have:(double.fractionBits:Nat)=52:=rfl;rw [this];omega
 unfold Format.nearest;rw [if_neg ak];simp only [NW];rw [FI];have hkept:Toward.even.cut neg ((n * 2 ^ s) <<< (-(s:Int) - ((n.log2:Int) - 52)).toNat) (((n.log2:Int) - 52) - -(s:Int)).toNat=n * 2 ^ (52 - n.log2):=by
  by_cases hs:s<=52 - n.log2
  ·have e1:(-(s:Int) - ((n.log2:Int) - 52)).toNat=52 - n.log2 - s:=by omega
   have e2:(((n.log2:Int) - 52) - -(s:Int)).toNat=0:=by omega
   rw [e1,e2,Aby,Nat.shiftLeft_eq,Nat.mul_assoc,<-Nat.pow_add]
   congr 2
   omega
  ·have e1:(-(s:Int) - ((n.log2:Int) - 52)).toNat=0:=by omega
   obtain⟨r,hr⟩:∃ r,s=(52 - n.log2)+r:=⟨s - (52 - n.log2),by omega⟩;have e2:(((n.log2:Int) - 52) - -(s:Int)).toNat=r:=by omega
   rw [e1,e2,Nat.shiftLeft_zero,hr,Nat.pow_add,<-Nat.mul_assoc];exact Zi neg _ r (by omega)
 rw [hkept];have ei:((n.log2:Int) - 52 - -1074).toNat=n.log2+1022:=by omega
 have VW:double.infRung=2047 * 2 ^ 52:=by decide
 have WI:double.binade=2 ^ 52:=by decide
 have hmin:min ((n.log2+1022) * 2 ^ 52+n * 2 ^ (52 - n.log2)) (2047 * 2 ^ 52)=Ds n:=by
  show min (Ds n) (2047 * 2 ^ 52)=Ds n;exact Nat.min_eq_left (Nat.le_of_lt (Xo h0 h))
 rw [ei,VW,WI,hmin]
theorem Qy (neg:Bool) (n:Nat) (h0:0 < n) (h:n < 2 ^ 53):double.read (double.word neg (Ds n))= .number neg (n * 2 ^ (52 - n.log2)) ((n.log2:Int) - 52):=by
 have hl:=I9 h0 h;have hfb:=Kw h0 h;have VW:double.infRung=2047 * 2 ^ 52:=by decide
 have WI:double.binade=2 ^ 52:=by decide
 have XU:double.signWeight=2 ^ 63:=by decide
 have NW:double.leastPlace=-1074:=by decide
 have rh:=Xo h0 h;have hr2:2 ^ 52<=Ds n:=by unfold Ds;omega
 have hdiv:Ds n / 2 ^ 52=n.log2+1023:=by unfold Ds;omega
 have VR:Ds n % 2 ^ 52=n * 2 ^ (52 - n.log2) - 2 ^ 52:=by unfold Ds;omega
 have hw:double.word neg (Ds n) % 2 ^ 63=Ds n:=by
  unfold Format.word;rw [XU];cases neg
  ·simp only [Bool.false_eq_true,if_false];exact Nat.mod_eq_of_lt (by omega)
  ·simp only [if_true];rw [Nat.add_mod_left];exact Nat.mod_eq_of_lt (by omega)
 have hneg:(double.word neg (Ds n) / 2 ^ 63 % 2 == 1)=neg:=by
  unfold Format.word;rw [XU];cases neg
  ·simp only [Bool.false_eq_true,if_false];have:Ds n / 2 ^ 63=0:=Nat.div_eq_of_lt (by omega);rw [this];rfl
  ·simp only [if_true];have:(2 ^ 63+Ds n) / 2 ^ 63=1:=by omega
   rw [this];rfl
 unfold Format.read;simp only [XU,hw,hneg,WI,VW,NW];rw [if_neg (by omega),if_pos rh,hdiv,VR];have a:2 ^ 52+(n * 2 ^ (52 - n.log2) - 2 ^ 52)=n * 2 ^ (52 - n.log2):=by omega
 have b:(-1074:Int)+((n.log2+1023 - 1:Nat):Int)=(n.log2:Int) - 52:=by omega
 rw [a,b]
def fv (n:Nat):Nat:=floatOfInt .f64 (n:Int)
theorem Oi:fv 0=0:=by decide+kernel
theorem Adw (n:Nat) (h0:0 < n) (h:n < 2 ^ 53):fv n=double.word false (Ds n):=by
 have:=Iy false n 0 h0 h;simp only [Nat.pow_zero,Nat.mul_one,Int.ofNat_zero,Int.neg_zero] at this;rw [<-this];have hn:decide ((n:Int) < 0)=false:=by simp
 show double.write (.number (decide ((n:Int) < 0)) (n:Int).natAbs 0)=_;rw [hn,Int.natAbs_natCast];rfl
theorem Lc:double.read 0= .number false 0 (-1074):=by decide+kernel
theorem Im (n:Nat) (h:n < 2 ^ 53):∃ s:Nat,double.read (fv n)= .number false (n * 2 ^ s) (-(s:Int)):=by
 rcases Nat.eq_zero_or_pos n with rfl | h0
 ·obtain⟨s,hs⟩:∃ s:Nat,s=1074:=⟨_,rfl⟩;exact⟨s,by rw [Oi,Lc,Nat.zero_mul,hs];rfl⟩
 ·refine⟨52 - n.log2,?_⟩;have hl:=I9 h0 h;rw [Adw n h0 h,Qy false n h0 h];have b:(n.log2:Int) - 52=-((52 - n.log2:Nat):Int):=by omega
  rw [b]
theorem Ko (n s:Nat) (h:n < 2 ^ 53):double.write (.number false (n * 2 ^ s) (-(s:Int)))=fv n:=by
 rcases Nat.eq_zero_or_pos n with rfl | h0
 ·rw [Nat.zero_mul,Oi];rfl
 ·rw [Adw n h0 h];exact Iy false n s h0 h
theorem Aad (a b:Nat) (ha:a < 2 ^ 53) (hb:b < 2 ^ 53) (h:a * b < 2 ^ 53):floatBits .mul .f64 (fv a) (fv b)=some (fv (a * b)):=by
 obtain⟨s,hs⟩:=Im a ha;obtain⟨t,ht⟩:=Im b hb;show double.mul (fv a) (fv b)=_;unfold Format.mul;rw [hs,ht];show some (double.write (.number (false ^^ false) (a * 2 ^ s * (b * 2 ^ t)) (-(s:Int)+-(t:Int))))=_;have e1:a * 2 ^ s * (b * 2 ^ t)=a * b * 2 ^ (s+t):=by rw [Nat.pow_add];simp only [Nat.mul_assoc,Nat.mul_left_comm]
 have e2:-(s:Int)+-(t:Int)=-((s+t:Nat):Int):=by omega
 rw [e1,e2];exact congrArg some (Ko (a * b) (s+t) h)
theorem Yd (a b s t:Nat):∃ r:Nat,Datum.sum (.number false (a * 2 ^ s) (-(s:Int))) (.number false (b * 2 ^ t) (-(t:Int)))=some (.number false ((a+b) * 2 ^ r) (-(r:Int))):=by
 refine⟨max s t,?_⟩;have hb:min (-(s:Int)) (-(t:Int))=-((max s t:Nat):Int):=by omega
 have e1:(-(s:Int) - -((max s t:Nat):Int)).toNat=max s t - s:=by omega
 have e2:(-(t:Int) - -((max s t:Nat):Int)).toNat=max s t - t:=by omega
 have k1:a * 2 ^ s * 2 ^ (max s t - s)=a * 2 ^ (max s t):=by rw [Nat.mul_assoc,<-Nat.pow_add];congr 2;omega
 have k2:b * 2 ^ t * 2 ^ (max s t - t)=b * 2 ^ (max s t):=by rw [Nat.mul_assoc,<-Nat.pow_add];congr 2;omega
 have tot:signed false (a * 2 ^ s) (max s t - s)+signed false (b * 2 ^ t) (max s t - t)=(((a+b) * 2 ^ (max s t):Nat):Int):=by
  unfold signed;rw [Nat.shiftLeft_eq,Nat.shiftLeft_eq,k1,k2,Nat.add_mul];simp
 unfold Datum.sum;simp only [hb,e1,e2,tot];generalize (a+b) * 2 ^ (max s t)=x;have hn:decide ((x:Int) < 0)=false:=by simp
 rw [hn,Int.natAbs_natCast];split <;> rfl
theorem Afi (a b:Nat) (ha:a < 2 ^ 53) (hb:b < 2 ^ 53) (h:a+b < 2 ^ 53):floatBits .add .f64 (fv a) (fv b)=some (fv (a+b)):=by
 obtain⟨s,hs⟩:=Im a ha;obtain⟨t,ht⟩:=Im b hb;show double.add (fv a) (fv b)=_;unfold Format.add;rw [hs,ht];obtain⟨r,hr⟩:=Yd a b s t;rw [hr];exact congrArg some (Ko (a+b) r h)
theorem Ae4 (n:Nat) (h:n < 2 ^ 53):floatToIntVal .f64 (fv n) .i64=some (n:Int):=by
 obtain⟨s,hs⟩:=Im n h;unfold floatToIntVal;have:(FloatKind.f64.decode (fv n)).toInt .zero=some (n:Int):=by
  show (double.read (fv n)).toInt .zero=_;rw [hs];unfold Datum.toInt Datum.integral;have e1:(-(s:Int)).toNat=0:=by omega
  have e2:(- -(s:Int)).toNat=s:=by omega
  simp only [e1,e2,Nat.shiftLeft_zero];have hc:Toward.zero.cut false (n * 2 ^ s) s=n:=by
   rcases Nat.eq_zero_or_pos n with rfl | h0
   ·unfold Toward.cut;simp
   ·unfold Toward.cut;have hm:min s ((n * 2 ^ s).log2+2)=s:=by rw [Pj n s h0];omega
    rw [hm,Nat.one_shiftLeft];simp [Nat.mul_div_cancel _ (Nat.two_pow_pos s)]
  rw [hc];simp [signed]
 rw [this];have h1:IntKind.i64.min<=(n:Int)/\(n:Int)<=IntKind.i64.max:=by
  have e1:IntKind.i64.min=-9223372036854775808:=by decide
  have e2:IntKind.i64.max=9223372036854775807:=by decide
  rw [e1,e2];omega
 simp only [h1,and_self,if_true]
def Tg (a b:Nat):Nat:=if b<=a then fv (a - b) else double.word true (Ds (b - a))
theorem W5 (a b s t:Nat):∃ r:Nat,Datum.sum (.number false (a * 2 ^ s) (-(s:Int))) (Datum.opposite (.number false (b * 2 ^ t) (-(t:Int))))=some (if b<=a then .number false ((a - b) * 2 ^ r) (-(r:Int)) else .number true ((b - a) * 2 ^ r) (-(r:Int))):=by
 refine⟨max s t,?_⟩;have hb:min (-(s:Int)) (-(t:Int))=-((max s t:Nat):Int):=by omega
 have e1:(-(s:Int) - -((max s t:Nat):Int)).toNat=max s t - s:=by omega
 have e2:(-(t:Int) - -((max s t:Nat):Int)).toNat=max s t - t:=by omega
 have k1:a * 2 ^ s * 2 ^ (max s t - s)=a * 2 ^ (max s t):=by rw [Nat.mul_assoc,<-Nat.pow_add];congr 2;omega
 have k2:b * 2 ^ t * 2 ^ (max s t - t)=b * 2 ^ (max s t):=by rw [Nat.mul_assoc,<-Nat.pow_add];congr 2;omega
 have tot:signed false (a * 2 ^ s) (max s t - s)+signed (!false) (b * 2 ^ t) (max s t - t)=((a * 2 ^ (max s t):Nat):Int) - ((b * 2 ^ (max s t):Nat):Int):=by
  unfold signed;rw [Nat.shiftLeft_eq,Nat.shiftLeft_eq,k1,k2];simp;omega
 unfold Datum.opposite Datum.sum;simp only [hb,e1,e2,tot];have hp:=Nat.two_pow_pos (max s t);by_cases h:b<=a
 ·have hm:b * 2 ^ (max s t)<=a * 2 ^ (max s t):=Nat.mul_le_mul_right _ h;have hx:((a * 2 ^ (max s t):Nat):Int) - ((b * 2 ^ (max s t):Nat):Int)=(((a - b) * 2 ^ (max s t):Nat):Int):=by rw [Nat.sub_mul];omega
  rw [hx,if_pos h];generalize (a - b) * 2 ^ (max s t)=x;have hn:decide ((x:Int) < 0)=false:=by simp
  rw [hn,Int.natAbs_natCast];split <;> rfl
 ·have hm:a * 2 ^ (max s t) < b * 2 ^ (max s t):=Nat.mul_lt_mul_of_pos_right (by omega) hp;have hx:((a * 2 ^ (max s t):Nat):Int) - ((b * 2 ^ (max s t):Nat):Int)=-(((b - a) * 2 ^ (max s t):Nat):Int):=by rw [Nat.sub_mul];omega
  have pm:0 < (b - a) * 2 ^ (max s t):=Nat.mul_pos (by omega) hp;rw [hx,if_neg h];generalize (b - a) * 2 ^ (max s t)=x at pm;have hn:decide (-(x:Int) < 0)=true:=by simp;omega
  rw [hn,Int.natAbs_neg,Int.natAbs_natCast,if_neg (by omega)]
theorem Z5 (a b:Nat) (ha:a < 2 ^ 53) (hb:b < 2 ^ 53):floatBits .sub .f64 (fv a) (fv b)=some (Tg a b):=by
 obtain⟨s,hs⟩:=Im a ha;obtain⟨t,ht⟩:=Im b hb;show double.sub (fv a) (fv b)=_;unfold Format.sub;rw [hs,ht];obtain⟨r,hr⟩:=W5 a b s t;rw [hr];unfold Tg;by_cases h:b<=a
 ·rw [if_pos h,if_pos h];exact congrArg some (Ko (a - b) r (by omega))
 ·rw [if_neg h,if_neg h];exact congrArg some (Iy true (b - a) r (by omega) (by omega))
theorem Yt (m:Nat) (i j:Int) (h:0 < m):Datum.order (.number false m i) (.number false 0 j)=some .gt:=by
 unfold Datum.order signed;simp only [Bool.false_eq_true,if_false,Nat.shiftLeft_eq];have:0 < m * 2 ^ (i - min i j).toNat:=Nat.mul_pos h (Nat.two_pow_pos _);generalize m * 2 ^ (i - min i j).toNat=x at this
 congr 1
 simp only [compare,compareOfLessAndEq];rw [if_neg (by omega),if_neg (by omega)]
theorem Wq (i j:Int):Datum.order (.number false 0 i) (.number false 0 j)=some .eq:=by
 unfold Datum.order signed;simp only [Bool.false_eq_true,if_false,Nat.zero_shiftLeft];rfl
theorem Yu (m:Nat) (i j:Int) (h:0 < m):Datum.order (.number true m i) (.number false 0 j)=some .lt:=by
 unfold Datum.order signed;simp only [Bool.false_eq_true,if_false,if_true,Nat.shiftLeft_eq];have:0 < m * 2 ^ (i - min i j).toNat:=Nat.mul_pos h (Nat.two_pow_pos _);generalize m * 2 ^ (i - min i j).toNat=x at this
 congr 1
 simp only [compare,compareOfLessAndEq];rw [if_pos (by omega)]
theorem Afg (a b:Nat) (ha:a < 2 ^ 53) (h:b < a):FloatKind.f64.format.order (Tg a b) 0=some .gt:=by
 show (double.read (Tg a b)).order (double.read 0)=_;unfold Tg;rw [if_pos (by omega),Lc];obtain⟨s,hs⟩:=Im (a - b) (by omega);rw [hs];exact Yt _ _ _ (Nat.mul_pos (by omega) (Nat.two_pow_pos _))
theorem Afh (a:Nat):FloatKind.f64.format.order (Tg a a) 0=some .eq:=by
 show (double.read (Tg a a)).order (double.read 0)=_;unfold Tg;rw [if_pos (Nat.le_refl _),Nat.sub_self,Oi,Lc];exact Wq _ _
theorem Aff (a b:Nat) (hb:b < 2 ^ 53) (h:a < b):FloatKind.f64.format.order (Tg a b) 0=some .lt:=by
 show (double.read (Tg a b)).order (double.read 0)=_;unfold Tg;rw [if_neg (by omega),Lc,Qy true (b - a) (by omega) (by omega)];exact Yu _ _ _ (Nat.mul_pos (by omega) (Nat.two_pow_pos _))
theorem Aap (a b c d:Nat) (ha:a < 2 ^ 53) (hb:b < 2 ^ 53) (hc:c < 2 ^ 53) (hd:d < 2 ^ 53):cSumBits .sub .f64 (fv a) (fv b) (fv c) (fv d)=some (Tg a c,Tg b d):=by
 unfold cSumBits;rw [Z5 a c ha hc,Z5 b d hb hd];rfl
end Go.Proofs.YtmkpfdcnikgokaaGreat
namespace Go.Proofs.YtmkpfdcnikgokaaGreat
open Go.RowKit
theorem Bf (w:World) (o:Obj):Below w.heap.size w (w.alloc o):=(Below.refl _ _).alloc (Nat.le_refl _) _
theorem Adx (t r:Int) (w:World) (h0:0<=t) (g0:0<=r):
 Calls Tryz.prog 187 #[.agg #[.int .u32 t,.int .u8 r]] w fun e w'=>e= .returned (.complex .f64 (fv t.toNat) (fv r.toNat))/\Below w.heap.size w w':=by
 have e1:=Aa (show floatOfInt .f64 t=fv t.toNat by unfold fv;rw [Int.toNat_of_nonneg h0]);have e2:=Aa (show floatOfInt .f64 r=fv r.toNat by unfold fv;rw [Int.toNat_of_nonneg g0]);go_enter Tryz.func187,Tryz.ntmps187;go_wp2_with fail;go_ret;refine⟨?_,Bf _ _⟩;show Ending.returned (Value.complex .f64 (floatOfInt .f64 t) (floatOfInt .f64 r))=_;rw [e1.out,e2.out]
def lessB (t r t' r':Int):Bool:=decide (t < t'\/t=t'/\r < r')
theorem Qo (w:World) (a b c d:Value) (T T':TypeId):∃ w2,(w.alloc (.cells #[a,b] T)).alloc (.cells #[c,d] T')=w2/\w2.cell? ⟨w.heap.size,0,none⟩=some a/\w2.cell? ⟨w.heap.size,1,none⟩=some b/\w2.cell? ⟨w.heap.size+1,0,none⟩=some c/\w2.cell? ⟨w.heap.size+1,1,none⟩=some d/\w.heap.size+1 < w2.heap.size/\Below w.heap.size w w2:=by
 refine⟨_,rfl,?_,?_,?_,?_,?_,(Bf _ _).trans ((Bf _ _).mono (by simp))⟩
 ·rw [World.cell?_alloc_lt _ _ _ (by simp),World.cell?_alloc_new];rfl
 ·rw [World.cell?_alloc_lt _ _ _ (by simp),World.cell?_alloc_new];rfl
 ·simp
 ·simp
 ·simp
theorem Ue (a b:Int) (h0:0<=a) (h1:a < 4294967296) (g0:0<=b) (g1:b < 4294967296):
 ((FloatKind.f64.format.order (Tg b.toNat a.toNat) 0 == some .gt)=decide (a < b))/\((FloatKind.f64.format.order (Tg b.toNat a.toNat) 0 == some .eq)=decide (a=b)):=by
 rcases Int.lt_trichotomy a b with h | h | h
 ·rw [Afg _ _ (by omega) (by omega)];exact⟨by rw [decide_eq_true h];rfl,by rw [decide_eq_false (by omega)];rfl⟩
 ·subst h;rw [Afh];exact⟨by rw [decide_eq_false (by omega)];rfl,by rw [decide_eq_true rfl];rfl⟩
 ·rw [Aff _ _ (by omega) (by omega)];exact⟨by rw [decide_eq_false (by omega)];rfl,by rw [decide_eq_false (by omega)];rfl⟩
theorem Abk (t r t' r':Int) (w:World) (h0:0<=t) (h1:t < 4294967296) (g0:0<=r) (g1:r < 256) (h0':0<=t') (h1':t' < 4294967296) (g0':0<=r') (g1':r' < 256):
 Calls Tryz.prog 174 #[.agg #[.int .u32 t,.int .u8 r],.agg #[.int .u32 t',.int .u8 r']] w fun e w'=>e= .returned (.bool (lessB t r t' r'))/\Below w.heap.size w w':=by
 obtain⟨c1,c2⟩:=Ue t t' h0 h1 h0' h1';obtain⟨c3,c4⟩:=Ue r r' g0 (by omega) g0' (by omega);have vc:=fun w=>run_complex_sum (P:=Tryz.prog) w .sub (.inr rfl) 174 .f64 _ _ _ _ _ _ (Aap t'.toNat r'.toNat t.toNat r.toNat (by omega) (by omega) (by omega) (by omega));have A1:=Aa (fun w=>Adx t r w h0 g0);have A2:=Aa (fun w=>Adx t' r' w h0' g0');generalize Tg t'.toNat t.toNat=x at c1 c2 vc;generalize Tg r'.toNat r.toNat=y at c3 c4 vc;generalize fv t.toNat=ft at A1 vc;generalize fv r.toNat=fr at A1 vc;generalize fv t'.toNat=ft' at A2 vc;generalize fv r'.toNat=fr' at A2 vc;clear c4 h1 h1' g1 g1' h0 h0' g0 g0';have C1:=Aa c1;have C2:=Aa c2;have C3:=Aa c3;clear c1 c2 c3;obtain⟨w2,fc,k0,k1,k2,k3,cd,ae⟩:=Qo w (.int .u32 t) (.int .u8 r) (.int .u32 t') (.int .u8 r') 46 46;have GA:=Aa fc;clear fc;go_enter Tryz.func174,Tryz.ntmps174;go_wp2_with fail;rw [GA.out];have af:w.heap.size < w2.heap.size:=by omega
 generalize w.heap.size=g at k0 k1 k2 k3 cd af |-;refine Ei (by kernel_rfl) (by kernel_rfl) ?_
 repeat (quiet_step ((first
  | (go_at_call_of 187 (Value.agg #[Value.int .u32 t,Value.int .u8 r]);exact Al (Ag A1 _))
  | (go_at_call_of 187 (Value.agg #[Value.int .u32 t',Value.int .u8 r']);exact Al (Ag A2 _)))))
 refine wpQuiet_nil ?_;intro w3 b8;obtain⟨u,rfl⟩:=b8;have ag:=ae.trans ((Af w2 u).mono ae.size);clear vc k0 k1 k2 k3;rcases Int.lt_trichotomy t t' with h | h | h
 ·have d1:(FloatKind.f64.format.order x 0 == some .gt)=true:=C1.out.trans (decide_eq_true h);have dc:=Aa (show lessB t r t' r'=true from decide_eq_true (.inl h));clear h;go_wp2_with fail;go_ret;exact⟨Ae dc.out.symm,ag⟩
 ·have d1:(FloatKind.f64.format.order x 0 == some .gt)=false:=C1.out.trans (decide_eq_false (by omega));have d2:(FloatKind.f64.format.order x 0 == some .eq)=true:=C2.out.trans (decide_eq_true h);by_cases h2:r < r'
  ·have d3:(FloatKind.f64.format.order y 0 == some .gt)=true:=C3.out.trans (decide_eq_true h2);have dc:=Aa (show lessB t r t' r'=true from decide_eq_true (.inr ⟨h,h2⟩));clear h h2;go_wp2_with fail;go_ret;exact⟨Ae dc.out.symm,ag⟩
  ·have d3:(FloatKind.f64.format.order y 0 == some .gt)=false:=C3.out.trans (decide_eq_false h2);have dc:=Aa (show lessB t r t' r'=false from decide_eq_false (by omega));clear h h2;go_wp2_with fail;go_ret;exact⟨Ae dc.out.symm,ag⟩
 ·have d1:(FloatKind.f64.format.order x 0 == some .gt)=false:=C1.out.trans (decide_eq_false (by omega));have d2:(FloatKind.f64.format.order x 0 == some .eq)=false:=C2.out.trans (decide_eq_false (by omega));have dc:=Aa (show lessB t r t' r'=false from decide_eq_false (by omega));clear h;go_wp2_with fail;go_ret;exact⟨Ae dc.out.symm,ag⟩
theorem Uu (t r t' r':Int) (w:World):
 Calls Tryz.prog 130 #[.agg #[.int .u32 t,.int .u8 r],.agg #[.int .u32 t',.int .u8 r']] w fun e w'=>e= .returned (.bool (lessB t r t' r'))/\Below w.heap.size w w':=by
 obtain⟨w2,fc,-,-,-,-,-,ae⟩:=Qo w (.int .u32 t) (.int .u8 r) (.int .u32 t') (.int .u8 r') 46 46;subst fc;rcases Int.lt_trichotomy t t' with h | h | h
 ·have dc:=Aa (show lessB t r t' r'=true from decide_eq_true (.inl h));go_enter Tryz.func130,Tryz.ntmps130;go_wp2_with fail;go_ret;exact⟨Ae dc.out.symm,ae⟩
 ·subst h;have h1:¬ t < t:=by omega
  by_cases h2:r < r'
  ·have dc:=Aa (show lessB t r t r'=true from decide_eq_true (.inr ⟨rfl,h2⟩));go_enter Tryz.func130,Tryz.ntmps130;go_wp2_with fail;go_ret;exact⟨Ae dc.out.symm,ae⟩
  ·have dc:=Aa (show lessB t r t r'=false from decide_eq_false (by omega));go_enter Tryz.func130,Tryz.ntmps130;go_wp2_with fail;go_ret;exact⟨Ae dc.out.symm,ae⟩
 ·have dc:=Aa (show lessB t r t' r'=false from decide_eq_false (by omega));have h1:¬ t < t':=by omega
  have h2:(t == t')=false:=by simp;omega
  clear h;go_enter Tryz.func130,Tryz.ntmps130;go_wp2_with fail;go_ret;exact⟨Ae dc.out.symm,ae⟩
def Ep (t r:Int):Prop:=1<=t/\t<=1073741824/\r < 8
instance (t r:Int):Decidable (Ep t r):=by unfold Ep;infer_instance
theorem Jn (t r:Int) (w:World) (h:Ep t r):
 Calls Tryz.prog 153 #[.agg #[.int .u32 t,.int .u8 r]] w fun e w'=>e= .returned (.int .i64 0)/\Below w.heap.size w w':=by
 obtain⟨h1,h2,h3⟩:=h;have g1:¬ t < 1:=by omega
 have g2:¬ 1073741824 < t:=by omega
 have g3:¬ 8<=r:=by omega
 clear h1 h2 h3;go_enter Tryz.func153,Tryz.ntmps153;go_wp2_with fail;go_ret;exact⟨rfl,Bf _ _⟩
theorem Lb (t r:Int) (w:World) (h:¬ Ep t r):
 Calls Tryz.prog 153 #[.agg #[.int .u32 t,.int .u8 r]] w fun e w'=>e= .returned (.int .i64 8)/\Below w.heap.size w w':=by
 have hc:t < 1\/(¬ t < 1/\1073741824 < t)\/(¬ t < 1/\¬ 1073741824 < t/\8<=r):=by unfold Ep at h;omega
 clear h;rcases hc with h1 | ⟨h1,h2⟩ | ⟨h1,h2,h3⟩
 all_goals
  go_enter Tryz.func153,Tryz.ntmps153;go_wp2_with fail;go_ret;exact⟨rfl,Bf _ _⟩
theorem Cr (t r:Int) (w:World):
 Calls Tryz.prog 131 #[.agg #[.int .u32 t,.int .u8 r]] w fun e w'=>e= .returned (.bool (decide (Ep t r)))/\Below w.heap.size w w':=by
 by_cases h:Ep t r
 ·have dc:=Aa (decide_eq_true h);obtain⟨h1,h2,h3⟩:=h;go_enter Tryz.func131,Tryz.ntmps131;go_wp2_with fail;go_ret;exact⟨Ae dc.out.symm,Bf _ _⟩
 ·have dc:=Aa (decide_eq_false h);have hc:¬ 1<=t\/(1<=t/\¬ t<=1073741824)\/(1<=t/\t<=1073741824/\¬ r < 8):=by unfold Ep at h;omega
  clear h;rcases hc with h1 | ⟨h1,h2⟩ | ⟨h1,h2,h3⟩
  all_goals
   go_enter Tryz.func131,Tryz.ntmps131;go_wp2_with fail;go_ret;exact⟨Ae dc.out.symm,Bf _ _⟩
def X5 (a:Int×Int):Prop:=0<=a.1/\a.1 < 4294967296/\0<=a.2/\a.2 < 256
theorem Ac {w w':World} {b o:Nat} {u:Value} (hb:Below w.heap.size w w') (ai:b < w.heap.size) (h:w.cell? ⟨b,o,none⟩=some u):w'.cell? ⟨b,o,none⟩=some u:=(hb.cell (p:=⟨b,o,none⟩) ai).trans h
theorem Jl (w:World) (a b:Value) (T:TypeId):∃ w2,w.alloc (.cells #[a,b] T)=w2/\w2.cell? ⟨w.heap.size,0,none⟩=some a/\w2.cell? ⟨w.heap.size,1,none⟩=some b/\w.heap.size < w2.heap.size/\Below w.heap.size w w2:=by
 refine⟨_,rfl,?_,?_,by simp,Bf _ _⟩
 ·rw [World.cell?_alloc_new];rfl
 ·rw [World.cell?_alloc_new];rfl
def Vh (t r:Int):Int:=if Ep t r then 0 else 8
theorem Jo (t r:Int) (w:World):
 Calls Tryz.prog 153 #[.agg #[.int .u32 t,.int .u8 r]] w fun e w'=>e= .returned (.int .i64 (Vh t r))/\Below w.heap.size w w':=by
 unfold Vh;by_cases h:Ep t r
 ·rw [if_pos h];exact Jn t r w h
 ·rw [if_neg h];exact Lb t r w h
end Go.Proofs.YtmkpfdcnikgokaaGreat
namespace Go.Proofs.YtmkpfdcnikgokaaGreat
abbrev Rn:=Int×Int×Int
abbrev Id2:=Int×Int
def R2 (x:Rn):Int:=x.1+x.2.2 - 1
def J6 (x:Rn):Prop:=1<=x.1/\x.1<=1073741824/\x.2.1 < 8/\1<=x.2.2/\x.2.2<=4096/\x.1+x.2.2 - 1<=1073741824
instance (x:Rn):Decidable (J6 x):=by unfold J6;infer_instance
def Lm (x y:Rn):Prop:=x.1+x.2.2 - 1 < y.1/\¬ (y.2.1=x.2.1/\y.1=x.1+x.2.2 - 1+1)
instance (x y:Rn):Decidable (Lm x y):=by unfold Lm;infer_instance
def Ix (x:Rn):List Rn->Prop
 | []=>True
 | y :: l=>J6 y/\Lm x y/\Ix y l
def C9:List Rn->Prop
 | []=>True
 | x :: l=>J6 x/\Ix x l
instance Xd:(x:Rn)->(l:List Rn)->Decidable (Ix x l)
 | _, []=>isTrue trivial
 | x,y :: l=>by unfold Ix;have:=Xd y l;infer_instance
instance (l:List Rn):Decidable (C9 l):=by cases l <;> unfold C9 <;> infer_instance
def Ou (p:List Rn):Int:=p.foldl (fun n x=>n+x.2.2) 0
theorem Ra (p:List Rn) (x:Rn):Ou (p++ [x])=Ou p+x.2.2:=by simp [Ou]
def E9 (p:List Rn):Prop:=1<=p.length/\p.length<=64/\C9 p/\Ou p<=4096
instance (p:List Rn):Decidable (E9 p):=by unfold E9;infer_instance
def Afn (p:List Rn):Prop:=p= []\/E9 p
instance (p:List Rn):Decidable (Afn p):=by unfold Afn;infer_instance
theorem U6 (y:Rn):∀ (l:List Rn) (x:Rn),Ix x (l++ [y])↔Ix x l/\J6 y/\Lm ((x :: l).getLast (by simp)) y:=by
 intro l
 induction l with
 | nil=>intro x;simp [Ix]
 | cons z l ih=>
   intro x;simp only [List.cons_append,Ix,ih z];rw [List.getLast_cons (by simp:z :: l≠ [])];constructor
   ·rintro ⟨a,b,c,d,e⟩;exact⟨⟨a,b,c⟩,d,e⟩
   ·rintro ⟨⟨a,b,c⟩,d,e⟩;exact⟨a,b,c,d,e⟩
theorem Xc (y:Rn):C9 [y]↔J6 y:=by simp [C9,Ix]
theorem U5 {l:List Rn} (h:l≠ []) (y:Rn):C9 (l++ [y])↔C9 l/\J6 y/\Lm (l.getLast h) y:=by
 match l,h with
 | x :: l,_=>
   simp only [List.cons_append,C9,U6];constructor
   ·rintro ⟨a,b,c,d⟩;exact⟨⟨a,b⟩,c,d⟩
   ·rintro ⟨⟨a,b⟩,c,d⟩;exact⟨a,b,c,d⟩
theorem N4 {x:Rn} {l:List Rn} (h:C9 (x :: l)):C9 l:=by
 cases l with
 | nil=>trivial
 | cons y l=>exact⟨h.2.1,h.2.2.2⟩
theorem Eh {l:List Rn} (h:C9 l):∀ x∈l,J6 x:=by
 induction l with
 | nil=>intro x hx;cases hx
 | cons y l ih=>
   intro x hx;rcases List.mem_cons.1 hx with rfl | hx
   ·exact h.1
   ·exact ih (N4 h) x hx
theorem Ql {p q:List Rn} (h:C9 (p++q)):C9 p/\C9 q:=by
 induction p with
 | nil=>exact⟨trivial,h⟩
 | cons x p ih=>
   obtain⟨h1,h2⟩:=ih (N4 h);refine⟨?_,h2⟩
   cases p with
   | nil=>exact⟨h.1,trivial⟩
   | cons y p=>exact⟨h.1,h1.1,h.2.2.1,h1.2⟩
/-! ### the order of stamps' lists -/
/-! ### a place is made of its stamps -/
end Go.Proofs.YtmkpfdcnikgokaaGreat
