/-
  Texts of this claim, put together: Words, Append, LinkMath, Past, PastQ. What each theorem asks stands in its statement.
-/
import Derived.WalkKit
import Derived.WalkSpells
import Derived.WalkLawsBesides
import Derived.Lib.Hide
import Derived.Deep.Draws
import Derived.Laws.BytesArg
import Derived.Deep.QuietTactic
import Derived.BigQuiet
import Derived.Deep.RegionWith
import Derived.Maps.AppendAt
import Derived.Deep.AppendLies
import Derived.Test.YtmkpfdcnikgokaaGreatProg
set_option linter.unusedVariables false
set_option linter.unusedSimpArgs false
set_option maxRecDepth 100000
set_option maxHeartbeats 25600000
namespace Go.Proofs.YtmkpfdcnikgokaaGreat
open Go.RowKit
theorem add_none (b off n:Nat):(⟨b,off,none⟩:Addr).add n=⟨b,off+n,none⟩:=by
 unfold Addr.add
 by_cases h:n=0 <;> simp [h]
/-- The slice with address A and n elements of size cells each reads as the cells xs, all in a block below B. -/
def RD (w:World) (B size:Nat) (A:Option Addr) (n:Nat) (xs:List Value):Prop:=
 xs.length=n * size∧(0 < n→∃ b off,A=some ⟨b,off,none⟩∧b < B∧∀ j u,xs[j]?=some u→w.cell? ⟨b,off+j,none⟩=some u)
section
variable {w w':World} {B B' size n:Nat} {A:Option Addr} {xs:List Value}
theorem RD.nil_:RD w B size A 0 []:=⟨by simp,fun h=>absurd h (by omega)⟩
theorem RD.keep (h:RD w B size A n xs) (hk:∀ p:Addr,p.block < B→w'.cell? p=w.cell? p):RD w' B size A n xs:=
 ⟨h.1,fun hn=>by
   obtain⟨b,off,e,hb,hc⟩:=h.2 hn
   exact⟨b,off,e,hb,fun j u hu=>(hk _ hb).trans (hc j u hu)⟩⟩
theorem RD.more (h:RD w B size A n xs) (hB:B≤B'):RD w B' size A n xs:=
 ⟨h.1,fun hn=>by
   obtain⟨b,off,e,hb,hc⟩:=h.2 hn
   exact⟨b,off,e,by omega,hc⟩⟩
theorem RD.below (h:RD w B size A n xs) (hb:Below B w w'):RD w' B size A n xs:=h.keep fun _ hp=>hb.cell hp
theorem RD.alloc (h:RD w B size A n xs) (hB:B≤w.heap.size) (o:Obj):RD (w.alloc o) B size A n xs:=h.keep fun p hp=>World.cell?_alloc_lt w o p (by omega)
/-- The beginning of a slice. -/
theorem RD.take (h:RD w B size A n xs) {k:Nat} (hk:k≤n):RD w B size A k (xs.take (k * size)):=by
 refine⟨by rw [List.length_take,h.1];exact Nat.min_eq_left (Nat.mul_le_mul_right _ hk),fun hn=>?_⟩
 obtain⟨b,off,e,hb,hc⟩:=h.2 (by omega)
 refine⟨b,off,e,hb,fun j u hu=>hc j u ?_⟩
 rw [List.getElem?_take] at hu
 split at hu
 ·exact hu
 ·cases hu
/-- The rest of a slice, its address as the model writes it. -/
theorem RD.cut (h:RD w B size A n xs) {k cap:Nat} (hk:k≤n) (hc:n≤cap):
 RD w B size (if cap=k then A else A.map (·.add (k * size))) (n - k) (xs.drop (k * size)):=by
 refine⟨by rw [List.length_drop,h.1,Nat.sub_mul],fun hn=>?_⟩
 obtain⟨b,off,rfl,hb,hcell⟩:=h.2 (by omega)
 rw [if_neg (by omega)]
 refine⟨b,off+k * size,by simp [add_none],hb,fun j u hu=>?_⟩
 have:=hcell (k * size+j) u (by rw [←hu,List.getElem?_drop])
 rw [←Nat.add_assoc] at this
 exact this
theorem RD.of_own {base:Nat} {e:TypeId} {c:Nat} (h:w.ownsRow base e size (.slice A n c) n xs):RD w w.heap.size size A n xs:=by
 refine⟨h.1,fun hn=>?_⟩
 obtain⟨g,cap,hv,_,hlt⟩:=h.form hn
 have hA:A=some ⟨g,0,none⟩:=by injection hv
 subst hA
 refine⟨g,0,rfl,hlt,fun j u hu=>?_⟩
 have:=h.cells (g:=g) rfl j u hu
 rw [add_none] at this
 exact this
end
/-- An owned row's value is a slice with just so many elements. -/
theorem own_slice {w:World} {base:Nat} {e:TypeId} {size n:Nat} {v:Value} {xs:List Value} (h:w.ownsRow base e size v n xs):
 ∃ A c,v= .slice A n c∧n≤c∧c≤maxLen∧(n=0∨∃ g,A=some ⟨g,0,none⟩∧base≤g∧g < w.heap.size):=by
 rcases h.2 with⟨rfl,rfl⟩ | ⟨g,cap,cur,rfl,hb,hg,hn,hm,_⟩
 ·exact⟨none,0,rfl,Nat.le_refl _,Nat.zero_le _,.inl rfl⟩
 ·exact⟨_,cap,rfl,hn,hm,.inr ⟨g,rfl,hb,(Array.getElem?_eq_some_iff.1 hg).1⟩⟩
/-- What is owned stays owned in a world in which nothing below its size has turned. -/
theorem own_below {w w':World} {base:Nat} {e:TypeId} {size n:Nat} {v:Value} {xs:List Value} (h:w.ownsRow base e size v n xs) {B:Nat} (hb:Below B w w') (hB:w.heap.size≤B):w'.ownsRow base e size v n xs:=by
 refine⟨h.1,?_⟩
 rcases h.2 with hn | ⟨g,cap,cur,rfl,hbg,hgg,rest⟩
 ·exact .inl hn
 ·exact .inr ⟨g,cap,cur,rfl,hbg,(hb.block g (by have:=(Array.getElem?_eq_some_iff.1 hgg).1;omega)).trans hgg,rest⟩
theorem own_base {w:World} {base base':Nat} {e:TypeId} {size n:Nat} {v:Value} {xs:List Value} (h:w.ownsRow base e size v n xs) (hb:base'≤base):w.ownsRow base' e size v n xs:=by
 refine⟨h.1,?_⟩
 rcases h.2 with hn | ⟨g,cap,cur,rfl,hbg,rest⟩
 ·exact .inl hn
 ·exact .inr ⟨g,cap,cur,rfl,Nat.le_trans hb hbg,rest⟩
/-- Behind an append: the world below the row's base. -/
theorem grown_below {w w1:World} {base:Nat} {e:TypeId} {size n:Nat} {v:Value} {xs:List Value} (h:w.ownsRow base e size v n xs) (hg:w.grownBy w1 v.ownBlock) (hB:base≤w.heap.size):Below base w w1:=
 (Below.refl _ _).grown hg hB (fun k hk=>(h.lt k hk).1)
/-- Bytes as cells. -/
def u8s (l:List UInt8):List Value:=l.map fun b=> .int .u8 (b.toNat:Int)
theorem u8s_len (l:List UInt8):(u8s l).length=l.length:=by simp [u8s]
theorem u8s_append (a b:List UInt8):u8s (a++b)=u8s a++u8s b:=by simp [u8s]
theorem u8s_one (l:List UInt8):∀ u∈u8s l,u.oneCell'=true:=by
 intro u hu
 simp only [u8s,List.mem_map] at hu
 obtain⟨b,_,rfl⟩:=hu
 rfl
theorem u8s_get (l:List UInt8) (i:Nat) (h:i < l.length):(u8s l)[i]?=some (.int .u8 (l[i].toNat:Int)):=by simp [u8s,h]
theorem u8s_take (l:List UInt8) (k:Nat):(u8s l).take k=u8s (l.take k):=by simp [u8s,List.map_take]
theorem u8s_drop (l:List UInt8) (k:Nat):(u8s l).drop k=u8s (l.drop k):=by simp [u8s,List.map_drop]
/-- A slice of bytes that reads as l. -/
def RB (w:World) (B:Nat) (A:Option Addr) (l:List UInt8):Prop:=RD w B 1 A l.length (u8s l)
theorem RB.cell {w:World} {B:Nat} {A:Option Addr} {l:List UInt8} (h:RB w B A l) (hl:0 < l.length):
 ∃ b off,A=some ⟨b,off,none⟩∧b < B∧∀ j (hj:j < l.length),w.cell? ⟨b,off+j,none⟩=some (.int .u8 (l[j].toNat:Int)):=by
 obtain⟨b,off,e,hb,hc⟩:=h.2 hl
 exact⟨b,off,e,hb,fun j hj=>hc j _ (u8s_get l j hj)⟩
section
variable {P:Program}
/-- append(out, x) of one element, out the call's own: the element lies in a new block of its own. -/
theorem wpList_push {w0:World} {cur:Array Value} {e:TypeId} {ops:Array Oper} {rest:List Oper} {o:Oper} {a:Act} {Q:Exit→Act→World→Prop} (hgd:o.guard=none) (s x:Operand) (t:TypeId)
 (ho:o.op= .call { callee:= .builtin .append,args:=#[s,x],argTypes:=#[t,t] })
 (base:Nat) (i:TypeInfo) (z:Value) (size bytes:Nat) (ht:P.underlying t=some (.slice e)) (hi:P.info? e=some i) (hz:i.zero=some z)
 (hsize:i.size=size) (hby:i.bytes=bytes) (hzs:z.cells.size=size) (hsz:0 < size)
 (v:Value) (n:Nat) (xs:List Value) (hs:a.eval s=v) (hown:w0.ownsRow base e size v n xs) (c:Nat)
 (hx:a.eval x= .slice (some ⟨w0.heap.size,0,none⟩) 1 c) (hl:cur.size=size) (h1:cur.toList.all (fun u=>u.oneCell')=true)
 (h63:n < 1073741824) (hbytes:bytes≤65536) (hbase:base≤w0.heap.size)
 (h:∀ v' w',w'.ownsRow base e size v' (n+1) (xs++cur.toList)→Below base w0 w'→wpList P ops Q rest (a.put o.dst v') w'):
 wpList P ops Q (o :: rest) a (w0.alloc (.cells cur e)):=by
 refine wpList_append_own (w:=w0.alloc (.cells cur e)) hgd s x t ho base e i z size bytes ht hi hz hsize hby hzs hsz v n xs hs (hown.alloc _) ⟨w0.heap.size,0,none⟩ 1 c cur.toList hx (by simpa using hl) ?_ ?_
  (by unfold maxLen;omega) ?_ (by simp;omega) ?_
 ·intro j u hu
  rw [add_none,Nat.zero_add,cell_of_row _ _ _ _ _ (0,0) (heap_alloc_new w0 _),←Array.getElem?_toList]
  exact hu
 ·intro u hu
  exact (List.all_eq_true.1 h1) u hu
 ·have:(n+1) * bytes≤(n+1) * 65536:=Nat.mul_le_mul_left _ hbytes
  omega
 ·intro v' w' hown' hg _
  exact h v' w' hown' (((Below.refl base w0).alloc hbase _).trans (grown_below (hown.alloc _) hg (by simp;omega)))
end
section
variable {P:Program}
/-- string(b) of bytes that read as l. -/
theorem conv_bytes {w:World} {B:Nat} {A:Option Addr} {l:List UInt8} (h:RB w B A l) {src dst e:TypeId} (hs:P.underlying src=some (.slice e)) (he:P.underlying e=some (.int .u8)) (hd:P.underlying dst=some .string) (c:Nat):
 (convert src dst (.slice A l.length c)).run P w= .ok (.string ⟨l.toArray⟩) w:=by
 have hm:strOfNums (l.map fun b=>(b.toNat:Int))=⟨l.toArray⟩:=by
  unfold strOfNums
  congr 2
  rw [List.map_map]
  refine (List.map_congr_left (g:=id) (fun b _=>?_)).trans (List.map_id _)
  simp [Function.comp]
 rcases Nat.eq_zero_or_pos l.length with h0 | h0
 ·obtain rfl:=List.eq_nil_of_length_eq_zero h0
  rcases A with _ | ad
  ·exact run_convert_bytes_nil w src e hs he _ c dst hd
  ·rw [run_convert_bytes_string w src dst e _ _ c hs he hd,run_bytesToString w ad _ c [] (by simpa using run_loadCells_list (P:=P) w ad [] (fun j v hj=>by simp at hj))]
   rfl
 ·obtain⟨b,off,rfl,_,hc⟩:=h.cell h0
  rw [←hm]
  exact run_convert_bytes_arg w src e hs he b off l.length c (l.map fun b=>(b.toNat:Int)) (by simp) (fun i hi=>by rw [hc i hi];simp [List.getElem?_eq_getElem hi]) dst hd
end
/-- Two steps behind one another, each of which leaves what was there as it was. -/
theorem fresh {w w1 w2:World} (h1:Below w.heap.size w w1) (h2:Below w1.heap.size w1 w2):Below w.heap.size w w2:=h1.trans (h2.mono h1.size)
theorem ret_bool {b c:Bool} (h:b=c):Ending.returned (.bool b)= .returned (.bool c):=by rw [h]
theorem ret_val {k:IntKind} {a b:Int} (h:a=b):Value.int k a= .int k b:=by rw [h]
theorem ret_int {k:IntKind} {a b:Int} (h:a=b):Ending.returned (.int k a)= .returned (.int k b):=by rw [h]
/-- A scope in which the run jumps back to one label: one walk from the label serves the first pass and every other. -/
theorem wp_scope_goto {P:Program} {a:Act} {w:World} {Q:Exit→Act→World→Prop} {c rest:Code} (l:Nat) (J:Act→World→Prop) (μ:Act→World→Nat) (hf:findLabel c l=some (Code.skip.seq rest))
 (first:∀ K:Exit→Act→World→Prop,(∀ a w,J a w→rest.wp P K a w)→c.wp P K a w)
 (pass:∀ a w,J a w→rest.wp P (Exit.jump l (fun a' w'=>J a' w'∧μ a' w' < μ a w) Q) a w):(Code.scope c).wp P Q a w:=
 wp_scope_jumps l J μ hf (first _ fun a w hJ=>Code.wp_mono (fun e a' w' h=>by
  cases e with
  | goto l'=>exact⟨h.1,h.2.1⟩
  | _=>exact h) (pass a w hJ)) fun a w hJ=>wp_seq (wp_skip (pass a w hJ))
theorem below_drewN {B:Nat} {a w:World} (h:Below B a w) (n:Nat):Below B a (w.drewN n):=⟨h.os,h.tape,h.output,h.size,h.block⟩
theorem hide {p:Prop} (h:p):Hid p:=h
theorem unhide {p:Prop} (h:Hid p):p:=h
section
variable {P:Program} (w:World)
theorem run_append_zero (base:Nat) (t ty e:TypeId) (i:TypeInfo) (size:Nat) (ht:P.underlying t=some (.slice e)) (hi:P.info? e=some i)
 (v:Value) (n:Nat) (xs:List Value) (hown:w.ownsRow base e size v n xs) (c:Nat):(Builtin.append_ #[t,t] ty #[v,.slice none 0 c]).run P w= .ok v w:=by
 rcases hown.2 with⟨rfl,rfl⟩ | ⟨g,cap,cur,rfl,_,_,hnc,_⟩
 ·simp [Builtin.append_,run_underlying ht,sizeOf,typeInfo,hi,Builtin.lenOf,Builtin.firstCells]
 ·simp [Builtin.append_,run_underlying ht,sizeOf,typeInfo,hi,Builtin.lenOf,Builtin.firstCells,hnc,storeCells]
theorem run_append_src (base:Nat) (t ty e:TypeId) (i:TypeInfo) (z:Value) (size bytes:Nat) (ht:P.underlying t=some (.slice e)) (hi:P.info? e=some i) (hz:i.zero=some z)
 (hsize:i.size=size) (hby:i.bytes=bytes) (hzs:z.cells.size=size) (hsz:0 < size)
 (v:Value) (n:Nat) (xs:List Value) (hown:w.ownsRow base e size v n xs)
 (B:Nat) (A:Option Addr) (m c:Nat) (news:List Value) (hr:RD w B size A m news) (h1:∀ u∈news,u.oneCell'=true)
 (h63:n+m≤maxLen) (hbytes:(n+m) * bytes≤140737488355328) (hbase:base≤w.heap.size):
 ∃ v' w',(Builtin.append_ #[t,t] ty #[v,.slice A m c]).run P w= .ok v' w'∧w'.ownsRow base e size v' (n+m) (xs++news)∧w.grownBy w' v.ownBlock:=by
 rcases A with _ | ad
 ·have hm:m=0:=by
   rcases Nat.eq_zero_or_pos m with h0 | h0
   ·exact h0
   ·obtain⟨b,off,h,_⟩:=hr.2 h0
    cases h
  subst hm
  have hn:news= []:=List.eq_nil_of_length_eq_zero (by simpa using hr.1)
  subst hn
  exact⟨v,w,run_append_zero w base t ty e i size ht hi v n xs hown c,by simpa using hown,World.grownBy.refl w _⟩
 ·have hcells:∀ j u,news[j]?=some u→w.cell? (ad.add j)=some u:=by
   intro j u hu
   rcases Nat.eq_zero_or_pos m with h0 | h0
   ·subst h0
    have hn:news= []:=List.eq_nil_of_length_eq_zero (by simpa using hr.1)
    subst hn
    simp at hu
   ·obtain⟨b,off,h,_,hc⟩:=hr.2 h0
    injection h with h
    subst h
    rw [add_none]
    exact hc j u hu
  obtain⟨v',w',hrun,h2,h3,_,_⟩:=run_append_own_at (P:=P) w base t ty e i z size bytes ht hi hz hsize hby hzs hsz v n xs hown ad m c news hr.1 hcells h1 h63 hbytes hbase
  exact⟨v',w',hrun,h2,h3⟩
theorem wp_append_src {o:Oper} {a:Act} {K:Act→World→Prop} {Q:Exit→Act→World→Prop} (s x:Operand) (t:TypeId)
 (ho:o.op= .call { callee:= .builtin .append,args:=#[s,x],argTypes:=#[t,t] })
 (base:Nat) (e:TypeId) (i:TypeInfo) (z:Value) (size bytes:Nat) (ht:P.underlying t=some (.slice e)) (hi:P.info? e=some i) (hz:i.zero=some z)
 (hsize:i.size=size) (hby:i.bytes=bytes) (hzs:z.cells.size=size) (hsz:0 < size)
 (v:Value) (n:Nat) (xs:List Value) (hs:a.eval s=v) (hown:w.ownsRow base e size v n xs)
 (B:Nat) (A:Option Addr) (m c:Nat) (news:List Value) (hx:a.eval x= .slice A m c) (hr:RD w B size A m news) (h1:∀ u∈news,u.oneCell'=true)
 (h63:n+m≤1073741824) (hbytes:bytes≤65536) (hbase:base≤w.heap.size)
 (h:∀ v' w',w'.ownsRow base e size v' (n+m) (xs++news)→Below base w w'→K (a.put o.dst v') w'):o.wp P a w K Q:=by
 have hb':(n+m) * bytes≤140737488355328:=by
  have:(n+m) * bytes≤(n+m) * 65536:=Nat.mul_le_mul_left _ hbytes
  omega
 obtain⟨v',w',hrun,h2,h3⟩:=run_append_src (P:=P) w base t o.type e i z size bytes ht hi hz hsize hby hzs hsz v n xs hown B A m c news hr h1 (by unfold maxLen;omega) hb' hbase
 unfold Oper.wp execOp
 simp only [ho,resolve,invoke,builtin,Sem.run_bind,Sem.run_pure,Result.andThen_ok,List.map_toArray,List.map_cons,List.map_nil,hs,hx,hrun]
 exact h v' w' h2 (grown_below hown h3 hbase)
theorem wpList_append_src {ops:Array Oper} {rest:List Oper} {o:Oper} {a:Act} {Q:Exit→Act→World→Prop} (hgd:o.guard=none) (s x:Operand) (t:TypeId)
 (ho:o.op= .call { callee:= .builtin .append,args:=#[s,x],argTypes:=#[t,t] })
 (base:Nat) (e:TypeId) (i:TypeInfo) (z:Value) (size bytes:Nat) (ht:P.underlying t=some (.slice e)) (hi:P.info? e=some i) (hz:i.zero=some z)
 (hsize:i.size=size) (hby:i.bytes=bytes) (hzs:z.cells.size=size) (hsz:0 < size)
 (v:Value) (n:Nat) (xs:List Value) (hs:a.eval s=v) (hown:w.ownsRow base e size v n xs)
 (B:Nat) (A:Option Addr) (m c:Nat) (news:List Value) (hx:a.eval x= .slice A m c) (hr:RD w B size A m news) (h1:∀ u∈news,u.oneCell'=true)
 (h63:n+m≤1073741824) (hbytes:bytes≤65536) (hbase:base≤w.heap.size)
 (h:∀ v' w',w'.ownsRow base e size v' (n+m) (xs++news)→Below base w w'→wpList P ops Q rest (a.put o.dst v') w'):wpList P ops Q (o :: rest) a w:=
 wpList_plain hgd fun _ hK=>wp_append_src w s x t ho base e i z size bytes ht hi hz hsize hby hzs hsz v n xs hs hown B A m c news hx hr h1 h63 hbytes hbase fun v' w' h2 h3=>hK _ _ (h v' w' h2 h3)
end
/-- '[]T{}' as a row of the call's own. -/
theorem own_empty (w:World) (e:TypeId) (size base:Nat) (hb:base≤w.heap.size):(w.alloc (.cells #[] e)).ownsRow base e size (.slice (some ⟨w.heap.size,0,none⟩) 0 0) 0 []:=
 World.ownsRow_made w #[] 0 hb (Nat.zero_le _) (by simp)
theorem fboxF (w:World) (o:Obj):Below w.heap.size w (w.alloc o):=(Below.refl w.heap.size w).alloc (Nat.le_refl _) o
/-- A frame of a list, as it lies. -/
structure FrL where
 A:Option Addr
 c:Nat
 b:List UInt8
def FrL.cell (x:FrL):Value:= .slice x.A x.b.length x.c
def frs (L:List FrL):List Value:=L.map FrL.cell
theorem frs_len (L:List FrL):(frs L).length=L.length:=by simp [frs]
theorem frs_append (L M:List FrL):frs (L++M)=frs L++frs M:=by simp [frs]
theorem frs_one (L:List FrL):∀ u∈frs L,u.oneCell'=true:=by
 intro u hu
 obtain⟨x,-,rfl⟩:=List.mem_map.1 hu
 rfl
/-- A list of frames that is read. -/
def RF (w:World) (B:Nat) (A:Option Addr) (L:List FrL):Prop:=RD w B 1 A L.length (frs L)∧∀ x∈L,RB w B x.A x.b
theorem RF.below {w w':World} {B:Nat} {A:Option Addr} {L:List FrL} (h:RF w B A L) (hb:Below B w w'):RF w' B A L:=⟨RD.below h.1 hb,fun x hx=>RD.below (h.2 x hx) hb⟩
theorem RF.more {w:World} {B B':Nat} {A:Option Addr} {L:List FrL} (h:RF w B A L) (hB:B≤B'):RF w B' A L:=⟨RD.more h.1 hB,fun x hx=>RD.more (h.2 x hx) hB⟩
theorem RF.cell {w:World} {B:Nat} {A:Option Addr} {L:List FrL} (h:RF w B A L) (hl:0 < L.length):∃ b off,A=some ⟨b,off,none⟩∧b < B∧∀ j (hj:j < L.length),w.cell? ⟨b,off+j,none⟩=some (.slice L[j].A L[j].b.length L[j].c):=by
 obtain⟨b,off,e,hb,hc⟩:=h.1.2 hl
 refine⟨b,off,e,hb,fun j hj=>hc j _ ?_⟩
 simp [frs,hj,FrL.cell]
/-- A list of frames in memory of the call's own. -/
def OF (w:World) (base:Nat) (A:Option Addr) (c:Nat) (L:List FrL):Prop:=
 w.ownsRow base 23 1 (.slice A L.length c) L.length (frs L)∧∀ x∈L,w.ownsRow base 5 1 (.slice x.A x.b.length x.c) x.b.length (u8s x.b)
theorem OF.below {w w':World} {base c:Nat} {A:Option Addr} {L:List FrL} (h:OF w base A c L) (hb:Below w.heap.size w w'):OF w' base A c L:=
 ⟨own_below h.1 hb (Nat.le_refl _),fun x hx=>own_below (h.2 x hx) hb (Nat.le_refl _)⟩
theorem OF.rf {w:World} {base c:Nat} {A:Option Addr} {L:List FrL} (h:OF w base A c L):RF w w.heap.size A L:=
 ⟨RD.of_own h.1,fun x hx=>RD.of_own (h.2 x hx)⟩
theorem OF.nil (w:World) (base:Nat):OF w base none 0 []:=⟨World.ownsRow_nil _ _ _ _,fun x hx=>by cases hx⟩
theorem fr_less {w:World} {base B:Nat} {e:TypeId} {size n:Nat} {v:Value} {L:List Value} (h:w.ownsRow base e size v n L) (hB:B≤base):w.ownsRow B e size v n L:=by
 refine⟨h.1,?_⟩
 rcases h.2 with h0 | ⟨g,cap,cur,h1,h2,h3⟩
 ·exact .inl h0
 ·exact .inr ⟨g,cap,cur,h1,Nat.le_trans hB h2,h3⟩
theorem OF.less {w:World} {base B c:Nat} {A:Option Addr} {L:List FrL} (h:OF w base A c L) (hB:B≤base):OF w B A c L:=⟨fr_less h.1 hB,fun x hx=>fr_less (h.2 x hx) hB⟩
theorem fr_kept {w w':World} {base:Nat} {e e':TypeId} {size n:Nat} {v:Value} {L:List Value} (h:w.ownsRow base e size v n L) (hne:e≠e') (hk:∀ (b:Nat) (o':Obj),w.heap[b]?=some o'→(∀ cur,o'≠ .cells cur e' (0,0))→w'.heap[b]?=some o'):w'.ownsRow base e size v n L:=by
 refine⟨h.1,?_⟩
 rcases h.2 with h0 | ⟨g,cap,cur,h1,h2,h3,h4⟩
 ·exact .inl h0
 ·exact .inr ⟨g,cap,cur,h1,h2,hk g _ h3 (fun cur e=>by simp only [Obj.cells.injEq] at e;exact hne e.2.1),h4⟩
theorem frinfo:(Tryz.prog.info? 23).map (fun i=>(i.zero,i.size,i.bytes))=some (some (.slice none 0 0),1,24):=by kernel_rfl
theorem fru8:(Tryz.prog.info? 5).map (fun i=>(i.zero,i.size,i.bytes))=some (some (.int .u8 0),1,1):=by kernel_rfl
/-- append of frames onto a list of the call's own, the rows that it leaves being said. -/
theorem wpList_append_kept {P:Program} (w:World) {ops:Array Oper} {rest:List Oper} {o:Oper} {a:Act} {Q:Exit→Act→World→Prop} (hgd:o.guard=none) (s x:Operand) (t:TypeId)
 (ho:o.op= .call { callee:= .builtin .append,args:=#[s,x],argTypes:=#[t,t] })
 (base:Nat) (e:TypeId) (i:TypeInfo) (z:Value) (size bytes:Nat) (ht:P.underlying t=some (.slice e)) (hi:P.info? e=some i) (hz:i.zero=some z)
 (hsize:i.size=size) (hby:i.bytes=bytes) (hzs:z.cells.size=size) (hsz:0 < size)
 (v:Value) (n:Nat) (xs:List Value) (hs:a.eval s=v) (hown:w.ownsRow base e size v n xs)
 (B:Nat) (A:Option Addr) (m c:Nat) (news:List Value) (hx:a.eval x= .slice A m c) (hr:RD w B size A m news) (h1:∀ u∈news,u.oneCell'=true)
 (h63:n+m≤1073741824) (hbytes:bytes≤65536) (hbase:base≤w.heap.size)
 (h:∀ v' w',w'.ownsRow base e size v' (n+m) (xs++news)→Below base w w'→(∀ (b:Nat) (o':Obj),w.heap[b]?=some o'→(∀ cur,o'≠ .cells cur e (0,0))→w'.heap[b]?=some o')→wpList P ops Q rest (a.put o.dst v') w'):wpList P ops Q (o :: rest) a w:=by
 refine wpList_plain hgd fun K hK=>?_
 have hb':(n+m) * bytes≤140737488355328:=by
  have:(n+m) * bytes≤(n+m) * 65536:=Nat.mul_le_mul_left _ hbytes
  omega
 obtain⟨v',w',hrun,h2,h3⟩:=run_append_src (P:=P) w base t o.type e i z size bytes ht hi hz hsize hby hzs hsz v n xs hown B A m c news hr h1 (by unfold maxLen;omega) hb' hbase
 have hkeep:∀ (b:Nat) (o':Obj),w.heap[b]?=some o'→(∀ cur,o'≠ .cells cur e (0,0))→w'.heap[b]?=some o':=by
  intro b o' hb hne
  obtain⟨-,-,-,-,hk⟩:=h3
  rw [hk b (Array.getElem?_eq_some_iff.1 hb).1 ?_]
  ·exact hb
  ·rcases hown.2 with⟨rfl,_⟩ | ⟨g,cap,cur,rfl,_,hg,_⟩
   ·intro e1;cases e1
   ·intro e1
    simp only [Value.ownBlock,Option.some.injEq] at e1
    subst e1
    rw [hg] at hb
    exact hne cur (Option.some.inj hb).symm
 unfold Oper.wp execOp
 simp only [ho,resolve,invoke,builtin,Sem.run_bind,Sem.run_pure,Result.andThen_ok,List.map_toArray,List.map_cons,List.map_nil,hs,hx,hrun]
 exact hK _ _ (h v' w' h2 (grown_below hown h3 hbase) hkeep)
/-- append of one frame of the call's own. -/
theorem wpList_append_fr (w:World) {ops:Array Oper} {rest:List Oper} {o:Oper} {a:Act} {Q:Exit→Act→World→Prop} (hgd:o.guard=none) (s x:Operand)
 (ho:o.op= .call { callee:= .builtin .append,args:=#[s,x],argTypes:=#[22,22] })
 (base:Nat) (A:Option Addr) (c n:Nat) (L:List FrL) (hn:L.length=n) (hs:a.eval s= .slice A n c) (hO:OF w base A c L)
 (y:FrL) (hy:w.ownsRow base 5 1 (.slice y.A y.b.length y.c) y.b.length (u8s y.b)) (B:Option Addr) (hx:a.eval x= .slice B 1 1) (hr:RD w w.heap.size 1 B 1 [y.cell])
 (h63:n+1≤1073741824) (hbase:base≤w.heap.size)
 (h:∀ A' c' w',OF w' base A' c' (L++ [y])→Below base w w'→wpList Tryz.prog ops Q rest (a.put o.dst (.slice A' (n+1) c')) w'):wpList Tryz.prog ops Q (o :: rest) a w:=by
 obtain⟨i0,hi0,hz0,hz1,hz2⟩:=info_parts frinfo
 subst hn
 refine wpList_append_kept w hgd s x 22 ho base 23 i0 (.slice none 0 0) 1 24 Tryz.underlying22 hi0 hz0 hz1 hz2 rfl (by decide) _ L.length (frs L) hs hO.1 w.heap.size B 1 1 [y.cell] hx hr (frs_one [y]) h63 (by decide) hbase fun v' w' h1 h2 h3=>?_
 obtain⟨A',c',rfl,-,-,-⟩:=own_slice h1
 refine h A' c' w' ⟨?_,fun q hq=>?_⟩ h2
 ·rw [frs_append,List.length_append,List.length_singleton]
  exact h1
 ·rcases List.mem_append.1 hq with hq | hq
  ·exact fr_kept (hO.2 q hq) (by decide) h3
  ·simp only [List.mem_singleton] at hq
   subst hq
   exact fr_kept hy (by decide) h3
theorem fr_row (w:World) (y:FrL):RD (w.alloc (.cells #[.slice y.A y.b.length y.c] 23)) (w.alloc (.cells #[.slice y.A y.b.length y.c] 23)).heap.size 1 (some ⟨w.heap.size,0,none⟩) 1 [y.cell]:=by
 refine⟨rfl,fun _=>⟨_,_,rfl,by rw [World.size_alloc];omega,fun j u hu=>?_⟩⟩
 rw [Nat.zero_add,World.cell?_alloc_new,←Array.getElem?_toList]
 exact hu
/-- A world in which all that w holds stands as it does in w. -/
noncomputable def past (w W:World):World:=@ite World (Below w.heap.size w W) (Classical.propDecidable _) W w
theorem below_past (w W:World):Below w.heap.size w (past w W):=by
 unfold past
 by_cases h:Below w.heap.size w W
 ·rw [if_pos h];exact h
 ·rw [if_neg h];exact Below.refl _ _
theorem past_of {w W:World} (h:Below w.heap.size w W):W=past w W:=by unfold past;rw [if_pos h]
@[go_sem] theorem cell?_past (w W:World) (a:Addr) (h:a.block < w.heap.size):(past w W).cell? a=w.cell? a:=(below_past w W).cell h
@[go_sem] theorem frozen?_past (w W:World) (a:Addr) (h:a.block < w.heap.size):(past w W).frozen? a=w.frozen? a:=(below_past w W).frozen h
/-- A callee's contract met in such a world. -/
theorem past_call {P:Program} {f:FuncId} {args:Array Value} {w W:World} {v:Value}
 (h:Calls P f args (past w W) fun e w'=>e= .returned v∧Below (past w W).heap.size (past w W) w'):Calls P f args (past w W) fun e w'=>e= .returned v∧∃ u,w'=past w u:=
 h.mono fun _ w' ⟨he,hb⟩=>⟨he,w',past_of ((below_past w W).trans (hb.mono (below_past w W).size))⟩
/-- The region, its operations written out. -/
theorem wp_region_past {P:Program} {id:Nat} {Q:Exit→Act→World→Prop} {a:Act} {w:World} {l:List Oper} (hm:P.follows .mixedOrders=true) (hB:Region.lexB .any l.toArray=true)
 (h:wpQuiet P l.toArray (fun w'=>∃ u,w'=past w u) (fun a'=>∀ w',(∃ u,w'=past w u)→Q .normal a' w') l a):(Code.region id l.toArray true).wp P Q a w:=
 wp_region_quiet (C:=fun w'=>∃ u,w'=past w u) hm hB ⟨w.drew,past_of (Below.refl _ _).drew⟩ (by simpa using h)
/-- The kit's lexical walk, in a box. -/
structure WQ (P:Program) (ops:Array Oper) (C:World→Prop) (Q:Act→Prop) (l:List Oper) (a:Act):Prop where
 out:wpQuiet P ops C Q l a
theorem WQ.step {P:Program} {ops:Array Oper} {C:World→Prop} {Q:Act→Prop} {a:Act} {o:Oper} {rest:List Oper}
 (h:∀ K:Act→Prop,(∀ a,WQ P ops C Q rest a→K a)→if Region.wanted o (yielded ops a.tmps) then o.quiet P a C K else K (a.put o.dst undef)):WQ P ops C Q (o :: rest) a:=
 ⟨wpQuiet_step fun K hK=>h K fun a ha=>hK a ha.out⟩
theorem WQ.nil {P:Program} {ops:Array Oper} {C:World→Prop} {Q:Act→Prop} {a:Act} (h:Q a):WQ P ops C Q [] a:=⟨wpQuiet_nil h⟩
/-- The region, its operations written out. -/
theorem wp_region_wq {P:Program} {id:Nat} {Q:Exit→Act→World→Prop} {a:Act} {w:World} {l:List Oper} (hm:P.follows .mixedOrders=true) (hB:Region.lexB .any l.toArray=true)
 (h:WQ P l.toArray (fun w'=>∃ u,w'=past w u) (fun a'=>∀ u,Q .normal a' (past w u)) l a):(Code.region id l.toArray true).wp P Q a w:=by
 refine wp_region_past hm hB ?_
 have:=h.out
 simpa only [forall_exists_index,forall_eq_apply_imp_iff] using this
end Go.Proofs.YtmkpfdcnikgokaaGreat
