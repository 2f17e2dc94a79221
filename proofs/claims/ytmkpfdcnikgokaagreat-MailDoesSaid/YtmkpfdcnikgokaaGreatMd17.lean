/-
  Texts of this claim, put together: MailCheck, FbErr. What each theorem asks stands in its statement.
-/
import Derived.Test.YtmkpfdcnikgokaaGreatMd4
import Derived.Test.YtmkpfdcnikgokaaGreatMd8
import Derived.Test.YtmkpfdcnikgokaaGreatMd16
set_option linter.unusedVariables false
set_option linter.unusedSimpArgs false
set_option maxRecDepth 100000
set_option maxHeartbeats 25600000
namespace Go.Proofs.YtmkpfdcnikgokaaGreat
open Go.RowKit
structure MP where
 k:Int
 t:Int
 r:Int
 ix:Int
 I:List PT
 O:List Lg
 W:List WP
structure Av where
 k:Int
 t:Int
 r:Int
 ix:Int
 iA:Option Addr
 ic:Nat
 i:List Aq
 oA:Option Addr
 oc:Nat
 o:List Bj
 sA:Option Addr
 sc:Nat
 s:List Ay
def Av.mp (x:Av):MP:=⟨x.k,x.t,x.r,x.ix,x.i.map Aq.pt,x.o.map Bj.op,x.s.map Ay.wp⟩
def Av.val (x:Av):Value:=Ci x.k x.t x.r x.ix (.slice x.iA x.i.length x.ic) (.slice x.oA x.o.length x.oc) (.slice x.sA x.s.length x.sc)
def RM (w:World) (B:Nat) (x:Av):Prop:=RT w B x.iA x.i/\RO w B x.oA x.o/\RW w B x.sA x.s
theorem RM.below {w w':World} {B:Nat} {x:Av} (h:RM w B x) (hb:Below B w w'):RM w' B x:=⟨h.1.below hb,h.2.1.below hb,h.2.2.below hb⟩
theorem RM.more {w:World} {B B':Nat} {x:Av} (h:RM w B x) (hB:B<=B'):RM w B' x:=⟨h.1.more hB,h.2.1.more hB,h.2.2.more hB⟩
def Gm (x:Av):Prop:=(0<=x.t/\x.t < 4294967296/\0<=x.r/\x.r<=255)/\((∀ y∈x.i,M1 y)/\(∀ y∈x.o,Zs y)/\∀ y∈x.s,N5 y)/\x.i.length < 1073741824/\x.o.length < 1073741824/\x.s.length < 1073741824
def WP.hp (x:WP):List PT:=x.H
def Rz (x y:MP):Prop:=x.k=y.k/\x.t=y.t/\x.r=y.r/\x.ix=y.ix/\x.I=y.I/\x.O=y.O/\x.W.map WP.en=y.W.map WP.en/\x.W.map WP.hp=y.W.map WP.hp
instance (x y:MP):Decidable (Rz x y):=by unfold Rz;infer_instance
theorem Adt (L:List Ay):(L.map Ay.wp).map WP.en=L.map Ay.en:=by rw [List.map_map];rfl
theorem Ads (L:List Ay):(L.map Ay.wp).map WP.hp=L.map Ay.hp:=by rw [List.map_map];rfl
theorem Ni (x y:Av) (w:World) (hx:RM w w.heap.size x) (hy:RM w w.heap.size y) (ox:Gm x) (oy:Gm y):
 Calls Tryz.prog 29 #[x.val,y.val] w fun e w'=>e= .returned (.bool (decide (Rz x.mp y.mp)))/\Below w.heap.size w w':=by
 obtain⟨k,t,r,ix,iA,ic,i,oA,oc,o,sA,sc,s⟩:=x;obtain⟨k',t',r',vs,ef,ee,i',ji,jh,o',dz,ec,s'⟩:=y;have up:∀ W,Below w.heap.size w W->RM W W.heap.size ⟨k,t,r,ix,iA,ic,i,oA,oc,o,sA,sc,s⟩/\RM W W.heap.size ⟨k',t',r',vs,ef,ee,i',ji,jh,o',dz,ec,s'⟩:=fun W hb=>⟨(hx.below hb).more hb.size,(hy.below hb).more hb.size⟩;have lo:∀ x∈o,x.p.length < 1073741824:=fun x hx=>(ox.2.1.2.1 x hx).2.2.2;have lo':∀ x∈o',x.p.length < 1073741824:=fun x hx=>(oy.2.1.2.1 x hx).2.2.2;have c4:∀ W,Below w.heap.size w W->_:=fun W hb=>Lx iA ef ic ee _ _ i i' W (up W hb).1.1 (up W hb).2.1 rfl rfl ox.2.2.1 ox.2.1.1;have c5:∀ W,Below w.heap.size w W->_:=fun W hb=>Aa4 oA ji oc jh _ _ o o' W (up W hb).1.2.1 (up W hb).2.2.1 rfl rfl ox.2.2.2.1 lo lo';have c7:∀ W,Below w.heap.size w W->_:=fun W hb=>Aak sA dz sc ec _ _ s s' W (up W hb).1.2.2 (up W hb).2.2.2 rfl rfl ox.2.2.2.2 ox.2.1.2.2;have ce:∀ W,Below w.heap.size w W->Calls Tryz.prog 77 #[.slice sA s.length sc] W fun e w'=>∃ A c,e= .returned (.slice A (List.length (α:=Ay) s) c)/\RE w' w'.heap.size A s/\Below W.heap.size W w':=fun W hb=>Kx sA s.length sc s W (up W hb).1.2.2 rfl ox.2.2.2.2;have cf:∀ W,Below w.heap.size w W->Calls Tryz.prog 77 #[.slice dz s'.length ec] W fun e w'=>∃ A c,e= .returned (.slice A (List.length (α:=Ay) s') c)/\RE w' w'.heap.size A s'/\Below W.heap.size W w':=fun W hb=>Kx dz s'.length ec s' W (up W hb).2.2.2 rfl oy.2.2.2.2;have c6:∀ W (B B':Option Addr) (d d':Nat),RE W W.heap.size B s->RE W W.heap.size B' s'->_:=fun W B B' d d' h h'=>W3 B B' d d' _ _ s s' W h h' rfl rfl ox.2.2.2.2 ox.2.1.2.2
 have fin:∀ b:Bool,decide (Rz (Av.mp ⟨k,t,r,ix,iA,ic,i,oA,oc,o,sA,sc,s⟩) (Av.mp ⟨k',t',r',vs,ef,ee,i',ji,jh,o',dz,ec,s'⟩))=b->
  Calls Tryz.prog 29 #[Ci k t r ix (.slice iA i.length ic) (.slice oA o.length oc) (.slice sA s.length sc),Ci k' t' r' vs (.slice ef i'.length ee) (.slice ji o'.length jh) (.slice dz s'.length ec)] w (fun e w'=>e= .returned (.bool b)/\Below w.heap.size w w')->
  Calls Tryz.prog 29 #[Av.val ⟨k,t,r,ix,iA,ic,i,oA,oc,o,sA,sc,s⟩,Av.val ⟨k',t',r',vs,ef,ee,i',ji,jh,o',dz,ec,s'⟩] w fun e w'=>e= .returned (.bool (decide (Rz (Av.mp ⟨k,t,r,ix,iA,ic,i,oA,oc,o,sA,sc,s⟩) (Av.mp ⟨k',t',r',vs,ef,ee,i',ji,jh,o',dz,ec,s'⟩))))/\Below w.heap.size w w':=by
  intro b hb h;rw [hb];exact h
 by_cases h1:k=k'/\t=t'/\r=r'/\ix=vs;rotate_left
 ·exact fin false (decide_eq_false fun h=>h1 ⟨h.1,h.2.1,h.2.2.1,h.2.2.2.1⟩) (by apply Acy;exact h1)
 obtain⟨rfl,rfl,rfl,rfl⟩:=h1;by_cases h5:i.map Aq.pt=i'.map Aq.pt;rotate_left
 ·rw [decide_eq_false h5] at c4;exact fin false (decide_eq_false fun h=>h5 h.2.2.2.2.1) (by apply Acx;exact c4)
 rw [decide_eq_true h5] at c4;by_cases h6:o.map Bj.op=o'.map Bj.op;rotate_left
 ·rw [decide_eq_false h6] at c5;exact fin false (decide_eq_false fun h=>h6 h.2.2.2.2.2.1) (by apply Acw;exact c4;exact c5)
 rw [decide_eq_true h6] at c5;by_cases h7:s.map Ay.en=s'.map Ay.en;rotate_left
 ·rw [decide_eq_false h7] at c6;exact fin false (decide_eq_false fun h=>h7 (by have:=h.2.2.2.2.2.2.1;simp only [Av.mp,Adt] at this;exact this)) (by apply Acu (L:=s) (L':=s');exact c4;exact c5;exact ce;exact cf;exact c6)
 rw [decide_eq_true h7] at c6;refine fin (decide (s.map Ay.hp=s'.map Ay.hp)) ?_ (by apply Acv (L:=s) (L':=s');exact c4;exact c5;exact ce;exact cf;exact c6;exact c7);refine decide_eq_decide.2 ⟨fun h=>?_,fun h=>⟨rfl,rfl,rfl,rfl,h5,h6,?_,?_⟩⟩
 ·have:=h.2.2.2.2.2.2.2;simp only [Av.mp,Ads] at this;exact this
 ·simp only [Av.mp,Adt];exact h7
 ·simp only [Av.mp,Ads];exact h
def Xh (x:Av):Av:=
 if x.k=1\/x.k=4 then ⟨x.k,0,0,0,none,0, [],x.oA,x.oc,x.o,none,0, []⟩
 else if x.k=2 then ⟨x.k,0,0,0,x.iA,x.ic,x.i,none,0, [],none,0, []⟩
 else if x.k=3 then ⟨x.k,0,0,0,x.iA,x.ic,x.i,none,0, [],x.sA,x.sc,x.s⟩
 else if x.k=5 then ⟨x.k,x.t,x.r,0,x.iA,x.ic,x.i,none,0, [],none,0, []⟩
 else if x.k=6 then ⟨x.k,x.t,x.r,x.ix,none,0, [],x.oA,x.oc,x.o,none,0, []⟩
 else ⟨x.k,0,0,0,none,0, [],none,0, [],none,0, []⟩
def Rw (x:MP):MP:=
 if x.k=1\/x.k=4 then ⟨x.k,0,0,0, [],x.O, []⟩
 else if x.k=2 then ⟨x.k,0,0,0,x.I, [], []⟩
 else if x.k=3 then ⟨x.k,0,0,0,x.I, [],x.W⟩
 else if x.k=5 then ⟨x.k,x.t,x.r,0,x.I, [], []⟩
 else if x.k=6 then ⟨x.k,x.t,x.r,x.ix, [],x.O, []⟩
 else ⟨x.k,0,0,0, [], [], []⟩
def L9 (m:MP):Prop:=(m.k=1\/m.k=4)/\Dp m.O 64\/m.k=2/\D9 m.I\/m.k=3/\D9 m.I/\Cy m.W\/m.k=5/\Fb m.t m.r/\D9 m.I\/m.k=6/\Fb m.t m.r/\0<=m.ix/\m.ix < 128/\Dp m.O 8
instance (m:MP):Decidable (L9 m):=by unfold L9;infer_instance
theorem Aer (x:Av):(Xh x).mp=Rw x.mp:=by
 unfold Xh Rw;simp only [Av.mp]
 repeat' split
 all_goals first | rfl | (simp_all;done) | omega
theorem Aep {w:World} {B:Nat} {x:Av} (h:RM w B x):RM w B (Xh x):=by
 unfold Xh;have n1:RT w B none []:=⟨RD.nil_,fun y hy=>by cases hy⟩;have n2:RO w B none []:=⟨RD.nil_,fun y hy=>by cases hy⟩;have n3:=RW.nil w B none
 repeat' split
 ·exact⟨n1,h.2.1,n3⟩
 ·exact⟨h.1,n2,n3⟩
 ·exact⟨h.1,n2,h.2.2⟩
 ·exact⟨h.1,n2,n3⟩
 ·exact⟨n1,h.2.1,n3⟩
 ·exact⟨n1,n2,n3⟩
theorem Aeq {x:Av} (h:Gm x):Gm (Xh x):=by
 obtain⟨h1,⟨h2,h3,h4⟩,h5,h6,h7⟩:=h;unfold Xh;have z:(0:Int)<=0/\(0:Int) < 4294967296/\(0:Int)<=0/\(0:Int)<=255:=by decide
 have zz:(0:Nat) < 1073741824:=by decide
 repeat' split
 ·exact⟨z,⟨fun y hy=>(by cases hy),h3,fun y hy=>(by cases hy)⟩,zz,h6,zz⟩
 ·exact⟨z,⟨h2,fun y hy=>(by cases hy),fun y hy=>(by cases hy)⟩,h5,zz,zz⟩
 ·exact⟨z,⟨h2,fun y hy=>(by cases hy),h4⟩,h5,zz,h7⟩
 ·exact⟨h1,⟨h2,fun y hy=>(by cases hy),fun y hy=>(by cases hy)⟩,h5,zz,zz⟩
 ·exact⟨h1,⟨fun y hy=>(by cases hy),h3,fun y hy=>(by cases hy)⟩,zz,h6,zz⟩
 ·exact⟨z,⟨fun y hy=>(by cases hy),fun y hy=>(by cases hy),fun y hy=>(by cases hy)⟩,zz,zz,zz⟩
theorem Yr (x:Av) (w:World) (hx:RM w w.heap.size x) (ox:Gm x):
 Calls Tryz.prog 72 #[x.val] w fun e w'=>e= .returned (.tuple #[(Xh x).val,.bool (decide (L9 x.mp))])/\Below w.heap.size w w':=by
 obtain⟨k,t,r,ix,iA,ic,i,oA,oc,o,sA,sc,s⟩:=x;have up:∀ W,Below w.heap.size w W->RM W W.heap.size ⟨k,t,r,ix,iA,ic,i,oA,oc,o,sA,sc,s⟩:=fun W hb=>(hx.below hb).more hb.size;have co:∀ m,∀ W,Below w.heap.size w W->_:=fun m W hb=>Aar oA _ oc o m W (up W hb).2.1 rfl ox.2.2.2.1 ox.2.1.2.1;have ci:∀ W,Below w.heap.size w W->_:=fun W hb=>Xx iA _ ic i W (up W hb).1 rfl ox.2.1.1 ox.2.2.1;have cw:∀ W,Below w.heap.size w W->_:=fun W hb=>Yc sA _ sc s W (up W hb).2.2 rfl ox.2.2.2.2 ox.2.1.2.2;have cs:∀ W,Below w.heap.size w W->_:=fun W _=>Ul t r W;by_cases jd:k=1\/k=4
 ·refine (Yp k jd t r ix iA oA sA _ ic _ oc _ sc _ w (co 64)).mono ?_;rintro e w' ⟨rfl,hb⟩;refine⟨?_,hb⟩;have e1:Xh ⟨k,t,r,ix,iA,ic,i,oA,oc,o,sA,sc,s⟩=⟨k,0,0,0,none,0, [],oA,oc,o,none,0, []⟩:=if_pos jd
  have e2:decide (L9 (Av.mp ⟨k,t,r,ix,iA,ic,i,oA,oc,o,sA,sc,s⟩))=decide (Dp (o.map Bj.op) 64):=decide_eq_decide.2 (by
   unfold L9
   simp only [Av.mp]
   constructor
   ·rintro (h | h | h | h | h)
    ·exact h.2
    all_goals (exfalso;omega)
   ·intro h;exact .inl ⟨jd,h⟩)
  rw [e1,e2];rfl
 have n1:¬ k=1:=fun h=>jd (.inl h);have n4:¬ k=4:=fun h=>jd (.inr h);by_cases h2:k=2
 ·refine (Yq k h2 t r ix iA oA sA _ ic _ oc _ sc _ w ci).mono ?_;rintro e w' ⟨rfl,hb⟩;refine⟨?_,hb⟩;have e1:Xh ⟨k,t,r,ix,iA,ic,i,oA,oc,o,sA,sc,s⟩=⟨k,0,0,0,iA,ic,i,none,0, [],none,0, []⟩:=(if_neg jd).trans (if_pos h2)
  have e2:decide (L9 (Av.mp ⟨k,t,r,ix,iA,ic,i,oA,oc,o,sA,sc,s⟩))=decide (D9 (i.map Aq.pt)):=decide_eq_decide.2 (by
   unfold L9
   simp only [Av.mp]
   constructor
   ·rintro (h | h | h | h | h)
    ·exact absurd h.1 jd
    ·exact h.2
    all_goals (exfalso;omega)
   ·intro h;exact .inr (.inl ⟨h2,h⟩))
  rw [e1,e2];rfl
 by_cases h3:k=3
 ·refine (Wm k h3 t r ix iA oA sA _ ic _ oc _ sc _ _ w ci cw).mono ?_;rintro e w' ⟨rfl,hb⟩;refine⟨?_,hb⟩;have e1:Xh ⟨k,t,r,ix,iA,ic,i,oA,oc,o,sA,sc,s⟩=⟨k,0,0,0,iA,ic,i,none,0, [],sA,sc,s⟩:=(if_neg jd).trans ((if_neg h2).trans (if_pos h3));have e2:decide (L9 (Av.mp ⟨k,t,r,ix,iA,ic,i,oA,oc,o,sA,sc,s⟩))=(decide (D9 (i.map Aq.pt)) && decide (Cy (s.map Ay.wp))):=by
   rw [<-Bool.decide_and];refine decide_eq_decide.2 ?_;unfold L9;simp only [Av.mp];constructor
   ·rintro (h | h | h | h | h)
    ·exact absurd h.1 jd
    ·exact absurd h.1 h2
    ·exact h.2
    all_goals (exfalso;omega)
   ·intro h;exact .inr (.inr (.inl ⟨h3,h⟩))
  rw [e1,e2];rfl
 by_cases h5:k=5
 ·refine (P8 k h5 t r ix iA oA sA _ ic _ oc _ sc _ _ w cs ci).mono ?_;rintro e w' ⟨rfl,hb⟩;refine⟨?_,hb⟩;have e1:Xh ⟨k,t,r,ix,iA,ic,i,oA,oc,o,sA,sc,s⟩=⟨k,t,r,0,iA,ic,i,none,0, [],none,0, []⟩:=(if_neg jd).trans ((if_neg h2).trans ((if_neg h3).trans (if_pos h5)));have e2:decide (L9 (Av.mp ⟨k,t,r,ix,iA,ic,i,oA,oc,o,sA,sc,s⟩))=(decide (Fb t r) && decide (D9 (i.map Aq.pt))):=by
   rw [<-Bool.decide_and];refine decide_eq_decide.2 ?_;unfold L9;simp only [Av.mp];constructor
   ·rintro (h | h | h | h | h)
    ·exact absurd h.1 jd
    ·exact absurd h.1 h2
    ·exact absurd h.1 h3
    ·exact h.2
    all_goals (exfalso;omega)
   ·intro h;exact .inr (.inr (.inr (.inl ⟨h5,h⟩)))
  rw [e1,e2];rfl
 by_cases h6:k=6
 ·refine (Uz k h6 t r ix iA oA sA _ ic _ oc _ sc _ _ w cs (co 8)).mono ?_;rintro e w' ⟨rfl,hb⟩;refine⟨?_,hb⟩;have e1:Xh ⟨k,t,r,ix,iA,ic,i,oA,oc,o,sA,sc,s⟩=⟨k,t,r,ix,none,0, [],oA,oc,o,none,0, []⟩:=(if_neg jd).trans ((if_neg h2).trans ((if_neg h3).trans ((if_neg h5).trans (if_pos h6))));have e2:decide (L9 (Av.mp ⟨k,t,r,ix,iA,ic,i,oA,oc,o,sA,sc,s⟩))=(decide (Fb t r) && (decide (0<=ix) && (decide (ix < 128) && decide (Dp (o.map Bj.op) 8)))):=by
   rw [<-Bool.decide_and,<-Bool.decide_and,<-Bool.decide_and];refine decide_eq_decide.2 ?_;unfold L9;simp only [Av.mp];constructor
   ·rintro (h | h | h | h | h)
    ·exact absurd h.1 jd
    ·exact absurd h.1 h2
    ·exact absurd h.1 h3
    ·exact absurd h.1 h5
    ·exact h.2
   ·intro h;exact .inr (.inr (.inr (.inr ⟨h6,h⟩)))
  rw [e1,e2];rfl
 ·refine (Wn k ⟨n1,n4,h2,h3,h5,h6⟩ t r ix iA oA sA _ ic _ oc _ sc w).mono ?_;rintro e w' ⟨rfl,hb⟩;refine⟨?_,hb⟩;have e1:Xh ⟨k,t,r,ix,iA,ic,i,oA,oc,o,sA,sc,s⟩=⟨k,0,0,0,none,0, [],none,0, [],none,0, []⟩:=(if_neg jd).trans ((if_neg h2).trans ((if_neg h3).trans ((if_neg h5).trans (if_neg h6))))
  have e2:decide (L9 (Av.mp ⟨k,t,r,ix,iA,ic,i,oA,oc,o,sA,sc,s⟩))=false:=decide_eq_false (by
   unfold L9
   simp only [Av.mp]
   rintro (h | h | h | h | h)
   ·exact jd h.1
   ·exact h2 h.1
   ·exact h3 h.1
   ·exact h5 h.1
   ·exact h6 h.1)
  rw [e1,e2];rfl
def B8 (m:MP):Prop:=L9 m/\Rz (Rw m) m
instance (m:MP):Decidable (B8 m):=by unfold B8;infer_instance
def Fc (m:MP):Int:=if B8 m then 0 else 8
theorem Cb (x:Av) (w:World) (hx:RM w w.heap.size x) (ox:Gm x):
 Calls Tryz.prog 27 #[x.val] w fun e w'=>e= .returned (.int .i64 (Fc x.mp))/\Below w.heap.size w w':=by
 have HX:=Aa hx;have OX:=Aa ox;obtain⟨k,t,r,ix,iA,ic,i,oA,oc,o,sA,sc,s⟩:=x;obtain⟨q,hq⟩:∃ q,q=Xh ⟨k,t,r,ix,iA,ic,i,oA,oc,o,sA,sc,s⟩:=⟨_,rfl⟩;have HQ:=Aa hq;obtain⟨m,hm⟩:∃ m,m=Av.mp ⟨k,t,r,ix,iA,ic,i,oA,oc,o,sA,sc,s⟩:=⟨_,rfl⟩;have HM:=Aa hm;have P:=Aa (fun W (hb:Below w.heap.size w W)=>Yr _ W ((hx.below hb).more hb.size) ox);rw [<-hq,<-hm] at P;rw [<-hm];have S:=Aa (fun W (hb:Below w.heap.size w W)=>Ni q _ W (by rw [hq];exact Aep ((hx.below hb).more hb.size)) ((hx.below hb).more hb.size) (by rw [hq];exact Aeq ox) ox);have hqm:q.mp=Rw m:=by rw [hq,hm];exact Aer _
 rw [hqm,<-hm] at S;obtain⟨k2,t2,r2,Xi,NA,MZ,i2,PZ,PY,o2,XO,XN,s2⟩:=q;obtain⟨MY,ein2⟩:∃ z,z=i2.length:=⟨_,rfl⟩;obtain⟨PX,eon2⟩:∃ z,z=o2.length:=⟨_,rfl⟩;obtain⟨XM,esn2⟩:∃ z,z=s2.length:=⟨_,rfl⟩;obtain⟨in1,ein1⟩:∃ z,z=i.length:=⟨_,rfl⟩;obtain⟨on1,eon1⟩:∃ z,z=o.length:=⟨_,rfl⟩;obtain⟨sn1,esn1⟩:∃ z,z=s.length:=⟨_,rfl⟩;simp only [Av.val,<-ein2,<-eon2,<-esn2,<-ein1,<-eon1,<-esn1] at P S |-;obtain⟨w1,au,F1,af,ac⟩:=Am w (.int .u8 k) (.int .u32 t) (.int .u8 r) (.int .i64 ix) (.slice iA in1 ic) (.slice oA on1 oc) (.slice sA sn1 sc);obtain⟨a0,a1,a2,a3,a4,a5,a6⟩:=F1.cells;have az:=Aa F1;clear F1 ein2 eon2 esn2 ein1 eon1 esn1 hq hm hqm hx ox HX OX HQ HM;obtain⟨d,hd⟩:∃ d,d=decide (L9 m):=⟨_,rfl⟩;have Hd:=Aa hd;rw [<-hd] at P;clear hd
 cases d with
 | false=>
   have hE:=Aa (show Fc m=8 from if_neg (fun h=>(decide_eq_false_iff_not.1 Hd.out.symm) h.1));go_enter Tryz.func27,Tryz.ntmps27;go_wp2_with fail;refine (P.out w1 ac).mono ?_;rintro e w2 ⟨rfl,ae⟩;have cg:=Ad ac ae;have KK:=Aa (az.out.below ae);have pi:=Nat.lt_of_lt_of_le af ae.size;clear a0 a1 a2 a3 a4 a5 a6;obtain⟨w3,b8,F3,fo,ag⟩:=Am w2 (.int .u8 0) (.int .u32 0) (.int .u8 0) (.int .i64 0) (.slice none 0 0) (.slice none 0 0) (.slice none 0 0);have jn:=Ad cg ag;have G3:=KK.out.below ag;have ak:w.heap.size≠w2.heap.size:=by omega
   have z0:=F3.fr 0;obtain⟨w4,eo⟩:∃ q,w3.setCell ⟨w2.heap.size,0,none⟩ (.int .u8 k2)=q:=⟨_,rfl⟩;have F4:MB w4 w2.heap.size (.int .u8 k2) (.int .u32 0) (.int .u8 0) (.int .i64 0) (.slice none 0 0) (.slice none 0 0) (.slice none 0 0):=by rw [<-eo];exact F3.set0 _
   have G4:=G3.other ak 0 (.int .u8 k2);rw [eo] at G4;have fk:Below w.heap.size w w4:=by rw [<-eo];exact jn.setCell (Nat.le_of_lt pi) _
   have y0:=F3.cells.1;have z1:=F4.fr 1;obtain⟨w5,b9⟩:∃ q,w4.setCell ⟨w2.heap.size,1,none⟩ (.int .u32 t2)=q:=⟨_,rfl⟩;have F5:MB w5 w2.heap.size (.int .u8 k2) (.int .u32 t2) (.int .u8 0) (.int .i64 0) (.slice none 0 0) (.slice none 0 0) (.slice none 0 0):=by rw [<-b9];exact F4.set1 _
   have G5:=G4.other ak 1 (.int .u32 t2);rw [b9] at G5;have pp:Below w.heap.size w w5:=by rw [<-b9];exact fk.setCell (Nat.le_of_lt pi) _
   have y1:=F4.cells.2.1;have z2:=F5.fr 2;obtain⟨w6,it⟩:∃ q,w5.setCell ⟨w2.heap.size,2,none⟩ (.int .u8 r2)=q:=⟨_,rfl⟩;have F6:MB w6 w2.heap.size (.int .u8 k2) (.int .u32 t2) (.int .u8 r2) (.int .i64 0) (.slice none 0 0) (.slice none 0 0) (.slice none 0 0):=by rw [<-it];exact F5.set2 _
   have G6:=G5.other ak 2 (.int .u8 r2);rw [it] at G6;have lw:Below w.heap.size w w6:=by rw [<-it];exact pp.setCell (Nat.le_of_lt pi) _
   have y2:=F5.cells.2.2.1;have z3:=F6.fr 3;obtain⟨w7,cc⟩:∃ q,w6.setCell ⟨w2.heap.size,3,none⟩ (.int .i64 Xi)=q:=⟨_,rfl⟩;have F7:MB w7 w2.heap.size (.int .u8 k2) (.int .u32 t2) (.int .u8 r2) (.int .i64 Xi) (.slice none 0 0) (.slice none 0 0) (.slice none 0 0):=by rw [<-cc];exact F6.set3 _
   have G7:=G6.other ak 3 (.int .i64 Xi);rw [cc] at G7;have qq:Below w.heap.size w w7:=by rw [<-cc];exact lw.setCell (Nat.le_of_lt pi) _
   have y3:=F6.cells.2.2.2.1;have z4:=F7.fr 4;obtain⟨w8,ug⟩:∃ q,w7.setCell ⟨w2.heap.size,4,none⟩ (.slice NA MY MZ)=q:=⟨_,rfl⟩;have F8:MB w8 w2.heap.size (.int .u8 k2) (.int .u32 t2) (.int .u8 r2) (.int .i64 Xi) (.slice NA MY MZ) (.slice none 0 0) (.slice none 0 0):=by rw [<-ug];exact F7.set4 _
   have G8:=G7.other ak 4 (.slice NA MY MZ);rw [ug] at G8;have oj:Below w.heap.size w w8:=by rw [<-ug];exact qq.setCell (Nat.le_of_lt pi) _
   have y4:=F7.cells.2.2.2.2.1;have z5:=F8.fr 5;obtain⟨w9,dq⟩:∃ q,w8.setCell ⟨w2.heap.size,5,none⟩ (.slice PZ PX PY)=q:=⟨_,rfl⟩;have F9:MB w9 w2.heap.size (.int .u8 k2) (.int .u32 t2) (.int .u8 r2) (.int .i64 Xi) (.slice NA MY MZ) (.slice PZ PX PY) (.slice none 0 0):=by rw [<-dq];exact F8.set5 _
   have G9:=G8.other ak 5 (.slice PZ PX PY);rw [dq] at G9;have WL:Below w.heap.size w w9:=by rw [<-dq];exact oj.setCell (Nat.le_of_lt pi) _
   have y5:=F8.cells.2.2.2.2.2.1;have z6:=F9.fr 6;obtain⟨lk,nm⟩:∃ q,w9.setCell ⟨w2.heap.size,6,none⟩ (.slice XO XM XN)=q:=⟨_,rfl⟩;have F10:MB lk w2.heap.size (.int .u8 k2) (.int .u32 t2) (.int .u8 r2) (.int .i64 Xi) (.slice NA MY MZ) (.slice PZ PX PY) (.slice XO XM XN):=by rw [<-nm];exact F9.set6 _
   have VK:=G9.other ak 6 (.slice XO XM XN);rw [nm] at VK;have BK:Below w.heap.size w lk:=by rw [<-nm];exact WL.setCell (Nat.le_of_lt pi) _
   have y6:=F9.cells.2.2.2.2.2.2;obtain⟨b0,b1,b2,b3,b4,b5,b6⟩:=F10.cells;obtain⟨c0,c1,c2,c3,c4,c5,c6⟩:=VK.cells;clear F3 G3 F4 G4 F5 G5 F6 G6 F7 G7 F8 G8 F9 G9 F10 VK;go_wp2_with fail;go_ret;exact⟨by rw [hE.out];rfl,BK⟩
 | true=>
   obtain⟨d,hd⟩:∃ d,d=decide (Rz (Rw m) m):=⟨_,rfl⟩;have HS:=Aa hd;rw [<-hd] at S;clear hd;go_enter Tryz.func27,Tryz.ntmps27;go_wp2_with fail;refine (P.out w1 ac).mono ?_;rintro e w2 ⟨rfl,ae⟩;have cg:=Ad ac ae;have KK:=Aa (az.out.below ae);have pi:=Nat.lt_of_lt_of_le af ae.size;clear a0 a1 a2 a3 a4 a5 a6;obtain⟨w3,b8,F3,fo,ag⟩:=Am w2 (.int .u8 0) (.int .u32 0) (.int .u8 0) (.int .i64 0) (.slice none 0 0) (.slice none 0 0) (.slice none 0 0);have jn:=Ad cg ag;have G3:=KK.out.below ag;have ak:w.heap.size≠w2.heap.size:=by omega
   have z0:=F3.fr 0;obtain⟨w4,eo⟩:∃ q,w3.setCell ⟨w2.heap.size,0,none⟩ (.int .u8 k2)=q:=⟨_,rfl⟩;have F4:MB w4 w2.heap.size (.int .u8 k2) (.int .u32 0) (.int .u8 0) (.int .i64 0) (.slice none 0 0) (.slice none 0 0) (.slice none 0 0):=by rw [<-eo];exact F3.set0 _
   have G4:=G3.other ak 0 (.int .u8 k2);rw [eo] at G4;have fk:Below w.heap.size w w4:=by rw [<-eo];exact jn.setCell (Nat.le_of_lt pi) _
   have y0:=F3.cells.1;have z1:=F4.fr 1;obtain⟨w5,b9⟩:∃ q,w4.setCell ⟨w2.heap.size,1,none⟩ (.int .u32 t2)=q:=⟨_,rfl⟩;have F5:MB w5 w2.heap.size (.int .u8 k2) (.int .u32 t2) (.int .u8 0) (.int .i64 0) (.slice none 0 0) (.slice none 0 0) (.slice none 0 0):=by rw [<-b9];exact F4.set1 _
   have G5:=G4.other ak 1 (.int .u32 t2);rw [b9] at G5;have pp:Below w.heap.size w w5:=by rw [<-b9];exact fk.setCell (Nat.le_of_lt pi) _
   have y1:=F4.cells.2.1;have z2:=F5.fr 2;obtain⟨w6,it⟩:∃ q,w5.setCell ⟨w2.heap.size,2,none⟩ (.int .u8 r2)=q:=⟨_,rfl⟩;have F6:MB w6 w2.heap.size (.int .u8 k2) (.int .u32 t2) (.int .u8 r2) (.int .i64 0) (.slice none 0 0) (.slice none 0 0) (.slice none 0 0):=by rw [<-it];exact F5.set2 _
   have G6:=G5.other ak 2 (.int .u8 r2);rw [it] at G6;have lw:Below w.heap.size w w6:=by rw [<-it];exact pp.setCell (Nat.le_of_lt pi) _
   have y2:=F5.cells.2.2.1;have z3:=F6.fr 3;obtain⟨w7,cc⟩:∃ q,w6.setCell ⟨w2.heap.size,3,none⟩ (.int .i64 Xi)=q:=⟨_,rfl⟩;have F7:MB w7 w2.heap.size (.int .u8 k2) (.int .u32 t2) (.int .u8 r2) (.int .i64 Xi) (.slice none 0 0) (.slice none 0 0) (.slice none 0 0):=by rw [<-cc];exact F6.set3 _
   have G7:=G6.other ak 3 (.int .i64 Xi);rw [cc] at G7;have qq:Below w.heap.size w w7:=by rw [<-cc];exact lw.setCell (Nat.le_of_lt pi) _
   have y3:=F6.cells.2.2.2.1;have z4:=F7.fr 4;obtain⟨w8,ug⟩:∃ q,w7.setCell ⟨w2.heap.size,4,none⟩ (.slice NA MY MZ)=q:=⟨_,rfl⟩;have F8:MB w8 w2.heap.size (.int .u8 k2) (.int .u32 t2) (.int .u8 r2) (.int .i64 Xi) (.slice NA MY MZ) (.slice none 0 0) (.slice none 0 0):=by rw [<-ug];exact F7.set4 _
   have G8:=G7.other ak 4 (.slice NA MY MZ);rw [ug] at G8;have oj:Below w.heap.size w w8:=by rw [<-ug];exact qq.setCell (Nat.le_of_lt pi) _
   have y4:=F7.cells.2.2.2.2.1;have z5:=F8.fr 5;obtain⟨w9,dq⟩:∃ q,w8.setCell ⟨w2.heap.size,5,none⟩ (.slice PZ PX PY)=q:=⟨_,rfl⟩;have F9:MB w9 w2.heap.size (.int .u8 k2) (.int .u32 t2) (.int .u8 r2) (.int .i64 Xi) (.slice NA MY MZ) (.slice PZ PX PY) (.slice none 0 0):=by rw [<-dq];exact F8.set5 _
   have G9:=G8.other ak 5 (.slice PZ PX PY);rw [dq] at G9;have WL:Below w.heap.size w w9:=by rw [<-dq];exact oj.setCell (Nat.le_of_lt pi) _
   have y5:=F8.cells.2.2.2.2.2.1;have z6:=F9.fr 6;obtain⟨lk,nm⟩:∃ q,w9.setCell ⟨w2.heap.size,6,none⟩ (.slice XO XM XN)=q:=⟨_,rfl⟩;have F10:MB lk w2.heap.size (.int .u8 k2) (.int .u32 t2) (.int .u8 r2) (.int .i64 Xi) (.slice NA MY MZ) (.slice PZ PX PY) (.slice XO XM XN):=by rw [<-nm];exact F9.set6 _
   have VK:=G9.other ak 6 (.slice XO XM XN);rw [nm] at VK;have BK:Below w.heap.size w lk:=by rw [<-nm];exact WL.setCell (Nat.le_of_lt pi) _
   have y6:=F9.cells.2.2.2.2.2.2;obtain⟨b0,b1,b2,b3,b4,b5,b6⟩:=F10.cells;obtain⟨c0,c1,c2,c3,c4,c5,c6⟩:=VK.cells;clear F3 G3 F4 G4 F5 G5 F6 G6 F7 G7 F8 G8 F9 G9 F10 VK;have S10:=Aa (S.out lk BK)
   cases d with
   | false=>
     have hE:=Aa (show Fc m=8 from if_neg (fun h=>(decide_eq_false_iff_not.1 HS.out.symm) h.2));go_wp2_with fail;refine S10.out.mono ?_;rintro e ra ⟨rfl,pq⟩;go_wp2_with fail;go_ret;exact⟨by rw [hE.out];rfl,Ad BK pq⟩
   | true=>
     have hE:=Aa (show Fc m=0 from if_pos ⟨decide_eq_true_iff.1 Hd.out.symm,decide_eq_true_iff.1 HS.out.symm⟩);go_wp2_with fail;refine S10.out.mono ?_;rintro e ra ⟨rfl,pq⟩;go_wp2_with fail;go_ret;exact⟨by rw [hE.out];rfl,Ad BK pq⟩
theorem FB.all {w:World} {g:Nat} {k t r s z:Value} (h:FB w g k t r s z):w.cell? ⟨g,0,none⟩=some k/\w.cell? ⟨g,1,none⟩=some t/\w.cell? ⟨g,2,none⟩=some r/\w.cell? ⟨g,3,none⟩=some s/\w.cell? ⟨g,4,none⟩=some z/\
 w.frozen? ⟨g,0,none⟩=false/\w.frozen? ⟨g,1,none⟩=false/\w.frozen? ⟨g,2,none⟩=false/\w.frozen? ⟨g,3,none⟩=false/\w.frozen? ⟨g,4,none⟩=false:=by
 obtain⟨a,b,c,d,e⟩:=h.cells;exact⟨a,b,c,d,e,h.fr 0,h.fr 1,h.fr 2,h.fr 3,h.fr 4⟩
theorem Dw {P:Program} {fn:Func} {a:Act} {w W:World} {go:Nat} {x0 x1 x2 x3 x4:Value} {o:Option (Int×Int×Int×List Rn×Int×Nat)} (hF:FB W go x0 x1 x2 x3 x4) (hb:Below w.heap.size w W) (hg:w.heap.size<=go) (hN:o=none)
 (hr:∀ WW,WW.cell? ⟨go,0,none⟩=some (.int .u8 0)/\WW.cell? ⟨go,1,none⟩=some (.int .u32 0)/\WW.cell? ⟨go,2,none⟩=some (.int .u8 0)/\WW.cell? ⟨go,3,none⟩=some (.slice none 0 0)/\WW.cell? ⟨go,4,none⟩=some (.int .i64 0)->(results fn a.tmps).run P WW= .ok (.tuple #[Gq 0 0 0 none 0 0 0,.int .i64 0,.int .i64 8]) WW) (hd:a.defers= []):
 bodyPost P fn (fun e w'=>∃ A' c',e= .returned (.tuple #[Gq (Ek o).1 (Ek o).2.1 (Ek o).2.2.1 A' (Ek o).2.2.2.1.length c' (Ek o).2.2.2.2.1,.int .i64 ((Ek o).2.2.2.2.2.1:Int),.int .i64 (Ek o).2.2.2.2.2.2])/\w'.ownsRow w.heap.size 120 3 (.slice A' (Ek o).2.2.2.1.length c') (Ek o).2.2.2.1.length (Ed (Ek o).2.2.2.1)/\Below w.heap.size w w') .ret a (Di W go (.int .u8 0) (.int .u32 0) (.int .u8 0) (.slice none 0 0) (.int .i64 0)):=by
 subst hN;exact bodyPost_ret (hr _ (El hF _ _ _ _ _).cells) hd ⟨none,0,rfl,World.ownsRow_nil _ _ _ _,Cm hb _ _ _ _ _ _ hg⟩
end Go.Proofs.YtmkpfdcnikgokaaGreat
