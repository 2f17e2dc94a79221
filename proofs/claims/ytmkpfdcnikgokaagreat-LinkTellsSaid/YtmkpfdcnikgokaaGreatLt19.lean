/-
  Texts of this claim, put together: MailCheck. What each theorem asks stands in its statement.
-/
import Derived.Test.YtmkpfdcnikgokaaGreatLt18
set_option linter.unusedVariables false
set_option linter.unusedSimpArgs false
set_option maxRecDepth 100000
set_option maxHeartbeats 25600000
namespace Go.Proofs.YtmkpfdcnikgokaaGreat
open Go.RowKit
/-- Mail; as it lies. -/
structure MP where
 k:Int
 t:Int
 r:Int
 ix:Int
 I:List PT
 O:List OpP
 W:List WP
structure MlL where
 k:Int
 t:Int
 r:Int
 ix:Int
 iA:Option Addr
 ic:Nat
 i:List TmL
 oA:Option Addr
 oc:Nat
 o:List OpL
 sA:Option Addr
 sc:Nat
 s:List WsL
def MlL.mp (x:MlL):MP:=⟨x.k,x.t,x.r,x.ix,x.i.map TmL.pt,x.o.map OpL.op,x.s.map WsL.wp⟩
def MlL.val (x:MlL):Value:=mlv x.k x.t x.r x.ix (.slice x.iA x.i.length x.ic) (.slice x.oA x.o.length x.oc) (.slice x.sA x.s.length x.sc)
def RM (w:World) (B:Nat) (x:MlL):Prop:=RT w B x.iA x.i∧RO w B x.oA x.o∧RW w B x.sA x.s
theorem RM.below {w w':World} {B:Nat} {x:MlL} (h:RM w B x) (hb:Below B w w'):RM w' B x:=⟨h.1.below hb,h.2.1.below hb,h.2.2.below hb⟩
theorem RM.more {w:World} {B B':Nat} {x:MlL} (h:RM w B x) (hB:B≤B'):RM w B' x:=⟨h.1.more hB,h.2.1.more hB,h.2.2.more hB⟩
/-- Parts of their types. -/
def okM (x:MlL):Prop:=(0≤x.t∧x.t < 4294967296∧0≤x.r∧x.r≤255)∧((∀ y∈x.i,okT y)∧(∀ y∈x.o,okO y)∧∀ y∈x.s,okW y)∧x.i.length < 1073741824∧x.o.length < 1073741824∧x.s.length < 1073741824
def WP.hp (x:WP):List PT:=x.H
/-- The same mail. -/
def samM (x y:MP):Prop:=x.k=y.k∧x.t=y.t∧x.r=y.r∧x.ix=y.ix∧x.I=y.I∧x.O=y.O∧x.W.map WP.en=y.W.map WP.en∧x.W.map WP.hp=y.W.map WP.hp
instance (x y:MP):Decidable (samM x y):=by unfold samM;infer_instance
theorem wp_en (L:List WsL):(L.map WsL.wp).map WP.en=L.map WsL.en:=by rw [List.map_map];rfl
theorem wp_hp (L:List WsL):(L.map WsL.wp).map WP.hp=L.map WsL.hp:=by rw [List.map_map];rfl
theorem msame_any (x y:MlL) (w:World) (hx:RM w w.heap.size x) (hy:RM w w.heap.size y) (ox:okM x) (oy:okM y):
 Calls Tryz.prog 29 #[x.val,y.val] w fun e w'=>e= .returned (.bool (decide (samM x.mp y.mp)))∧Below w.heap.size w w':=by
 obtain⟨k,t,r,ix,iA,ic,i,oA,oc,o,sA,sc,s⟩:=x
 obtain⟨k',t',r',ix',iA',ic',i',oA',oc',o',sA',sc',s'⟩:=y
 have up:∀ W,Below w.heap.size w W→RM W W.heap.size ⟨k,t,r,ix,iA,ic,i,oA,oc,o,sA,sc,s⟩∧RM W W.heap.size ⟨k',t',r',ix',iA',ic',i',oA',oc',o',sA',sc',s'⟩:=fun W hb=>⟨(hx.below hb).more hb.size,(hy.below hb).more hb.size⟩
 have lo:∀ x∈o,x.p.length < 1073741824:=fun x hx=>(ox.2.1.2.1 x hx).2.2.2
 have lo':∀ x∈o',x.p.length < 1073741824:=fun x hx=>(oy.2.1.2.1 x hx).2.2.2
 have c4:∀ W,Below w.heap.size w W→_:=fun W hb=>tmsame_any iA iA' ic ic' _ _ i i' W (up W hb).1.1 (up W hb).2.1 rfl rfl ox.2.2.1 ox.2.1.1
 have c5:∀ W,Below w.heap.size w W→_:=fun W hb=>opeq_any oA oA' oc oc' _ _ o o' W (up W hb).1.2.1 (up W hb).2.2.1 rfl rfl ox.2.2.2.1 lo lo'
 have c7:∀ W,Below w.heap.size w W→_:=fun W hb=>wseq_any sA sA' sc sc' _ _ s s' W (up W hb).1.2.2 (up W hb).2.2.2 rfl rfl ox.2.2.2.2 ox.2.1.2.2
 have ce:∀ W,Below w.heap.size w W→Calls Tryz.prog 77 #[.slice sA s.length sc] W fun e w'=>∃ A c,e= .returned (.slice A (List.length (α:=WsL) s) c)∧RE w' w'.heap.size A s∧Below W.heap.size W w':=fun W hb=>entries_any sA s.length sc s W (up W hb).1.2.2 rfl ox.2.2.2.2
 have cf:∀ W,Below w.heap.size w W→Calls Tryz.prog 77 #[.slice sA' s'.length sc'] W fun e w'=>∃ A c,e= .returned (.slice A (List.length (α:=WsL) s') c)∧RE w' w'.heap.size A s'∧Below W.heap.size W w':=fun W hb=>entries_any sA' s'.length sc' s' W (up W hb).2.2.2 rfl oy.2.2.2.2
 have c6:∀ W (B B':Option Addr) (d d':Nat),RE W W.heap.size B s→RE W W.heap.size B' s'→_:=fun W B B' d d' h h'=>ensame_any B B' d d' _ _ s s' W h h' rfl rfl ox.2.2.2.2 ox.2.1.2.2
 have fin:∀ b:Bool,decide (samM (MlL.mp ⟨k,t,r,ix,iA,ic,i,oA,oc,o,sA,sc,s⟩) (MlL.mp ⟨k',t',r',ix',iA',ic',i',oA',oc',o',sA',sc',s'⟩))=b→
  Calls Tryz.prog 29 #[mlv k t r ix (.slice iA i.length ic) (.slice oA o.length oc) (.slice sA s.length sc),mlv k' t' r' ix' (.slice iA' i'.length ic') (.slice oA' o'.length oc') (.slice sA' s'.length sc')] w (fun e w'=>e= .returned (.bool b)∧Below w.heap.size w w')→
  Calls Tryz.prog 29 #[MlL.val ⟨k,t,r,ix,iA,ic,i,oA,oc,o,sA,sc,s⟩,MlL.val ⟨k',t',r',ix',iA',ic',i',oA',oc',o',sA',sc',s'⟩] w fun e w'=>e= .returned (.bool (decide (samM (MlL.mp ⟨k,t,r,ix,iA,ic,i,oA,oc,o,sA,sc,s⟩) (MlL.mp ⟨k',t',r',ix',iA',ic',i',oA',oc',o',sA',sc',s'⟩))))∧Below w.heap.size w w':=by
  intro b hb h
  rw [hb]
  exact h
 by_cases h1:k=k'
 rotate_left
 ·exact fin false (decide_eq_false fun h=>h1 h.1) (by apply msame_a;exact h1)
 subst h1
 by_cases h2:t=t'
 rotate_left
 ·exact fin false (decide_eq_false fun h=>h2 h.2.1) (by apply msame_b;exact h2)
 subst h2
 by_cases h3:r=r'
 rotate_left
 ·exact fin false (decide_eq_false fun h=>h3 h.2.2.1) (by apply msame_c;exact h3)
 subst h3
 by_cases h4:ix=ix'
 rotate_left
 ·exact fin false (decide_eq_false fun h=>h4 h.2.2.2.1) (by apply msame_d;exact h4)
 subst h4
 by_cases h5:i.map TmL.pt=i'.map TmL.pt
 rotate_left
 ·rw [decide_eq_false h5] at c4
  exact fin false (decide_eq_false fun h=>h5 h.2.2.2.2.1) (by apply msame_e;exact c4)
 rw [decide_eq_true h5] at c4
 by_cases h6:o.map OpL.op=o'.map OpL.op
 rotate_left
 ·rw [decide_eq_false h6] at c5
  exact fin false (decide_eq_false fun h=>h6 h.2.2.2.2.2.1) (by apply msame_f;exact c4;exact c5)
 rw [decide_eq_true h6] at c5
 by_cases h7:s.map WsL.en=s'.map WsL.en
 rotate_left
 ·rw [decide_eq_false h7] at c6
  exact fin false (decide_eq_false fun h=>h7 (by have:=h.2.2.2.2.2.2.1;simp only [MlL.mp,wp_en] at this;exact this)) (by apply msame_h (L:=s) (L':=s');exact c4;exact c5;exact ce;exact cf;exact c6)
 rw [decide_eq_true h7] at c6
 refine fin (decide (s.map WsL.hp=s'.map WsL.hp)) ?_ (by apply msame_g (L:=s) (L':=s');exact c4;exact c5;exact ce;exact cf;exact c6;exact c7)
 refine decide_eq_decide.2 ⟨fun h=>?_,fun h=>⟨rfl,rfl,rfl,rfl,h5,h6,?_,?_⟩⟩
 ·have:=h.2.2.2.2.2.2.2
  simp only [MlL.mp,wp_hp] at this
  exact this
 ·simp only [MlL.mp,wp_en];exact h7
 ·simp only [MlL.mp,wp_hp];exact h
/-- What its kind has alone; may that be? -/
def plL (x:MlL):MlL:=
 if x.k=1∨x.k=4 then ⟨x.k,0,0,0,none,0, [],x.oA,x.oc,x.o,none,0, []⟩
 else if x.k=2 then ⟨x.k,0,0,0,x.iA,x.ic,x.i,none,0, [],none,0, []⟩
 else if x.k=3 then ⟨x.k,0,0,0,x.iA,x.ic,x.i,none,0, [],x.sA,x.sc,x.s⟩
 else if x.k=5 then ⟨x.k,x.t,x.r,0,x.iA,x.ic,x.i,none,0, [],none,0, []⟩
 else if x.k=6 then ⟨x.k,x.t,x.r,x.ix,none,0, [],x.oA,x.oc,x.o,none,0, []⟩
 else ⟨x.k,0,0,0,none,0, [],none,0, [],none,0, []⟩
def plP (x:MP):MP:=
 if x.k=1∨x.k=4 then ⟨x.k,0,0,0, [],x.O, []⟩
 else if x.k=2 then ⟨x.k,0,0,0,x.I, [], []⟩
 else if x.k=3 then ⟨x.k,0,0,0,x.I, [],x.W⟩
 else if x.k=5 then ⟨x.k,x.t,x.r,0,x.I, [], []⟩
 else if x.k=6 then ⟨x.k,x.t,x.r,x.ix, [],x.O, []⟩
 else ⟨x.k,0,0,0, [], [], []⟩
def isP (m:MP):Prop:=(m.k=1∨m.k=4)∧someP m.O 64∨m.k=2∧idsP m.I∨m.k=3∧idsP m.I∧wantsP m.W∨m.k=5∧secI m.t m.r∧idsP m.I∨m.k=6∧secI m.t m.r∧0≤m.ix∧m.ix < 128∧someP m.O 8
instance (m:MP):Decidable (isP m):=by unfold isP;infer_instance
theorem plL_mp (x:MlL):(plL x).mp=plP x.mp:=by
 unfold plL plP
 simp only [MlL.mp]
 repeat' split
 all_goals first | rfl | (simp_all;done) | omega
theorem plL_rm {w:World} {B:Nat} {x:MlL} (h:RM w B x):RM w B (plL x):=by
 unfold plL
 have n1:RT w B none []:=⟨RD.nil_,fun y hy=>by cases hy⟩
 have n2:RO w B none []:=⟨RD.nil_,fun y hy=>by cases hy⟩
 have n3:=RW.nil w B none
 repeat' split
 ·exact⟨n1,h.2.1,n3⟩
 ·exact⟨h.1,n2,n3⟩
 ·exact⟨h.1,n2,h.2.2⟩
 ·exact⟨h.1,n2,n3⟩
 ·exact⟨n1,h.2.1,n3⟩
 ·exact⟨n1,n2,n3⟩
theorem plL_ok {x:MlL} (h:okM x):okM (plL x):=by
 obtain⟨h1,⟨h2,h3,h4⟩,h5,h6,h7⟩:=h
 unfold plL
 have z:(0:Int)≤0∧(0:Int) < 4294967296∧(0:Int)≤0∧(0:Int)≤255:=by decide
 have zz:(0:Nat) < 1073741824:=by decide
 repeat' split
 ·exact⟨z,⟨fun y hy=>(by cases hy),h3,fun y hy=>(by cases hy)⟩,zz,h6,zz⟩
 ·exact⟨z,⟨h2,fun y hy=>(by cases hy),fun y hy=>(by cases hy)⟩,h5,zz,zz⟩
 ·exact⟨z,⟨h2,fun y hy=>(by cases hy),h4⟩,h5,zz,h7⟩
 ·exact⟨h1,⟨h2,fun y hy=>(by cases hy),fun y hy=>(by cases hy)⟩,h5,zz,zz⟩
 ·exact⟨h1,⟨fun y hy=>(by cases hy),h3,fun y hy=>(by cases hy)⟩,zz,h6,zz⟩
 ·exact⟨z,⟨fun y hy=>(by cases hy),fun y hy=>(by cases hy),fun y hy=>(by cases hy)⟩,zz,zz,zz⟩
theorem plain_any (x:MlL) (w:World) (hx:RM w w.heap.size x) (ox:okM x):
 Calls Tryz.prog 72 #[x.val] w fun e w'=>e= .returned (.tuple #[(plL x).val,.bool (decide (isP x.mp))])∧Below w.heap.size w w':=by
 obtain⟨k,t,r,ix,iA,ic,i,oA,oc,o,sA,sc,s⟩:=x
 have up:∀ W,Below w.heap.size w W→RM W W.heap.size ⟨k,t,r,ix,iA,ic,i,oA,oc,o,sA,sc,s⟩:=fun W hb=>(hx.below hb).more hb.size
 have co:∀ m,∀ W,Below w.heap.size w W→_:=fun m W hb=>some_any oA _ oc o m W (up W hb).2.1 rfl ox.2.2.2.1 ox.2.1.2.1
 have ci:∀ W,Below w.heap.size w W→_:=fun W hb=>ids_any iA _ ic i W (up W hb).1 rfl ox.2.1.1 ox.2.2.1
 have cw:∀ W,Below w.heap.size w W→_:=fun W hb=>wants_any sA _ sc s W (up W hb).2.2 rfl ox.2.2.2.2 ox.2.1.2.2
 have cs:∀ W,Below w.heap.size w W→_:=fun W _=>section_any t r W
 by_cases h14:k=1∨k=4
 ·refine (plain_ops k h14 t r ix iA oA sA _ ic _ oc _ sc _ w (co 64)).mono ?_
  rintro e w' ⟨rfl,hb⟩
  refine⟨?_,hb⟩
  have e1:plL ⟨k,t,r,ix,iA,ic,i,oA,oc,o,sA,sc,s⟩=⟨k,0,0,0,none,0, [],oA,oc,o,none,0, []⟩:=if_pos h14
  have e2:decide (isP (MlL.mp ⟨k,t,r,ix,iA,ic,i,oA,oc,o,sA,sc,s⟩))=decide (someP (o.map OpL.op) 64):=decide_eq_decide.2 (by
   unfold isP
   simp only [MlL.mp]
   constructor
   ·rintro (h | h | h | h | h)
    ·exact h.2
    all_goals (exfalso;omega)
   ·intro h;exact .inl ⟨h14,h⟩)
  rw [e1,e2]
  rfl
 have n1:¬ k=1:=fun h=>h14 (.inl h)
 have n4:¬ k=4:=fun h=>h14 (.inr h)
 by_cases h2:k=2
 ·refine (plain_ids k h2 t r ix iA oA sA _ ic _ oc _ sc _ w ci).mono ?_
  rintro e w' ⟨rfl,hb⟩
  refine⟨?_,hb⟩
  have e1:plL ⟨k,t,r,ix,iA,ic,i,oA,oc,o,sA,sc,s⟩=⟨k,0,0,0,iA,ic,i,none,0, [],none,0, []⟩:=(if_neg h14).trans (if_pos h2)
  have e2:decide (isP (MlL.mp ⟨k,t,r,ix,iA,ic,i,oA,oc,o,sA,sc,s⟩))=decide (idsP (i.map TmL.pt)):=decide_eq_decide.2 (by
   unfold isP
   simp only [MlL.mp]
   constructor
   ·rintro (h | h | h | h | h)
    ·exact absurd h.1 h14
    ·exact h.2
    all_goals (exfalso;omega)
   ·intro h;exact .inr (.inl ⟨h2,h⟩))
  rw [e1,e2]
  rfl
 by_cases h3:k=3
 ·refine (plain_want k h3 t r ix iA oA sA _ ic _ oc _ sc _ _ w ci cw).mono ?_
  rintro e w' ⟨rfl,hb⟩
  refine⟨?_,hb⟩
  have e1:plL ⟨k,t,r,ix,iA,ic,i,oA,oc,o,sA,sc,s⟩=⟨k,0,0,0,iA,ic,i,none,0, [],sA,sc,s⟩:=(if_neg h14).trans ((if_neg h2).trans (if_pos h3))
  have e2:decide (isP (MlL.mp ⟨k,t,r,ix,iA,ic,i,oA,oc,o,sA,sc,s⟩))=(decide (idsP (i.map TmL.pt)) && decide (wantsP (s.map WsL.wp))):=by
   rw [←Bool.decide_and]
   refine decide_eq_decide.2 ?_
   unfold isP
   simp only [MlL.mp]
   constructor
   ·rintro (h | h | h | h | h)
    ·exact absurd h.1 h14
    ·exact absurd h.1 h2
    ·exact h.2
    all_goals (exfalso;omega)
   ·intro h;exact .inr (.inr (.inl ⟨h3,h⟩))
  rw [e1,e2]
  rfl
 by_cases h5:k=5
 ·refine (plain_manifest k h5 t r ix iA oA sA _ ic _ oc _ sc _ _ w cs ci).mono ?_
  rintro e w' ⟨rfl,hb⟩
  refine⟨?_,hb⟩
  have e1:plL ⟨k,t,r,ix,iA,ic,i,oA,oc,o,sA,sc,s⟩=⟨k,t,r,0,iA,ic,i,none,0, [],none,0, []⟩:=(if_neg h14).trans ((if_neg h2).trans ((if_neg h3).trans (if_pos h5)))
  have e2:decide (isP (MlL.mp ⟨k,t,r,ix,iA,ic,i,oA,oc,o,sA,sc,s⟩))=(decide (secI t r) && decide (idsP (i.map TmL.pt))):=by
   rw [←Bool.decide_and]
   refine decide_eq_decide.2 ?_
   unfold isP
   simp only [MlL.mp]
   constructor
   ·rintro (h | h | h | h | h)
    ·exact absurd h.1 h14
    ·exact absurd h.1 h2
    ·exact absurd h.1 h3
    ·exact h.2
    all_goals (exfalso;omega)
   ·intro h;exact .inr (.inr (.inr (.inl ⟨h5,h⟩)))
  rw [e1,e2]
  rfl
 by_cases h6:k=6
 ·refine (plain_chunk k h6 t r ix iA oA sA _ ic _ oc _ sc _ _ w cs (co 8)).mono ?_
  rintro e w' ⟨rfl,hb⟩
  refine⟨?_,hb⟩
  have e1:plL ⟨k,t,r,ix,iA,ic,i,oA,oc,o,sA,sc,s⟩=⟨k,t,r,ix,none,0, [],oA,oc,o,none,0, []⟩:=(if_neg h14).trans ((if_neg h2).trans ((if_neg h3).trans ((if_neg h5).trans (if_pos h6))))
  have e2:decide (isP (MlL.mp ⟨k,t,r,ix,iA,ic,i,oA,oc,o,sA,sc,s⟩))=(decide (secI t r) && (decide (0≤ix) && (decide (ix < 128) && decide (someP (o.map OpL.op) 8)))):=by
   rw [←Bool.decide_and,←Bool.decide_and,←Bool.decide_and]
   refine decide_eq_decide.2 ?_
   unfold isP
   simp only [MlL.mp]
   constructor
   ·rintro (h | h | h | h | h)
    ·exact absurd h.1 h14
    ·exact absurd h.1 h2
    ·exact absurd h.1 h3
    ·exact absurd h.1 h5
    ·exact h.2
   ·intro h;exact .inr (.inr (.inr (.inr ⟨h6,h⟩)))
  rw [e1,e2]
  rfl
 ·refine (plain_none k ⟨n1,n4,h2,h3,h5,h6⟩ t r ix iA oA sA _ ic _ oc _ sc w).mono ?_
  rintro e w' ⟨rfl,hb⟩
  refine⟨?_,hb⟩
  have e1:plL ⟨k,t,r,ix,iA,ic,i,oA,oc,o,sA,sc,s⟩=⟨k,0,0,0,none,0, [],none,0, [],none,0, []⟩:=(if_neg h14).trans ((if_neg h2).trans ((if_neg h3).trans ((if_neg h5).trans (if_neg h6))))
  have e2:decide (isP (MlL.mp ⟨k,t,r,ix,iA,ic,i,oA,oc,o,sA,sc,s⟩))=false:=decide_eq_false (by
   unfold isP
   simp only [MlL.mp]
   rintro (h | h | h | h | h)
   ·exact h14 h.1
   ·exact h2 h.1
   ·exact h3 h.1
   ·exact h5 h.1
   ·exact h6 h.1)
  rw [e1,e2]
  rfl
/-- May mail be? -/
def mayM (m:MP):Prop:=isP m∧samM (plP m) m
instance (m:MP):Decidable (mayM m):=by unfold mayM;infer_instance
def chkM (m:MP):Int:=if mayM m then 0 else 8
theorem mcheck_any (x:MlL) (w:World) (hx:RM w w.heap.size x) (ox:okM x):
 Calls Tryz.prog 27 #[x.val] w fun e w'=>e= .returned (.int .i64 (chkM x.mp))∧Below w.heap.size w w':=by
 have HX:=hide hx
 have OX:=hide ox
 obtain⟨k,t,r,ix,iA,ic,i,oA,oc,o,sA,sc,s⟩:=x
 obtain⟨q,hq⟩:∃ q,q=plL ⟨k,t,r,ix,iA,ic,i,oA,oc,o,sA,sc,s⟩:=⟨_,rfl⟩
 have HQ:=hide hq
 obtain⟨m,hm⟩:∃ m,m=MlL.mp ⟨k,t,r,ix,iA,ic,i,oA,oc,o,sA,sc,s⟩:=⟨_,rfl⟩
 have HM:=hide hm
 have P:=hide (fun W (hb:Below w.heap.size w W)=>plain_any _ W ((hx.below hb).more hb.size) ox)
 rw [←hq,←hm] at P
 rw [←hm]
 have S:=hide (fun W (hb:Below w.heap.size w W)=>msame_any q _ W (by rw [hq];exact plL_rm ((hx.below hb).more hb.size)) ((hx.below hb).more hb.size) (by rw [hq];exact plL_ok ox) ox)
 have hqm:q.mp=plP m:=by rw [hq,hm];exact plL_mp _
 rw [hqm,←hm] at S
 obtain⟨k2,t2,r2,ix2,iA2,ic2,i2,oA2,oc2,o2,sA2,sc2,s2⟩:=q
 obtain⟨in2,ein2⟩:∃ z,z=i2.length:=⟨_,rfl⟩
 obtain⟨on2,eon2⟩:∃ z,z=o2.length:=⟨_,rfl⟩
 obtain⟨sn2,esn2⟩:∃ z,z=s2.length:=⟨_,rfl⟩
 obtain⟨in1,ein1⟩:∃ z,z=i.length:=⟨_,rfl⟩
 obtain⟨on1,eon1⟩:∃ z,z=o.length:=⟨_,rfl⟩
 obtain⟨sn1,esn1⟩:∃ z,z=s.length:=⟨_,rfl⟩
 simp only [MlL.val,←ein2,←eon2,←esn2,←ein1,←eon1,←esn1] at P S ⊢
 obtain⟨w1,hw1,F1,hs1,hb1⟩:=mail_box w (.int .u8 k) (.int .u32 t) (.int .u8 r) (.int .i64 ix) (.slice iA in1 ic) (.slice oA on1 oc) (.slice sA sn1 sc)
 obtain⟨a0,a1,a2,a3,a4,a5,a6⟩:=F1.cells
 have HF1:=hide F1
 clear F1 ein2 eon2 esn2 ein1 eon1 esn1 hq hm hqm hx ox HX OX HQ HM
 obtain⟨d,hd⟩:∃ d,d=decide (isP m):=⟨_,rfl⟩
 have Hd:=hide hd
 rw [←hd] at P
 clear hd
 cases d with
 | false=>
   have hE:=hide (show chkM m=8 from if_neg (fun h=>(decide_eq_false_iff_not.1 Hd.out.symm) h.1))
   go_enter Tryz.func27,Tryz.ntmps27
   go_wp2_with fail
   refine (P.out w1 hb1).mono ?_
   rintro e w2 ⟨rfl,hb2⟩
   have hb12:=fresh hb1 hb2
   have HG2:=hide (HF1.out.below hb2)
   have hs12:=Nat.lt_of_lt_of_le hs1 hb2.size
   clear a0 a1 a2 a3 a4 a5 a6
   obtain⟨w3,hw3,F3,hs3,hb3⟩:=mail_box w2 (.int .u8 0) (.int .u32 0) (.int .u8 0) (.int .i64 0) (.slice none 0 0) (.slice none 0 0) (.slice none 0 0)
   have hb13:=fresh hb12 hb3
   have G3:=HG2.out.below hb3
   have hne:w.heap.size≠w2.heap.size:=by omega
   have z0:=F3.fr 0
   obtain⟨w4,hw4⟩:∃ q,w3.setCell ⟨w2.heap.size,0,none⟩ (.int .u8 k2)=q:=⟨_,rfl⟩
   have F4:MB w4 w2.heap.size (.int .u8 k2) (.int .u32 0) (.int .u8 0) (.int .i64 0) (.slice none 0 0) (.slice none 0 0) (.slice none 0 0):=by rw [←hw4];exact F3.set0 _
   have G4:=G3.other hne 0 (.int .u8 k2)
   rw [hw4] at G4
   have hb14:Below w.heap.size w w4:=by rw [←hw4];exact hb13.setCell (Nat.le_of_lt hs12) _
   have y0:=F3.cells.1
   have z1:=F4.fr 1
   obtain⟨w5,hw5⟩:∃ q,w4.setCell ⟨w2.heap.size,1,none⟩ (.int .u32 t2)=q:=⟨_,rfl⟩
   have F5:MB w5 w2.heap.size (.int .u8 k2) (.int .u32 t2) (.int .u8 0) (.int .i64 0) (.slice none 0 0) (.slice none 0 0) (.slice none 0 0):=by rw [←hw5];exact F4.set1 _
   have G5:=G4.other hne 1 (.int .u32 t2)
   rw [hw5] at G5
   have hb15:Below w.heap.size w w5:=by rw [←hw5];exact hb14.setCell (Nat.le_of_lt hs12) _
   have y1:=F4.cells.2.1
   have z2:=F5.fr 2
   obtain⟨w6,hw6⟩:∃ q,w5.setCell ⟨w2.heap.size,2,none⟩ (.int .u8 r2)=q:=⟨_,rfl⟩
   have F6:MB w6 w2.heap.size (.int .u8 k2) (.int .u32 t2) (.int .u8 r2) (.int .i64 0) (.slice none 0 0) (.slice none 0 0) (.slice none 0 0):=by rw [←hw6];exact F5.set2 _
   have G6:=G5.other hne 2 (.int .u8 r2)
   rw [hw6] at G6
   have hb16:Below w.heap.size w w6:=by rw [←hw6];exact hb15.setCell (Nat.le_of_lt hs12) _
   have y2:=F5.cells.2.2.1
   have z3:=F6.fr 3
   obtain⟨w7,hw7⟩:∃ q,w6.setCell ⟨w2.heap.size,3,none⟩ (.int .i64 ix2)=q:=⟨_,rfl⟩
   have F7:MB w7 w2.heap.size (.int .u8 k2) (.int .u32 t2) (.int .u8 r2) (.int .i64 ix2) (.slice none 0 0) (.slice none 0 0) (.slice none 0 0):=by rw [←hw7];exact F6.set3 _
   have G7:=G6.other hne 3 (.int .i64 ix2)
   rw [hw7] at G7
   have hb17:Below w.heap.size w w7:=by rw [←hw7];exact hb16.setCell (Nat.le_of_lt hs12) _
   have y3:=F6.cells.2.2.2.1
   have z4:=F7.fr 4
   obtain⟨w8,hw8⟩:∃ q,w7.setCell ⟨w2.heap.size,4,none⟩ (.slice iA2 in2 ic2)=q:=⟨_,rfl⟩
   have F8:MB w8 w2.heap.size (.int .u8 k2) (.int .u32 t2) (.int .u8 r2) (.int .i64 ix2) (.slice iA2 in2 ic2) (.slice none 0 0) (.slice none 0 0):=by rw [←hw8];exact F7.set4 _
   have G8:=G7.other hne 4 (.slice iA2 in2 ic2)
   rw [hw8] at G8
   have hb18:Below w.heap.size w w8:=by rw [←hw8];exact hb17.setCell (Nat.le_of_lt hs12) _
   have y4:=F7.cells.2.2.2.2.1
   have z5:=F8.fr 5
   obtain⟨w9,hw9⟩:∃ q,w8.setCell ⟨w2.heap.size,5,none⟩ (.slice oA2 on2 oc2)=q:=⟨_,rfl⟩
   have F9:MB w9 w2.heap.size (.int .u8 k2) (.int .u32 t2) (.int .u8 r2) (.int .i64 ix2) (.slice iA2 in2 ic2) (.slice oA2 on2 oc2) (.slice none 0 0):=by rw [←hw9];exact F8.set5 _
   have G9:=G8.other hne 5 (.slice oA2 on2 oc2)
   rw [hw9] at G9
   have hb19:Below w.heap.size w w9:=by rw [←hw9];exact hb18.setCell (Nat.le_of_lt hs12) _
   have y5:=F8.cells.2.2.2.2.2.1
   have z6:=F9.fr 6
   obtain⟨w10,hw10⟩:∃ q,w9.setCell ⟨w2.heap.size,6,none⟩ (.slice sA2 sn2 sc2)=q:=⟨_,rfl⟩
   have F10:MB w10 w2.heap.size (.int .u8 k2) (.int .u32 t2) (.int .u8 r2) (.int .i64 ix2) (.slice iA2 in2 ic2) (.slice oA2 on2 oc2) (.slice sA2 sn2 sc2):=by rw [←hw10];exact F9.set6 _
   have G10:=G9.other hne 6 (.slice sA2 sn2 sc2)
   rw [hw10] at G10
   have hb110:Below w.heap.size w w10:=by rw [←hw10];exact hb19.setCell (Nat.le_of_lt hs12) _
   have y6:=F9.cells.2.2.2.2.2.2
   obtain⟨b0,b1,b2,b3,b4,b5,b6⟩:=F10.cells
   obtain⟨c0,c1,c2,c3,c4,c5,c6⟩:=G10.cells
   clear F3 G3 F4 G4 F5 G5 F6 G6 F7 G7 F8 G8 F9 G9 F10 G10
   go_wp2_with fail
   go_ret
   exact⟨by rw [hE.out];rfl,hb110⟩
 | true=>
   obtain⟨d,hd⟩:∃ d,d=decide (samM (plP m) m):=⟨_,rfl⟩
   have HS:=hide hd
   rw [←hd] at S
   clear hd
   go_enter Tryz.func27,Tryz.ntmps27
   go_wp2_with fail
   refine (P.out w1 hb1).mono ?_
   rintro e w2 ⟨rfl,hb2⟩
   have hb12:=fresh hb1 hb2
   have HG2:=hide (HF1.out.below hb2)
   have hs12:=Nat.lt_of_lt_of_le hs1 hb2.size
   clear a0 a1 a2 a3 a4 a5 a6
   obtain⟨w3,hw3,F3,hs3,hb3⟩:=mail_box w2 (.int .u8 0) (.int .u32 0) (.int .u8 0) (.int .i64 0) (.slice none 0 0) (.slice none 0 0) (.slice none 0 0)
   have hb13:=fresh hb12 hb3
   have G3:=HG2.out.below hb3
   have hne:w.heap.size≠w2.heap.size:=by omega
   have z0:=F3.fr 0
   obtain⟨w4,hw4⟩:∃ q,w3.setCell ⟨w2.heap.size,0,none⟩ (.int .u8 k2)=q:=⟨_,rfl⟩
   have F4:MB w4 w2.heap.size (.int .u8 k2) (.int .u32 0) (.int .u8 0) (.int .i64 0) (.slice none 0 0) (.slice none 0 0) (.slice none 0 0):=by rw [←hw4];exact F3.set0 _
   have G4:=G3.other hne 0 (.int .u8 k2)
   rw [hw4] at G4
   have hb14:Below w.heap.size w w4:=by rw [←hw4];exact hb13.setCell (Nat.le_of_lt hs12) _
   have y0:=F3.cells.1
   have z1:=F4.fr 1
   obtain⟨w5,hw5⟩:∃ q,w4.setCell ⟨w2.heap.size,1,none⟩ (.int .u32 t2)=q:=⟨_,rfl⟩
   have F5:MB w5 w2.heap.size (.int .u8 k2) (.int .u32 t2) (.int .u8 0) (.int .i64 0) (.slice none 0 0) (.slice none 0 0) (.slice none 0 0):=by rw [←hw5];exact F4.set1 _
   have G5:=G4.other hne 1 (.int .u32 t2)
   rw [hw5] at G5
   have hb15:Below w.heap.size w w5:=by rw [←hw5];exact hb14.setCell (Nat.le_of_lt hs12) _
   have y1:=F4.cells.2.1
   have z2:=F5.fr 2
   obtain⟨w6,hw6⟩:∃ q,w5.setCell ⟨w2.heap.size,2,none⟩ (.int .u8 r2)=q:=⟨_,rfl⟩
   have F6:MB w6 w2.heap.size (.int .u8 k2) (.int .u32 t2) (.int .u8 r2) (.int .i64 0) (.slice none 0 0) (.slice none 0 0) (.slice none 0 0):=by rw [←hw6];exact F5.set2 _
   have G6:=G5.other hne 2 (.int .u8 r2)
   rw [hw6] at G6
   have hb16:Below w.heap.size w w6:=by rw [←hw6];exact hb15.setCell (Nat.le_of_lt hs12) _
   have y2:=F5.cells.2.2.1
   have z3:=F6.fr 3
   obtain⟨w7,hw7⟩:∃ q,w6.setCell ⟨w2.heap.size,3,none⟩ (.int .i64 ix2)=q:=⟨_,rfl⟩
   have F7:MB w7 w2.heap.size (.int .u8 k2) (.int .u32 t2) (.int .u8 r2) (.int .i64 ix2) (.slice none 0 0) (.slice none 0 0) (.slice none 0 0):=by rw [←hw7];exact F6.set3 _
   have G7:=G6.other hne 3 (.int .i64 ix2)
   rw [hw7] at G7
   have hb17:Below w.heap.size w w7:=by rw [←hw7];exact hb16.setCell (Nat.le_of_lt hs12) _
   have y3:=F6.cells.2.2.2.1
   have z4:=F7.fr 4
   obtain⟨w8,hw8⟩:∃ q,w7.setCell ⟨w2.heap.size,4,none⟩ (.slice iA2 in2 ic2)=q:=⟨_,rfl⟩
   have F8:MB w8 w2.heap.size (.int .u8 k2) (.int .u32 t2) (.int .u8 r2) (.int .i64 ix2) (.slice iA2 in2 ic2) (.slice none 0 0) (.slice none 0 0):=by rw [←hw8];exact F7.set4 _
   have G8:=G7.other hne 4 (.slice iA2 in2 ic2)
   rw [hw8] at G8
   have hb18:Below w.heap.size w w8:=by rw [←hw8];exact hb17.setCell (Nat.le_of_lt hs12) _
   have y4:=F7.cells.2.2.2.2.1
   have z5:=F8.fr 5
   obtain⟨w9,hw9⟩:∃ q,w8.setCell ⟨w2.heap.size,5,none⟩ (.slice oA2 on2 oc2)=q:=⟨_,rfl⟩
   have F9:MB w9 w2.heap.size (.int .u8 k2) (.int .u32 t2) (.int .u8 r2) (.int .i64 ix2) (.slice iA2 in2 ic2) (.slice oA2 on2 oc2) (.slice none 0 0):=by rw [←hw9];exact F8.set5 _
   have G9:=G8.other hne 5 (.slice oA2 on2 oc2)
   rw [hw9] at G9
   have hb19:Below w.heap.size w w9:=by rw [←hw9];exact hb18.setCell (Nat.le_of_lt hs12) _
   have y5:=F8.cells.2.2.2.2.2.1
   have z6:=F9.fr 6
   obtain⟨w10,hw10⟩:∃ q,w9.setCell ⟨w2.heap.size,6,none⟩ (.slice sA2 sn2 sc2)=q:=⟨_,rfl⟩
   have F10:MB w10 w2.heap.size (.int .u8 k2) (.int .u32 t2) (.int .u8 r2) (.int .i64 ix2) (.slice iA2 in2 ic2) (.slice oA2 on2 oc2) (.slice sA2 sn2 sc2):=by rw [←hw10];exact F9.set6 _
   have G10:=G9.other hne 6 (.slice sA2 sn2 sc2)
   rw [hw10] at G10
   have hb110:Below w.heap.size w w10:=by rw [←hw10];exact hb19.setCell (Nat.le_of_lt hs12) _
   have y6:=F9.cells.2.2.2.2.2.2
   obtain⟨b0,b1,b2,b3,b4,b5,b6⟩:=F10.cells
   obtain⟨c0,c1,c2,c3,c4,c5,c6⟩:=G10.cells
   clear F3 G3 F4 G4 F5 G5 F6 G6 F7 G7 F8 G8 F9 G9 F10 G10
   have S10:=hide (S.out w10 hb110)
   cases d with
   | false=>
     have hE:=hide (show chkM m=8 from if_neg (fun h=>(decide_eq_false_iff_not.1 HS.out.symm) h.2))
     go_wp2_with fail
     refine S10.out.mono ?_
     rintro e w11 ⟨rfl,hb11⟩
     go_wp2_with fail
     go_ret
     exact⟨by rw [hE.out];rfl,fresh hb110 hb11⟩
   | true=>
     have hE:=hide (show chkM m=0 from if_pos ⟨decide_eq_true_iff.1 Hd.out.symm,decide_eq_true_iff.1 HS.out.symm⟩)
     go_wp2_with fail
     refine S10.out.mono ?_
     rintro e w11 ⟨rfl,hb11⟩
     go_wp2_with fail
     go_ret
     exact⟨by rw [hE.out];rfl,fresh hb110 hb11⟩
end Go.Proofs.YtmkpfdcnikgokaaGreat
