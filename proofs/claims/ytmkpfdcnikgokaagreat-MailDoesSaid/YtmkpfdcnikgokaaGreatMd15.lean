/-
  Texts of this claim, put together: MailPlain, Claims2. What each theorem asks stands in its statement.
-/
import Derived.Test.YtmkpfdcnikgokaaGreatMd9
import Derived.Test.YtmkpfdcnikgokaaGreatMd14
set_option linter.unusedVariables false
set_option linter.unusedSimpArgs false
set_option maxRecDepth 100000
set_option maxHeartbeats 25600000
namespace Go.Proofs.YtmkpfdcnikgokaaGreat
open Go.RowKit
theorem Ak {w:World} {a:Addr} {v:Value} (h:w.cell? a=some v):w.setCell a v=w:=by
 unfold World.cell? at h;have e:w.heap.modify a.block (fun | .cells c elem frozen=> .cells (if a.spot.isSome then c else c.setIfInBounds a.off v) elem frozen | o=>o)=w.heap:=by
  apply Array.ext_getElem?;intro i;rw [Array.getElem?_modify];split
  ·rename_i hi
   subst hi
   cases hq:w.heap[a.block]? with
   | none=>rfl
   | some o=>
     rw [hq] at h
     cases o with
     | cells c elem fz=>
       simp only at h;simp only [Option.map_some];split
       ·rfl
       ·rename_i hs
        rw [if_neg hs] at h;obtain⟨ai,rfl⟩:=Array.getElem?_eq_some_iff.1 h;rw [Array.setIfInBounds,dif_pos ai,Array.set_getElem_self]
     | _=>cases h
  ·rfl
 exact congrArg (fun hp=>({ w with heap:=hp }:World)) e
theorem Fw {w u:World} {a:Addr} {v:Value} (h:w.cell? a=some v) (hb:a.block < w.heap.size):(Bs w u).setCell a v=Bs w u:=Ak ((Xe w u a hb).trans h)
abbrev Ci (k t r ix:Int) (i o s:Value):Value:= .agg #[.int .u8 k,.int .u32 t,.int .u8 r,.int .i64 ix,i,o,s]
def MB (w:World) (g:Nat) (a b c d e f h:Value):Prop:=w.heap[g]?=some (.cells #[a,b,c,d,e,f,h] 51 (0,0))
section
variable {w w':World} {g g':Nat} {a b c d e f h:Value}
theorem MB.lt (hF:MB w g a b c d e f h):g < w.heap.size:=(Array.getElem?_eq_some_iff.1 hF).1
theorem MB.below (hF:MB w g a b c d e f h) (hb:Below w.heap.size w w'):MB w' g a b c d e f h:=(hb.block g hF.lt).trans hF
theorem MB.only (hF:MB w g a b c d e f h) (ho:Ah g' w w') (ak:g≠g'):MB w' g a b c d e f h:=(ho.2 g ak hF.lt).trans hF
theorem MB.fr (hF:MB w g a b c d e f h) (off:Nat):w.frozen? ⟨g,off,none⟩=false:=frozen_of_row w g off _ _ hF
theorem MB.cells (hF:MB w g a b c d e f h):w.cell? ⟨g,0,none⟩=some a/\w.cell? ⟨g,1,none⟩=some b/\w.cell? ⟨g,2,none⟩=some c/\w.cell? ⟨g,3,none⟩=some d/\w.cell? ⟨g,4,none⟩=some e/\w.cell? ⟨g,5,none⟩=some f/\w.cell? ⟨g,6,none⟩=some h:=by
 refine⟨?_,?_,?_,?_,?_,?_,?_⟩ <;> (rw [cell_of_row _ _ _ _ _ _ hF];rfl)
theorem MB.set0 (hF:MB w g a b c d e f h) (v:Value):MB (w.setCell ⟨g,0,none⟩ v) g v b c d e f h:=heap_setCell_same _ _ _ _ _ _ hF
theorem MB.set1 (hF:MB w g a b c d e f h) (v:Value):MB (w.setCell ⟨g,1,none⟩ v) g a v c d e f h:=heap_setCell_same _ _ _ _ _ _ hF
theorem MB.set2 (hF:MB w g a b c d e f h) (v:Value):MB (w.setCell ⟨g,2,none⟩ v) g a b v d e f h:=heap_setCell_same _ _ _ _ _ _ hF
theorem MB.set3 (hF:MB w g a b c d e f h) (v:Value):MB (w.setCell ⟨g,3,none⟩ v) g a b c v e f h:=heap_setCell_same _ _ _ _ _ _ hF
theorem MB.set4 (hF:MB w g a b c d e f h) (v:Value):MB (w.setCell ⟨g,4,none⟩ v) g a b c d v f h:=heap_setCell_same _ _ _ _ _ _ hF
theorem MB.set5 (hF:MB w g a b c d e f h) (v:Value):MB (w.setCell ⟨g,5,none⟩ v) g a b c d e v h:=heap_setCell_same _ _ _ _ _ _ hF
theorem MB.set6 (hF:MB w g a b c d e f h) (v:Value):MB (w.setCell ⟨g,6,none⟩ v) g a b c d e f v:=heap_setCell_same _ _ _ _ _ _ hF
theorem MB.other (hF:MB w g a b c d e f h) (ak:g≠g') (off:Nat) (v:Value):MB (w.setCell ⟨g',off,none⟩ v) g a b c d e f h:=by
 exact (heap_setCell_other _ _ _ _ ak).trans hF
end
theorem Am (w:World) (a b c d e f h:Value):∃ w2,w.alloc (.cells #[a,b,c,d,e,f,h] 51)=w2/\MB w2 w.heap.size a b c d e f h/\w.heap.size < w2.heap.size/\Below w.heap.size w w2:=
 ⟨_,rfl,heap_alloc_new _ _,by simp,Bf _ _⟩
theorem MB.self {w:World} {g:Nat} {a b c d e f h:Value} (hF:MB w g a b c d e f h) (u:World):(Bs w u).setCell ⟨g,0,none⟩ a=Bs w u/\(Bs w u).setCell ⟨g,1,none⟩ b=Bs w u/\(Bs w u).setCell ⟨g,2,none⟩ c=Bs w u/\(Bs w u).setCell ⟨g,3,none⟩ d=Bs w u/\(Bs w u).setCell ⟨g,4,none⟩ e=Bs w u/\(Bs w u).setCell ⟨g,5,none⟩ f=Bs w u/\(Bs w u).setCell ⟨g,6,none⟩ h=Bs w u:=by
 obtain⟨c0,c1,c2,c3,c4,c5,c6⟩:=hF.cells;exact⟨Fw c0 hF.lt,Fw c1 hF.lt,Fw c2 hF.lt,Fw c3 hF.lt,Fw c4 hF.lt,Fw c5 hF.lt,Fw c6 hF.lt⟩
theorem Yp (k:Int) (hk:k=1\/k=4) (t r ix:Int) (iA oA sA:Option Addr) (ni ic no oc ns sc:Nat) (x:Bool) (w:World) (hP:∀ W,Below w.heap.size w W->Calls Tryz.prog 110 #[.slice oA no oc,.int .i64 64] W fun e w'=>e= .returned (.bool x)/\Below W.heap.size W w'):
 Calls Tryz.prog 72 #[Ci k t r ix (.slice iA ni ic) (.slice oA no oc) (.slice sA ns sc)] w fun e w'=>e= .returned (.tuple #[.agg #[.int .u8 k,.int .u32 0,.int .u8 0,.int .i64 0,.slice none 0 0,.slice oA no oc,.slice none 0 0],.bool (x)])/\Below w.heap.size w w':=by
 obtain⟨w1,au,F1,af,ac⟩:=Am w (.int .u8 k) (.int .u32 t) (.int .u8 r) (.int .i64 ix) (.slice iA ni ic) (.slice oA no oc) (.slice sA ns sc);obtain⟨w2,fc,F2,cd,ae⟩:=Am w1 (.int .u8 0) (.int .u32 0) (.int .u8 0) (.int .i64 0) (.slice none 0 0) (.slice none 0 0) (.slice none 0 0);have cg:=Ad ac ae;have ak:w.heap.size≠w1.heap.size:=by omega
 have G2:=F1.below ae;have fz2:=F2.fr 0;obtain⟨w3,b8⟩:∃ q,w2.setCell ⟨w1.heap.size,0,none⟩ (.int .u8 k)=q:=⟨_,rfl⟩;have F3:MB w3 w1.heap.size (.int .u8 k) (.int .u32 0) (.int .u8 0) (.int .i64 0) (.slice none 0 0) (.slice none 0 0) (.slice none 0 0):=by rw [<-b8];exact F2.set0 _
 have G3:MB w3 w.heap.size (.int .u8 k) (.int .u32 t) (.int .u8 r) (.int .i64 ix) (.slice iA ni ic) (.slice oA no oc) (.slice sA ns sc):=by rw [<-b8];exact G2.other ak _ _
 have jn:Below w.heap.size w w3:=by rw [<-b8];exact cg.setCell (Nat.le_of_lt af) _
 have fz3:=F3.fr 5;obtain⟨w4,eo⟩:∃ q,w3.setCell ⟨w1.heap.size,5,none⟩ (.slice oA no oc)=q:=⟨_,rfl⟩;have F4:MB w4 w1.heap.size (.int .u8 k) (.int .u32 0) (.int .u8 0) (.int .i64 0) (.slice none 0 0) (.slice oA no oc) (.slice none 0 0):=by rw [<-eo];exact F3.set5 _
 have G4:MB w4 w.heap.size (.int .u8 k) (.int .u32 t) (.int .u8 r) (.int .i64 ix) (.slice iA ni ic) (.slice oA no oc) (.slice sA ns sc):=by rw [<-eo];exact G3.other ak _ _
 have fk:Below w.heap.size w w4:=by rw [<-eo];exact jn.setCell (Nat.le_of_lt af) _
 obtain⟨ZB,ZA,YZ,YY,YX,YW,YV⟩:=F2.cells;obtain⟨ZP,ZO,ZN,ZM,ZL,ZK,ZJ⟩:=G2.cells;obtain⟨TQ,TP,TO,TN,TM,TL,TI⟩:=F3.cells;obtain⟨ZI,ZH,m32,ZG,ZF,ZE,ZD⟩:=G3.cells;obtain⟨p40,p41,p42,p43,p44,p45,p46⟩:=F4.cells;obtain⟨m40,m41,m42,m43,m44,m45,m46⟩:=G4.cells;have S0:=fun u=>(F4.self u).1;have S1:=fun u=>(F4.self u).2.1;have S2:=fun u=>(F4.self u).2.2.1;have S3:=fun u=>(F4.self u).2.2.2.1;have S4:=fun u=>(F4.self u).2.2.2.2.1;have S5:=fun u=>(F4.self u).2.2.2.2.2.1;have S6:=fun u=>(F4.self u).2.2.2.2.2.2;have z0:=F4.fr 0;have z1:=F4.fr 1;have z2:=F4.fr 2;have z3:=F4.fr 3;have z4:=F4.fr 4;have z5:=F4.fr 5;have z6:=F4.fr 6;have j6:w.heap.size < w4.heap.size:=G4.lt;have gm:w1.heap.size < w4.heap.size:=F4.lt;have P:=Aa (fun u=>hP (Bs w4 u) (fk.trans ((Af w4 u).mono fk.size)));clear hP;have oi:=Aa F4;clear F2 G2 F3 G3 F4 G4;clear F1;rcases hk with rfl | rfl
 ·go_enter Tryz.func72,Tryz.ntmps72;go_wp2_with fail;refine Aj (by kernel_rfl) (by kernel_rfl) ?_
  repeat (
   refine WQ.step (fun K hK=>?_)
   go_simp
   first
    | (refine hK _ ?_;clear hK K)
    | (apply Exists.intro
       refine⟨fun _=>?_,hK _ ?_⟩
       (first
         | (go_at_call 110;with_reducible exact Al (Ag P _)))
       clear hK K))
  refine WQ.nil ?_;intro u;go_wp2_with fail;obtain⟨v0,v1,v2,v3,v4,v5,v6⟩:=(oi.out.below (Af w4 u)).cells;refine bodyPost_ret (v:= .tuple #[.agg #[.int .u8 1,.int .u32 0,.int .u8 0,.int .i64 0,.slice none 0 0,.slice oA no oc,.slice none 0 0],.bool (x)]) (by simp [results,Tryz.results72,go_sem,v0,v1,v2,v3,v4,v5,v6]) rfl ?_;exact⟨rfl,fk.trans ((Af w4 u).mono fk.size)⟩
 ·go_enter Tryz.func72,Tryz.ntmps72;go_wp2_with fail;refine Aj (by kernel_rfl) (by kernel_rfl) ?_
  repeat (
   refine WQ.step (fun K hK=>?_)
   go_simp
   first
    | (refine hK _ ?_;clear hK K)
    | (apply Exists.intro
       refine⟨fun _=>?_,hK _ ?_⟩
       (first
         | (go_at_call 110;with_reducible exact Al (Ag P _)))
       clear hK K))
  refine WQ.nil ?_;intro u;go_wp2_with fail;obtain⟨v0,v1,v2,v3,v4,v5,v6⟩:=(oi.out.below (Af w4 u)).cells;refine bodyPost_ret (v:= .tuple #[.agg #[.int .u8 4,.int .u32 0,.int .u8 0,.int .i64 0,.slice none 0 0,.slice oA no oc,.slice none 0 0],.bool (x)]) (by simp [results,Tryz.results72,go_sem,v0,v1,v2,v3,v4,v5,v6]) rfl ?_;exact⟨rfl,fk.trans ((Af w4 u).mono fk.size)⟩
theorem Yq (k:Int) (hk:k=2) (t r ix:Int) (iA oA sA:Option Addr) (ni ic no oc ns sc:Nat) (x:Bool) (w:World) (hP:∀ W,Below w.heap.size w W->Calls Tryz.prog 111 #[.slice iA ni ic] W fun e w'=>e= .returned (.bool x)/\Below W.heap.size W w'):
 Calls Tryz.prog 72 #[Ci k t r ix (.slice iA ni ic) (.slice oA no oc) (.slice sA ns sc)] w fun e w'=>e= .returned (.tuple #[.agg #[.int .u8 k,.int .u32 0,.int .u8 0,.int .i64 0,.slice iA ni ic,.slice none 0 0,.slice none 0 0],.bool (x)])/\Below w.heap.size w w':=by
 obtain⟨w1,au,F1,af,ac⟩:=Am w (.int .u8 k) (.int .u32 t) (.int .u8 r) (.int .i64 ix) (.slice iA ni ic) (.slice oA no oc) (.slice sA ns sc);obtain⟨w2,fc,F2,cd,ae⟩:=Am w1 (.int .u8 0) (.int .u32 0) (.int .u8 0) (.int .i64 0) (.slice none 0 0) (.slice none 0 0) (.slice none 0 0);have cg:=Ad ac ae;have ak:w.heap.size≠w1.heap.size:=by omega
 have G2:=F1.below ae;have fz2:=F2.fr 0;obtain⟨w3,b8⟩:∃ q,w2.setCell ⟨w1.heap.size,0,none⟩ (.int .u8 k)=q:=⟨_,rfl⟩;have F3:MB w3 w1.heap.size (.int .u8 k) (.int .u32 0) (.int .u8 0) (.int .i64 0) (.slice none 0 0) (.slice none 0 0) (.slice none 0 0):=by rw [<-b8];exact F2.set0 _
 have G3:MB w3 w.heap.size (.int .u8 k) (.int .u32 t) (.int .u8 r) (.int .i64 ix) (.slice iA ni ic) (.slice oA no oc) (.slice sA ns sc):=by rw [<-b8];exact G2.other ak _ _
 have jn:Below w.heap.size w w3:=by rw [<-b8];exact cg.setCell (Nat.le_of_lt af) _
 have fz3:=F3.fr 4;obtain⟨w4,eo⟩:∃ q,w3.setCell ⟨w1.heap.size,4,none⟩ (.slice iA ni ic)=q:=⟨_,rfl⟩;have F4:MB w4 w1.heap.size (.int .u8 k) (.int .u32 0) (.int .u8 0) (.int .i64 0) (.slice iA ni ic) (.slice none 0 0) (.slice none 0 0):=by rw [<-eo];exact F3.set4 _
 have G4:MB w4 w.heap.size (.int .u8 k) (.int .u32 t) (.int .u8 r) (.int .i64 ix) (.slice iA ni ic) (.slice oA no oc) (.slice sA ns sc):=by rw [<-eo];exact G3.other ak _ _
 have fk:Below w.heap.size w w4:=by rw [<-eo];exact jn.setCell (Nat.le_of_lt af) _
 obtain⟨ZB,ZA,YZ,YY,YX,YW,YV⟩:=F2.cells;obtain⟨ZP,ZO,ZN,ZM,ZL,ZK,ZJ⟩:=G2.cells;obtain⟨TQ,TP,TO,TN,TM,TL,TI⟩:=F3.cells;obtain⟨ZI,ZH,m32,ZG,ZF,ZE,ZD⟩:=G3.cells;obtain⟨p40,p41,p42,p43,p44,p45,p46⟩:=F4.cells;obtain⟨m40,m41,m42,m43,m44,m45,m46⟩:=G4.cells;have S0:=fun u=>(F4.self u).1;have S1:=fun u=>(F4.self u).2.1;have S2:=fun u=>(F4.self u).2.2.1;have S3:=fun u=>(F4.self u).2.2.2.1;have S4:=fun u=>(F4.self u).2.2.2.2.1;have S5:=fun u=>(F4.self u).2.2.2.2.2.1;have S6:=fun u=>(F4.self u).2.2.2.2.2.2;have z0:=F4.fr 0;have z1:=F4.fr 1;have z2:=F4.fr 2;have z3:=F4.fr 3;have z4:=F4.fr 4;have z5:=F4.fr 5;have z6:=F4.fr 6;have j6:w.heap.size < w4.heap.size:=G4.lt;have gm:w1.heap.size < w4.heap.size:=F4.lt;have P:=Aa (fun u=>hP (Bs w4 u) (fk.trans ((Af w4 u).mono fk.size)));clear hP;have oi:=Aa F4;clear F2 G2 F3 G3 F4 G4;clear F1;subst hk;go_enter Tryz.func72,Tryz.ntmps72;go_wp2_with fail;refine Aj (by kernel_rfl) (by kernel_rfl) ?_
 repeat (
  refine WQ.step (fun K hK=>?_)
  go_simp
  first
   | (refine hK _ ?_;clear hK K)
   | (apply Exists.intro
      refine⟨fun _=>?_,hK _ ?_⟩
      (first
        | (go_at_call 111;with_reducible exact Al (Ag P _)))
      clear hK K))
 refine WQ.nil ?_;intro u;go_wp2_with fail;obtain⟨v0,v1,v2,v3,v4,v5,v6⟩:=(oi.out.below (Af w4 u)).cells;refine bodyPost_ret (v:= .tuple #[.agg #[.int .u8 2,.int .u32 0,.int .u8 0,.int .i64 0,.slice iA ni ic,.slice none 0 0,.slice none 0 0],.bool (x)]) (by simp [results,Tryz.results72,go_sem,v0,v1,v2,v3,v4,v5,v6]) rfl ?_;exact⟨rfl,fk.trans ((Af w4 u).mono fk.size)⟩
theorem Wm (k:Int) (hk:k=3) (t r ix:Int) (iA oA sA:Option Addr) (ni ic no oc ns sc:Nat) (x y:Bool) (w:World) (hP:∀ W,Below w.heap.size w W->Calls Tryz.prog 111 #[.slice iA ni ic] W fun e w'=>e= .returned (.bool x)/\Below W.heap.size W w') (hQ:∀ W,Below w.heap.size w W->Calls Tryz.prog 112 #[.slice sA ns sc] W fun e w'=>e= .returned (.bool y)/\Below W.heap.size W w'):
 Calls Tryz.prog 72 #[Ci k t r ix (.slice iA ni ic) (.slice oA no oc) (.slice sA ns sc)] w fun e w'=>e= .returned (.tuple #[.agg #[.int .u8 k,.int .u32 0,.int .u8 0,.int .i64 0,.slice iA ni ic,.slice none 0 0,.slice sA ns sc],.bool (x && y)])/\Below w.heap.size w w':=by
 obtain⟨w1,au,F1,af,ac⟩:=Am w (.int .u8 k) (.int .u32 t) (.int .u8 r) (.int .i64 ix) (.slice iA ni ic) (.slice oA no oc) (.slice sA ns sc);obtain⟨w2,fc,F2,cd,ae⟩:=Am w1 (.int .u8 0) (.int .u32 0) (.int .u8 0) (.int .i64 0) (.slice none 0 0) (.slice none 0 0) (.slice none 0 0);have cg:=Ad ac ae;have ak:w.heap.size≠w1.heap.size:=by omega
 have G2:=F1.below ae;have fz2:=F2.fr 0;obtain⟨w3,b8⟩:∃ q,w2.setCell ⟨w1.heap.size,0,none⟩ (.int .u8 k)=q:=⟨_,rfl⟩;have F3:MB w3 w1.heap.size (.int .u8 k) (.int .u32 0) (.int .u8 0) (.int .i64 0) (.slice none 0 0) (.slice none 0 0) (.slice none 0 0):=by rw [<-b8];exact F2.set0 _
 have G3:MB w3 w.heap.size (.int .u8 k) (.int .u32 t) (.int .u8 r) (.int .i64 ix) (.slice iA ni ic) (.slice oA no oc) (.slice sA ns sc):=by rw [<-b8];exact G2.other ak _ _
 have jn:Below w.heap.size w w3:=by rw [<-b8];exact cg.setCell (Nat.le_of_lt af) _
 have fz3:=F3.fr 4;obtain⟨w4,eo⟩:∃ q,w3.setCell ⟨w1.heap.size,4,none⟩ (.slice iA ni ic)=q:=⟨_,rfl⟩;have F4:MB w4 w1.heap.size (.int .u8 k) (.int .u32 0) (.int .u8 0) (.int .i64 0) (.slice iA ni ic) (.slice none 0 0) (.slice none 0 0):=by rw [<-eo];exact F3.set4 _
 have G4:MB w4 w.heap.size (.int .u8 k) (.int .u32 t) (.int .u8 r) (.int .i64 ix) (.slice iA ni ic) (.slice oA no oc) (.slice sA ns sc):=by rw [<-eo];exact G3.other ak _ _
 have fk:Below w.heap.size w w4:=by rw [<-eo];exact jn.setCell (Nat.le_of_lt af) _
 have fz4:=F4.fr 6;obtain⟨w5,b9⟩:∃ q,w4.setCell ⟨w1.heap.size,6,none⟩ (.slice sA ns sc)=q:=⟨_,rfl⟩;have F5:MB w5 w1.heap.size (.int .u8 k) (.int .u32 0) (.int .u8 0) (.int .i64 0) (.slice iA ni ic) (.slice none 0 0) (.slice sA ns sc):=by rw [<-b9];exact F4.set6 _
 have G5:MB w5 w.heap.size (.int .u8 k) (.int .u32 t) (.int .u8 r) (.int .i64 ix) (.slice iA ni ic) (.slice oA no oc) (.slice sA ns sc):=by rw [<-b9];exact G4.other ak _ _
 have pp:Below w.heap.size w w5:=by rw [<-b9];exact fk.setCell (Nat.le_of_lt af) _
 obtain⟨w6,it⟩:∃ q,w5.drew=q:=⟨_,rfl⟩;have F6:MB w6 w1.heap.size (.int .u8 k) (.int .u32 0) (.int .u8 0) (.int .i64 0) (.slice iA ni ic) (.slice none 0 0) (.slice sA ns sc):=by rw [<-it];exact F5
 have G6:MB w6 w.heap.size (.int .u8 k) (.int .u32 t) (.int .u8 r) (.int .i64 ix) (.slice iA ni ic) (.slice oA no oc) (.slice sA ns sc):=by rw [<-it];exact G5
 have lw:Below w.heap.size w w6:=by rw [<-it];exact pp.drew
 obtain⟨ZB,ZA,YZ,YY,YX,YW,YV⟩:=F2.cells;obtain⟨ZP,ZO,ZN,ZM,ZL,ZK,ZJ⟩:=G2.cells;obtain⟨TQ,TP,TO,TN,TM,TL,TI⟩:=F3.cells;obtain⟨ZI,ZH,m32,ZG,ZF,ZE,ZD⟩:=G3.cells;obtain⟨p40,p41,p42,p43,p44,p45,p46⟩:=F4.cells;obtain⟨m40,m41,m42,m43,m44,m45,m46⟩:=G4.cells;obtain⟨p50,p51,p52,p53,p54,p55,p56⟩:=F5.cells;obtain⟨m50,m51,m52,m53,m54,m55,m56⟩:=G5.cells;obtain⟨p60,p61,p62,p63,p64,p65,p66⟩:=F6.cells;obtain⟨m60,m61,m62,m63,m64,m65,m66⟩:=G6.cells;have S0:=fun u=>(F6.self u).1;have S1:=fun u=>(F6.self u).2.1;have S2:=fun u=>(F6.self u).2.2.1;have S3:=fun u=>(F6.self u).2.2.2.1;have S4:=fun u=>(F6.self u).2.2.2.2.1;have S5:=fun u=>(F6.self u).2.2.2.2.2.1;have S6:=fun u=>(F6.self u).2.2.2.2.2.2;have z0:=F6.fr 0;have z1:=F6.fr 1;have z2:=F6.fr 2;have z3:=F6.fr 3;have z4:=F6.fr 4;have z5:=F6.fr 5;have z6:=F6.fr 6;have j6:w.heap.size < w6.heap.size:=G6.lt;have gm:w1.heap.size < w6.heap.size:=F6.lt;have P:=Aa (fun u=>hP (Bs w6 u) (lw.trans ((Af w6 u).mono lw.size)));clear hP;have Q:=Aa (fun u=>hQ (Bs w6 u) (lw.trans ((Af w6 u).mono lw.size)));clear hQ;have oi:=Aa F6;clear F2 G2 F3 G3 F4 G4 F5 G5 F6 G6;clear F1;subst hk
 cases x with
 | false=>
   go_enter Tryz.func72,Tryz.ntmps72;go_wp2_with fail
   go_region
   go_wp2_with fail;refine Aj (by kernel_rfl) (by kernel_rfl) ?_
   repeat (
    refine WQ.step (fun K hK=>?_)
    go_simp
    first
     | (refine hK _ ?_;clear hK K)
     | (apply Exists.intro
        refine⟨fun _=>?_,hK _ ?_⟩
        (first
          | (go_at_call 111;with_reducible exact Al (Ag P _))
          | (go_at_call 112;with_reducible exact Al (Ag Q _)))
        clear hK K))
   refine WQ.nil ?_;intro u;go_wp2_with fail;obtain⟨v0,v1,v2,v3,v4,v5,v6⟩:=(oi.out.below (Af w6 u)).cells;refine bodyPost_ret (v:= .tuple #[.agg #[.int .u8 3,.int .u32 0,.int .u8 0,.int .i64 0,.slice iA ni ic,.slice none 0 0,.slice sA ns sc],.bool (false)]) (by simp [results,Tryz.results72,go_sem,v0,v1,v2,v3,v4,v5,v6]) rfl ?_;exact⟨rfl,lw.trans ((Af w6 u).mono lw.size)⟩
 | true=>
   go_enter Tryz.func72,Tryz.ntmps72;go_wp2_with fail
   go_region
   go_wp2_with fail;refine Aj (by kernel_rfl) (by kernel_rfl) ?_
   repeat (
    refine WQ.step (fun K hK=>?_)
    go_simp
    first
     | (refine hK _ ?_;clear hK K)
     | (apply Exists.intro
        refine⟨fun _=>?_,hK _ ?_⟩
        (first
          | (go_at_call 111;with_reducible exact Al (Ag P _))
          | (go_at_call 112;with_reducible exact Al (Ag Q _)))
        clear hK K))
   refine WQ.nil ?_;intro u;go_wp2_with fail;obtain⟨v0,v1,v2,v3,v4,v5,v6⟩:=(oi.out.below (Af w6 u)).cells;refine bodyPost_ret (v:= .tuple #[.agg #[.int .u8 3,.int .u32 0,.int .u8 0,.int .i64 0,.slice iA ni ic,.slice none 0 0,.slice sA ns sc],.bool (y)]) (by simp [results,Tryz.results72,go_sem,v0,v1,v2,v3,v4,v5,v6]) rfl ?_;exact⟨rfl,lw.trans ((Af w6 u).mono lw.size)⟩
theorem P8 (k:Int) (hk:k=5) (t r ix:Int) (iA oA sA:Option Addr) (ni ic no oc ns sc:Nat) (x y:Bool) (w:World) (hP:∀ W,Below w.heap.size w W->Calls Tryz.prog 113 #[.agg #[.int .u32 t,.int .u8 r]] W fun e w'=>e= .returned (.bool x)/\Below W.heap.size W w') (hQ:∀ W,Below w.heap.size w W->Calls Tryz.prog 111 #[.slice iA ni ic] W fun e w'=>e= .returned (.bool y)/\Below W.heap.size W w'):
 Calls Tryz.prog 72 #[Ci k t r ix (.slice iA ni ic) (.slice oA no oc) (.slice sA ns sc)] w fun e w'=>e= .returned (.tuple #[.agg #[.int .u8 k,.int .u32 t,.int .u8 r,.int .i64 0,.slice iA ni ic,.slice none 0 0,.slice none 0 0],.bool (x && y)])/\Below w.heap.size w w':=by
 obtain⟨w1,au,F1,af,ac⟩:=Am w (.int .u8 k) (.int .u32 t) (.int .u8 r) (.int .i64 ix) (.slice iA ni ic) (.slice oA no oc) (.slice sA ns sc);obtain⟨w2,fc,F2,cd,ae⟩:=Am w1 (.int .u8 0) (.int .u32 0) (.int .u8 0) (.int .i64 0) (.slice none 0 0) (.slice none 0 0) (.slice none 0 0);have cg:=Ad ac ae;have ak:w.heap.size≠w1.heap.size:=by omega
 have G2:=F1.below ae;have fz2:=F2.fr 0;obtain⟨w3,b8⟩:∃ q,w2.setCell ⟨w1.heap.size,0,none⟩ (.int .u8 k)=q:=⟨_,rfl⟩;have F3:MB w3 w1.heap.size (.int .u8 k) (.int .u32 0) (.int .u8 0) (.int .i64 0) (.slice none 0 0) (.slice none 0 0) (.slice none 0 0):=by rw [<-b8];exact F2.set0 _
 have G3:MB w3 w.heap.size (.int .u8 k) (.int .u32 t) (.int .u8 r) (.int .i64 ix) (.slice iA ni ic) (.slice oA no oc) (.slice sA ns sc):=by rw [<-b8];exact G2.other ak _ _
 have jn:Below w.heap.size w w3:=by rw [<-b8];exact cg.setCell (Nat.le_of_lt af) _
 have fz3:=F3.fr 1;obtain⟨w4,eo⟩:∃ q,w3.setCell ⟨w1.heap.size,1,none⟩ (.int .u32 t)=q:=⟨_,rfl⟩;have F4:MB w4 w1.heap.size (.int .u8 k) (.int .u32 t) (.int .u8 0) (.int .i64 0) (.slice none 0 0) (.slice none 0 0) (.slice none 0 0):=by rw [<-eo];exact F3.set1 _
 have G4:MB w4 w.heap.size (.int .u8 k) (.int .u32 t) (.int .u8 r) (.int .i64 ix) (.slice iA ni ic) (.slice oA no oc) (.slice sA ns sc):=by rw [<-eo];exact G3.other ak _ _
 have fk:Below w.heap.size w w4:=by rw [<-eo];exact jn.setCell (Nat.le_of_lt af) _
 have fz4:=F4.fr 2;obtain⟨w5,b9⟩:∃ q,w4.setCell ⟨w1.heap.size,2,none⟩ (.int .u8 r)=q:=⟨_,rfl⟩;have F5:MB w5 w1.heap.size (.int .u8 k) (.int .u32 t) (.int .u8 r) (.int .i64 0) (.slice none 0 0) (.slice none 0 0) (.slice none 0 0):=by rw [<-b9];exact F4.set2 _
 have G5:MB w5 w.heap.size (.int .u8 k) (.int .u32 t) (.int .u8 r) (.int .i64 ix) (.slice iA ni ic) (.slice oA no oc) (.slice sA ns sc):=by rw [<-b9];exact G4.other ak _ _
 have pp:Below w.heap.size w w5:=by rw [<-b9];exact fk.setCell (Nat.le_of_lt af) _
 have fz5:=F5.fr 4;obtain⟨w6,it⟩:∃ q,w5.setCell ⟨w1.heap.size,4,none⟩ (.slice iA ni ic)=q:=⟨_,rfl⟩;have F6:MB w6 w1.heap.size (.int .u8 k) (.int .u32 t) (.int .u8 r) (.int .i64 0) (.slice iA ni ic) (.slice none 0 0) (.slice none 0 0):=by rw [<-it];exact F5.set4 _
 have G6:MB w6 w.heap.size (.int .u8 k) (.int .u32 t) (.int .u8 r) (.int .i64 ix) (.slice iA ni ic) (.slice oA no oc) (.slice sA ns sc):=by rw [<-it];exact G5.other ak _ _
 have lw:Below w.heap.size w w6:=by rw [<-it];exact pp.setCell (Nat.le_of_lt af) _
 obtain⟨w7,cc⟩:∃ q,w6.drew=q:=⟨_,rfl⟩;have F7:MB w7 w1.heap.size (.int .u8 k) (.int .u32 t) (.int .u8 r) (.int .i64 0) (.slice iA ni ic) (.slice none 0 0) (.slice none 0 0):=by rw [<-cc];exact F6
 have G7:MB w7 w.heap.size (.int .u8 k) (.int .u32 t) (.int .u8 r) (.int .i64 ix) (.slice iA ni ic) (.slice oA no oc) (.slice sA ns sc):=by rw [<-cc];exact G6
 have qq:Below w.heap.size w w7:=by rw [<-cc];exact lw.drew
 obtain⟨ZB,ZA,YZ,YY,YX,YW,YV⟩:=F2.cells;obtain⟨ZP,ZO,ZN,ZM,ZL,ZK,ZJ⟩:=G2.cells;obtain⟨TQ,TP,TO,TN,TM,TL,TI⟩:=F3.cells;obtain⟨ZI,ZH,m32,ZG,ZF,ZE,ZD⟩:=G3.cells;obtain⟨p40,p41,p42,p43,p44,p45,p46⟩:=F4.cells;obtain⟨m40,m41,m42,m43,m44,m45,m46⟩:=G4.cells;obtain⟨p50,p51,p52,p53,p54,p55,p56⟩:=F5.cells;obtain⟨m50,m51,m52,m53,m54,m55,m56⟩:=G5.cells;obtain⟨p60,p61,p62,p63,p64,p65,p66⟩:=F6.cells;obtain⟨m60,m61,m62,m63,m64,m65,m66⟩:=G6.cells;obtain⟨p70,p71,p72,p73,p74,p75,p76⟩:=F7.cells;obtain⟨m70,m71,m72,m73,m74,m75,m76⟩:=G7.cells;have S0:=fun u=>(F7.self u).1;have S1:=fun u=>(F7.self u).2.1;have S2:=fun u=>(F7.self u).2.2.1;have S3:=fun u=>(F7.self u).2.2.2.1;have S4:=fun u=>(F7.self u).2.2.2.2.1;have S5:=fun u=>(F7.self u).2.2.2.2.2.1;have S6:=fun u=>(F7.self u).2.2.2.2.2.2;have z0:=F7.fr 0;have z1:=F7.fr 1;have z2:=F7.fr 2;have z3:=F7.fr 3;have z4:=F7.fr 4;have z5:=F7.fr 5;have z6:=F7.fr 6;have j6:w.heap.size < w7.heap.size:=G7.lt;have gm:w1.heap.size < w7.heap.size:=F7.lt;have P:=Aa (fun u=>hP (Bs w7 u) (qq.trans ((Af w7 u).mono qq.size)));clear hP;have Q:=Aa (fun u=>hQ (Bs w7 u) (qq.trans ((Af w7 u).mono qq.size)));clear hQ;have oi:=Aa F7;clear F2 G2 F3 G3 F4 G4 F5 G5 F6 G6 F7 G7;clear F1;subst hk
 cases x with
 | false=>
   go_enter Tryz.func72,Tryz.ntmps72;go_wp2_with fail
   go_region
   go_wp2_with fail;refine Aj (by kernel_rfl) (by kernel_rfl) ?_
   repeat (
    refine WQ.step (fun K hK=>?_)
    go_simp
    first
     | (refine hK _ ?_;clear hK K)
     | (apply Exists.intro
        refine⟨fun _=>?_,hK _ ?_⟩
        (first
          | (go_at_call 113;with_reducible exact Al (Ag P _))
          | (go_at_call 111;with_reducible exact Al (Ag Q _)))
        clear hK K))
   refine WQ.nil ?_;intro u;go_wp2_with fail;obtain⟨v0,v1,v2,v3,v4,v5,v6⟩:=(oi.out.below (Af w7 u)).cells;refine bodyPost_ret (v:= .tuple #[.agg #[.int .u8 5,.int .u32 t,.int .u8 r,.int .i64 0,.slice iA ni ic,.slice none 0 0,.slice none 0 0],.bool (false)]) (by simp [results,Tryz.results72,go_sem,v0,v1,v2,v3,v4,v5,v6]) rfl ?_;exact⟨rfl,qq.trans ((Af w7 u).mono qq.size)⟩
 | true=>
   go_enter Tryz.func72,Tryz.ntmps72;go_wp2_with fail
   go_region
   go_wp2_with fail;refine Aj (by kernel_rfl) (by kernel_rfl) ?_
   repeat (
    refine WQ.step (fun K hK=>?_)
    go_simp
    first
     | (refine hK _ ?_;clear hK K)
     | (apply Exists.intro
        refine⟨fun _=>?_,hK _ ?_⟩
        (first
          | (go_at_call 113;with_reducible exact Al (Ag P _))
          | (go_at_call 111;with_reducible exact Al (Ag Q _)))
        clear hK K))
   refine WQ.nil ?_;intro u;go_wp2_with fail;obtain⟨v0,v1,v2,v3,v4,v5,v6⟩:=(oi.out.below (Af w7 u)).cells;refine bodyPost_ret (v:= .tuple #[.agg #[.int .u8 5,.int .u32 t,.int .u8 r,.int .i64 0,.slice iA ni ic,.slice none 0 0,.slice none 0 0],.bool (y)]) (by simp [results,Tryz.results72,go_sem,v0,v1,v2,v3,v4,v5,v6]) rfl ?_;exact⟨rfl,qq.trans ((Af w7 u).mono qq.size)⟩
theorem Uz (k:Int) (hk:k=6) (t r ix:Int) (iA oA sA:Option Addr) (ni ic no oc ns sc:Nat) (x y:Bool) (w:World) (hP:∀ W,Below w.heap.size w W->Calls Tryz.prog 113 #[.agg #[.int .u32 t,.int .u8 r]] W fun e w'=>e= .returned (.bool x)/\Below W.heap.size W w') (hQ:∀ W,Below w.heap.size w W->Calls Tryz.prog 110 #[.slice oA no oc,.int .i64 8] W fun e w'=>e= .returned (.bool y)/\Below W.heap.size W w'):
 Calls Tryz.prog 72 #[Ci k t r ix (.slice iA ni ic) (.slice oA no oc) (.slice sA ns sc)] w fun e w'=>e= .returned (.tuple #[.agg #[.int .u8 k,.int .u32 t,.int .u8 r,.int .i64 ix,.slice none 0 0,.slice oA no oc,.slice none 0 0],.bool (x && (decide (0<=ix) && (decide (ix < 128) && y)))])/\Below w.heap.size w w':=by
 obtain⟨w1,au,F1,af,ac⟩:=Am w (.int .u8 k) (.int .u32 t) (.int .u8 r) (.int .i64 ix) (.slice iA ni ic) (.slice oA no oc) (.slice sA ns sc);obtain⟨w2,fc,F2,cd,ae⟩:=Am w1 (.int .u8 0) (.int .u32 0) (.int .u8 0) (.int .i64 0) (.slice none 0 0) (.slice none 0 0) (.slice none 0 0);have cg:=Ad ac ae;have ak:w.heap.size≠w1.heap.size:=by omega
 have G2:=F1.below ae;have fz2:=F2.fr 0;obtain⟨w3,b8⟩:∃ q,w2.setCell ⟨w1.heap.size,0,none⟩ (.int .u8 k)=q:=⟨_,rfl⟩;have F3:MB w3 w1.heap.size (.int .u8 k) (.int .u32 0) (.int .u8 0) (.int .i64 0) (.slice none 0 0) (.slice none 0 0) (.slice none 0 0):=by rw [<-b8];exact F2.set0 _
 have G3:MB w3 w.heap.size (.int .u8 k) (.int .u32 t) (.int .u8 r) (.int .i64 ix) (.slice iA ni ic) (.slice oA no oc) (.slice sA ns sc):=by rw [<-b8];exact G2.other ak _ _
 have jn:Below w.heap.size w w3:=by rw [<-b8];exact cg.setCell (Nat.le_of_lt af) _
 have fz3:=F3.fr 1;obtain⟨w4,eo⟩:∃ q,w3.setCell ⟨w1.heap.size,1,none⟩ (.int .u32 t)=q:=⟨_,rfl⟩;have F4:MB w4 w1.heap.size (.int .u8 k) (.int .u32 t) (.int .u8 0) (.int .i64 0) (.slice none 0 0) (.slice none 0 0) (.slice none 0 0):=by rw [<-eo];exact F3.set1 _
 have G4:MB w4 w.heap.size (.int .u8 k) (.int .u32 t) (.int .u8 r) (.int .i64 ix) (.slice iA ni ic) (.slice oA no oc) (.slice sA ns sc):=by rw [<-eo];exact G3.other ak _ _
 have fk:Below w.heap.size w w4:=by rw [<-eo];exact jn.setCell (Nat.le_of_lt af) _
 have fz4:=F4.fr 2;obtain⟨w5,b9⟩:∃ q,w4.setCell ⟨w1.heap.size,2,none⟩ (.int .u8 r)=q:=⟨_,rfl⟩;have F5:MB w5 w1.heap.size (.int .u8 k) (.int .u32 t) (.int .u8 r) (.int .i64 0) (.slice none 0 0) (.slice none 0 0) (.slice none 0 0):=by rw [<-b9];exact F4.set2 _
 have G5:MB w5 w.heap.size (.int .u8 k) (.int .u32 t) (.int .u8 r) (.int .i64 ix) (.slice iA ni ic) (.slice oA no oc) (.slice sA ns sc):=by rw [<-b9];exact G4.other ak _ _
 have pp:Below w.heap.size w w5:=by rw [<-b9];exact fk.setCell (Nat.le_of_lt af) _
 have fz5:=F5.fr 3;obtain⟨w6,it⟩:∃ q,w5.setCell ⟨w1.heap.size,3,none⟩ (.int .i64 ix)=q:=⟨_,rfl⟩;have F6:MB w6 w1.heap.size (.int .u8 k) (.int .u32 t) (.int .u8 r) (.int .i64 ix) (.slice none 0 0) (.slice none 0 0) (.slice none 0 0):=by rw [<-it];exact F5.set3 _
 have G6:MB w6 w.heap.size (.int .u8 k) (.int .u32 t) (.int .u8 r) (.int .i64 ix) (.slice iA ni ic) (.slice oA no oc) (.slice sA ns sc):=by rw [<-it];exact G5.other ak _ _
 have lw:Below w.heap.size w w6:=by rw [<-it];exact pp.setCell (Nat.le_of_lt af) _
 have fz6:=F6.fr 5;obtain⟨w7,cc⟩:∃ q,w6.setCell ⟨w1.heap.size,5,none⟩ (.slice oA no oc)=q:=⟨_,rfl⟩;have F7:MB w7 w1.heap.size (.int .u8 k) (.int .u32 t) (.int .u8 r) (.int .i64 ix) (.slice none 0 0) (.slice oA no oc) (.slice none 0 0):=by rw [<-cc];exact F6.set5 _
 have G7:MB w7 w.heap.size (.int .u8 k) (.int .u32 t) (.int .u8 r) (.int .i64 ix) (.slice iA ni ic) (.slice oA no oc) (.slice sA ns sc):=by rw [<-cc];exact G6.other ak _ _
 have qq:Below w.heap.size w w7:=by rw [<-cc];exact lw.setCell (Nat.le_of_lt af) _
 obtain⟨w8,ug⟩:∃ q,w7.drew=q:=⟨_,rfl⟩;have F8:MB w8 w1.heap.size (.int .u8 k) (.int .u32 t) (.int .u8 r) (.int .i64 ix) (.slice none 0 0) (.slice oA no oc) (.slice none 0 0):=by rw [<-ug];exact F7
 have G8:MB w8 w.heap.size (.int .u8 k) (.int .u32 t) (.int .u8 r) (.int .i64 ix) (.slice iA ni ic) (.slice oA no oc) (.slice sA ns sc):=by rw [<-ug];exact G7
 have oj:Below w.heap.size w w8:=by rw [<-ug];exact qq.drew
 obtain⟨ZB,ZA,YZ,YY,YX,YW,YV⟩:=F2.cells;obtain⟨ZP,ZO,ZN,ZM,ZL,ZK,ZJ⟩:=G2.cells;obtain⟨TQ,TP,TO,TN,TM,TL,TI⟩:=F3.cells;obtain⟨ZI,ZH,m32,ZG,ZF,ZE,ZD⟩:=G3.cells;obtain⟨p40,p41,p42,p43,p44,p45,p46⟩:=F4.cells;obtain⟨m40,m41,m42,m43,m44,m45,m46⟩:=G4.cells;obtain⟨p50,p51,p52,p53,p54,p55,p56⟩:=F5.cells;obtain⟨m50,m51,m52,m53,m54,m55,m56⟩:=G5.cells;obtain⟨p60,p61,p62,p63,p64,p65,p66⟩:=F6.cells;obtain⟨m60,m61,m62,m63,m64,m65,m66⟩:=G6.cells;obtain⟨p70,p71,p72,p73,p74,p75,p76⟩:=F7.cells;obtain⟨m70,m71,m72,m73,m74,m75,m76⟩:=G7.cells;obtain⟨p80,p81,p82,p83,p84,p85,p86⟩:=F8.cells;obtain⟨m80,m81,m82,m83,m84,m85,m86⟩:=G8.cells;have S0:=fun u=>(F8.self u).1;have S1:=fun u=>(F8.self u).2.1;have S2:=fun u=>(F8.self u).2.2.1;have S3:=fun u=>(F8.self u).2.2.2.1;have S4:=fun u=>(F8.self u).2.2.2.2.1;have S5:=fun u=>(F8.self u).2.2.2.2.2.1;have S6:=fun u=>(F8.self u).2.2.2.2.2.2;have z0:=F8.fr 0;have z1:=F8.fr 1;have z2:=F8.fr 2;have z3:=F8.fr 3;have z4:=F8.fr 4;have z5:=F8.fr 5;have z6:=F8.fr 6;have j6:w.heap.size < w8.heap.size:=G8.lt;have gm:w1.heap.size < w8.heap.size:=F8.lt;have P:=Aa (fun u=>hP (Bs w8 u) (oj.trans ((Af w8 u).mono oj.size)));clear hP;have Q:=Aa (fun u=>hQ (Bs w8 u) (oj.trans ((Af w8 u).mono oj.size)));clear hQ;have oi:=Aa F8;clear F2 G2 F3 G3 F4 G4 F5 G5 F6 G6 F7 G7 F8 G8;clear F1;subst hk
 cases x with
 | false=>
   go_enter Tryz.func72,Tryz.ntmps72;go_wp2_with fail
   go_region
   go_wp2_with fail;refine Aj (by kernel_rfl) (by kernel_rfl) ?_
   repeat (
    refine WQ.step (fun K hK=>?_)
    go_simp
    first
     | (refine hK _ ?_;clear hK K)
     | (apply Exists.intro
        refine⟨fun _=>?_,hK _ ?_⟩
        (first
          | (go_at_call 113;with_reducible exact Al (Ag P _))
          | (go_at_call 110;with_reducible exact Al (Ag Q _)))
        clear hK K))
   refine WQ.nil ?_;intro u;go_wp2_with fail;obtain⟨v0,v1,v2,v3,v4,v5,v6⟩:=(oi.out.below (Af w8 u)).cells;refine bodyPost_ret (v:= .tuple #[.agg #[.int .u8 6,.int .u32 t,.int .u8 r,.int .i64 ix,.slice none 0 0,.slice oA no oc,.slice none 0 0],.bool (false)]) (by simp [results,Tryz.results72,go_sem,v0,v1,v2,v3,v4,v5,v6]) rfl ?_;refine⟨by first | rfl | (simp [*];done),oj.trans ((Af w8 u).mono oj.size)⟩
 | true=>
   by_cases h0:0<=ix
   ·have zi:=decide_eq_true h0;by_cases h1:ix < 128
    ·have zj:=decide_eq_true h1;go_enter Tryz.func72,Tryz.ntmps72;go_wp2_with fail
     go_region
     go_wp2_with fail;refine Aj (by kernel_rfl) (by kernel_rfl) ?_
     repeat (
      refine WQ.step (fun K hK=>?_)
      go_simp
      first
       | (refine hK _ ?_;clear hK K)
       | (apply Exists.intro
          refine⟨fun _=>?_,hK _ ?_⟩
          (first
            | (go_at_call 113;with_reducible exact Al (Ag P _))
            | (go_at_call 110;with_reducible exact Al (Ag Q _)))
          clear hK K))
     refine WQ.nil ?_;intro u;go_wp2_with fail;obtain⟨v0,v1,v2,v3,v4,v5,v6⟩:=(oi.out.below (Af w8 u)).cells;refine bodyPost_ret (v:= .tuple #[.agg #[.int .u8 6,.int .u32 t,.int .u8 r,.int .i64 ix,.slice none 0 0,.slice oA no oc,.slice none 0 0],.bool (y)]) (by simp [results,Tryz.results72,go_sem,v0,v1,v2,v3,v4,v5,v6]) rfl ?_;refine⟨by first | rfl | (simp [*];done),oj.trans ((Af w8 u).mono oj.size)⟩
    ·have zj:=decide_eq_false h1;go_enter Tryz.func72,Tryz.ntmps72;go_wp2_with fail
     go_region
     go_wp2_with fail;refine Aj (by kernel_rfl) (by kernel_rfl) ?_
     repeat (
      refine WQ.step (fun K hK=>?_)
      go_simp
      first
       | (refine hK _ ?_;clear hK K)
       | (apply Exists.intro
          refine⟨fun _=>?_,hK _ ?_⟩
          (first
            | (go_at_call 113;with_reducible exact Al (Ag P _))
            | (go_at_call 110;with_reducible exact Al (Ag Q _)))
          clear hK K))
     refine WQ.nil ?_;intro u;go_wp2_with fail;obtain⟨v0,v1,v2,v3,v4,v5,v6⟩:=(oi.out.below (Af w8 u)).cells;refine bodyPost_ret (v:= .tuple #[.agg #[.int .u8 6,.int .u32 t,.int .u8 r,.int .i64 ix,.slice none 0 0,.slice oA no oc,.slice none 0 0],.bool (false)]) (by simp [results,Tryz.results72,go_sem,v0,v1,v2,v3,v4,v5,v6]) rfl ?_;refine⟨by first | rfl | (simp [*];done),oj.trans ((Af w8 u).mono oj.size)⟩
   ·have zi:=decide_eq_false h0;go_enter Tryz.func72,Tryz.ntmps72;go_wp2_with fail
    go_region
    go_wp2_with fail;refine Aj (by kernel_rfl) (by kernel_rfl) ?_
    repeat (
     refine WQ.step (fun K hK=>?_)
     go_simp
     first
      | (refine hK _ ?_;clear hK K)
      | (apply Exists.intro
         refine⟨fun _=>?_,hK _ ?_⟩
         (first
           | (go_at_call 113;with_reducible exact Al (Ag P _))
           | (go_at_call 110;with_reducible exact Al (Ag Q _)))
         clear hK K))
    refine WQ.nil ?_;intro u;go_wp2_with fail;obtain⟨v0,v1,v2,v3,v4,v5,v6⟩:=(oi.out.below (Af w8 u)).cells;refine bodyPost_ret (v:= .tuple #[.agg #[.int .u8 6,.int .u32 t,.int .u8 r,.int .i64 ix,.slice none 0 0,.slice oA no oc,.slice none 0 0],.bool (false)]) (by simp [results,Tryz.results72,go_sem,v0,v1,v2,v3,v4,v5,v6]) rfl ?_;refine⟨by first | rfl | (simp [*];done),oj.trans ((Af w8 u).mono oj.size)⟩
theorem Wn (k:Int) (hk:¬ k=1/\¬ k=4/\¬ k=2/\¬ k=3/\¬ k=5/\¬ k=6) (t r ix:Int) (iA oA sA:Option Addr) (ni ic no oc ns sc:Nat) (w:World):
 Calls Tryz.prog 72 #[Ci k t r ix (.slice iA ni ic) (.slice oA no oc) (.slice sA ns sc)] w fun e w'=>e= .returned (.tuple #[Ci k 0 0 0 (.slice none 0 0) (.slice none 0 0) (.slice none 0 0),.bool false])/\Below w.heap.size w w':=by
 obtain⟨w1,au,F1,af,ac⟩:=Am w (.int .u8 k) (.int .u32 t) (.int .u8 r) (.int .i64 ix) (.slice iA ni ic) (.slice oA no oc) (.slice sA ns sc);obtain⟨w2,fc,F2,cd,ae⟩:=Am w1 (.int .u8 0) (.int .u32 0) (.int .u8 0) (.int .i64 0) (.slice none 0 0) (.slice none 0 0) (.slice none 0 0);have cg:=Ad ac ae;have ak:w.heap.size≠w1.heap.size:=by omega
 have G2:=F1.below ae;have fz2:=F2.fr 0;obtain⟨w3,b8⟩:∃ q,w2.setCell ⟨w1.heap.size,0,none⟩ (.int .u8 k)=q:=⟨_,rfl⟩;have F3:MB w3 w1.heap.size (.int .u8 k) (.int .u32 0) (.int .u8 0) (.int .i64 0) (.slice none 0 0) (.slice none 0 0) (.slice none 0 0):=by rw [<-b8];exact F2.set0 _
 have G3:MB w3 w.heap.size (.int .u8 k) (.int .u32 t) (.int .u8 r) (.int .i64 ix) (.slice iA ni ic) (.slice oA no oc) (.slice sA ns sc):=by rw [<-b8];exact G2.other ak _ _
 have jn:Below w.heap.size w w3:=by rw [<-b8];exact cg.setCell (Nat.le_of_lt af) _
 obtain⟨ZB,ZA,YZ,YY,YX,YW,YV⟩:=F2.cells;obtain⟨ZP,ZO,ZN,ZM,ZL,ZK,ZJ⟩:=G2.cells;obtain⟨TQ,TP,TO,TN,TM,TL,TI⟩:=F3.cells;obtain⟨ZI,ZH,m32,ZG,ZF,ZE,ZD⟩:=G3.cells;have S0:=Ak TQ;have S1:=Ak TP;have S2:=Ak TO;have S3:=Ak TN;have S4:=Ak TM;have S5:=Ak TL;have S6:=Ak TI;have z0:=F3.fr 0;have z1:=F3.fr 1;have z2:=F3.fr 2;have z3:=F3.fr 3;have z4:=F3.fr 4;have z5:=F3.fr 5;have z6:=F3.fr 6;have j6:w.heap.size < w3.heap.size:=G3.lt;have gm:w1.heap.size < w3.heap.size:=F3.lt;obtain⟨k1,k4,k2,k3,k5,k6⟩:=hk;have b1:(k == 1)=false:=beq_eq_false_iff_ne.2 k1;have b2:(k == 2)=false:=beq_eq_false_iff_ne.2 k2;have b3:(k == 3)=false:=beq_eq_false_iff_ne.2 k3;have b4:(k == 4)=false:=beq_eq_false_iff_ne.2 k4;have b5:(k == 5)=false:=beq_eq_false_iff_ne.2 k5;have b6:(k == 6)=false:=beq_eq_false_iff_ne.2 k6;clear F1 F2 G2 F3 G3;go_enter Tryz.func72,Tryz.ntmps72;go_wp2_with fail;refine bodyPost_ret (v:= .tuple #[.agg #[.int .u8 k,.int .u32 0,.int .u8 0,.int .i64 0,.slice none 0 0,.slice none 0 0,.slice none 0 0],.bool false]) (by simp [results,Tryz.results72,go_sem,TQ,TP,TO,TN,TM,TL,TI]) rfl ?_;exact⟨rfl,jn⟩
def Z0 (ops:Array Oper) (Vs:List P9) (ρ:Nat->Value) (w:World):List Nat->Prop
 | []=>True
 | j :: l=>Iq ops Vs ρ w j/\Z0 ops Vs ρ w l
def Tn:List Nat->List Nat
 | []=> []
 | x :: l=>if l.contains x then Tn l else x :: Tn l
theorem Lw {ops:Array Oper} {Vs:List P9} {ρ:Nat->Value} {w:World} {o:Oper} (h:∀ j,K6 o j=true->Iq ops Vs ρ w j):Z0 ops Vs ρ w (Tn ((o.after.toList.filter (Region.binds .any)).map (·.on))):=by
 have:∀ l:List Nat,(∀ j∈l,K6 o j=true)->Z0 ops Vs ρ w (Tn l):=by
  intro l
  induction l with
  | nil=>intro _;trivial
  | cons x l ih=>
    intro hl;have hr:=ih fun y hy=>hl y (List.mem_cons_of_mem _ hy);unfold Tn;split
    ·exact hr
    ·exact⟨h _ (hl x (List.mem_cons_self ..)),hr⟩
 refine this _ fun j hj=>?_;obtain⟨e,he,rfl⟩:=List.mem_map.1 hj;have hm:=List.mem_filter.1 he;exact Sl (Array.mem_toList_iff.1 hm.1) (by simp [hm.2])
end Go.Proofs.YtmkpfdcnikgokaaGreat
