/-
  Texts of this claim, put together: MailPlain. What each theorem asks stands in its statement.
-/
import Derived.Test.YtmkpfdcnikgokaaGreatLt16
set_option linter.unusedVariables false
set_option linter.unusedSimpArgs false
set_option maxRecDepth 100000
set_option maxHeartbeats 25600000
namespace Go.Proofs.YtmkpfdcnikgokaaGreat
open Go.RowKit
theorem setCell_self {w:World} {a:Addr} {v:Value} (h:w.cell? a=some v):w.setCell a v=w:=by
 unfold World.cell? at h
 have e:w.heap.modify a.block (fun | .cells c elem frozen=> .cells (if a.spot.isSome then c else c.setIfInBounds a.off v) elem frozen | o=>o)=w.heap:=by
  apply Array.ext_getElem?
  intro i
  rw [Array.getElem?_modify]
  split
  ·rename_i hi
   subst hi
   cases hq:w.heap[a.block]? with
   | none=>rfl
   | some o=>
     rw [hq] at h
     cases o with
     | cells c elem fz=>
       simp only at h
       simp only [Option.map_some]
       split
       ·rfl
       ·rename_i hs
        rw [if_neg hs] at h
        obtain⟨hlt,rfl⟩:=Array.getElem?_eq_some_iff.1 h
        rw [Array.setIfInBounds,dif_pos hlt,Array.set_getElem_self]
     | _=>cases h
  ·rfl
 exact congrArg (fun hp=>({ w with heap:=hp }:World)) e
theorem past_self {w u:World} {a:Addr} {v:Value} (h:w.cell? a=some v) (hb:a.block < w.heap.size):(past w u).setCell a v=past w u:=setCell_self ((cell?_past w u a hb).trans h)
/-- Mail as a value. -/
abbrev mlv (k t r ix:Int) (i o s:Value):Value:= .agg #[.int .u8 k,.int .u32 t,.int .u8 r,.int .i64 ix,i,o,s]
/-- A box of mail. -/
def MB (w:World) (g:Nat) (a b c d e f h:Value):Prop:=w.heap[g]?=some (.cells #[a,b,c,d,e,f,h] 51 (0,0))
section
variable {w w':World} {g g':Nat} {a b c d e f h:Value}
theorem MB.lt (hF:MB w g a b c d e f h):g < w.heap.size:=(Array.getElem?_eq_some_iff.1 hF).1
theorem MB.below (hF:MB w g a b c d e f h) (hb:Below w.heap.size w w'):MB w' g a b c d e f h:=(hb.block g hF.lt).trans hF
theorem MB.only (hF:MB w g a b c d e f h) (ho:OnlyAt g' w w') (hne:g≠g'):MB w' g a b c d e f h:=(ho.2 g hne hF.lt).trans hF
theorem MB.fr (hF:MB w g a b c d e f h) (off:Nat):w.frozen? ⟨g,off,none⟩=false:=frozen_of_row w g off _ _ hF
theorem MB.cells (hF:MB w g a b c d e f h):w.cell? ⟨g,0,none⟩=some a∧w.cell? ⟨g,1,none⟩=some b∧w.cell? ⟨g,2,none⟩=some c∧w.cell? ⟨g,3,none⟩=some d∧w.cell? ⟨g,4,none⟩=some e∧w.cell? ⟨g,5,none⟩=some f∧w.cell? ⟨g,6,none⟩=some h:=by
 refine⟨?_,?_,?_,?_,?_,?_,?_⟩ <;> (rw [cell_of_row _ _ _ _ _ _ hF];rfl)
theorem MB.set0 (hF:MB w g a b c d e f h) (v:Value):MB (w.setCell ⟨g,0,none⟩ v) g v b c d e f h:=heap_setCell_same _ _ _ _ _ _ hF
theorem MB.set1 (hF:MB w g a b c d e f h) (v:Value):MB (w.setCell ⟨g,1,none⟩ v) g a v c d e f h:=heap_setCell_same _ _ _ _ _ _ hF
theorem MB.set2 (hF:MB w g a b c d e f h) (v:Value):MB (w.setCell ⟨g,2,none⟩ v) g a b v d e f h:=heap_setCell_same _ _ _ _ _ _ hF
theorem MB.set3 (hF:MB w g a b c d e f h) (v:Value):MB (w.setCell ⟨g,3,none⟩ v) g a b c v e f h:=heap_setCell_same _ _ _ _ _ _ hF
theorem MB.set4 (hF:MB w g a b c d e f h) (v:Value):MB (w.setCell ⟨g,4,none⟩ v) g a b c d v f h:=heap_setCell_same _ _ _ _ _ _ hF
theorem MB.set5 (hF:MB w g a b c d e f h) (v:Value):MB (w.setCell ⟨g,5,none⟩ v) g a b c d e v h:=heap_setCell_same _ _ _ _ _ _ hF
theorem MB.set6 (hF:MB w g a b c d e f h) (v:Value):MB (w.setCell ⟨g,6,none⟩ v) g a b c d e f v:=heap_setCell_same _ _ _ _ _ _ hF
theorem MB.other (hF:MB w g a b c d e f h) (hne:g≠g') (off:Nat) (v:Value):MB (w.setCell ⟨g',off,none⟩ v) g a b c d e f h:=by
 exact (heap_setCell_other _ _ _ _ hne).trans hF
end
theorem mail_box (w:World) (a b c d e f h:Value):∃ w2,w.alloc (.cells #[a,b,c,d,e,f,h] 51)=w2∧MB w2 w.heap.size a b c d e f h∧w.heap.size < w2.heap.size∧Below w.heap.size w w2:=
 ⟨_,rfl,heap_alloc_new _ _,by simp,boxed _ _⟩
/-- A whole box is written with what stands in it. -/
theorem MB.self {w:World} {g:Nat} {a b c d e f h:Value} (hF:MB w g a b c d e f h) (u:World):(past w u).setCell ⟨g,0,none⟩ a=past w u∧(past w u).setCell ⟨g,1,none⟩ b=past w u∧(past w u).setCell ⟨g,2,none⟩ c=past w u∧(past w u).setCell ⟨g,3,none⟩ d=past w u∧(past w u).setCell ⟨g,4,none⟩ e=past w u∧(past w u).setCell ⟨g,5,none⟩ f=past w u∧(past w u).setCell ⟨g,6,none⟩ h=past w u:=by
 obtain⟨c0,c1,c2,c3,c4,c5,c6⟩:=hF.cells
 exact⟨past_self c0 hF.lt,past_self c1 hF.lt,past_self c2 hF.lt,past_self c3 hF.lt,past_self c4 hF.lt,past_self c5 hF.lt,past_self c6 hF.lt⟩
theorem plain_ops (k:Int) (hk:k=1∨k=4) (t r ix:Int) (iA oA sA:Option Addr) (ni ic no oc ns sc:Nat) (x:Bool) (w:World) (hP:∀ W,Below w.heap.size w W→Calls Tryz.prog 110 #[.slice oA no oc,.int .i64 64] W fun e w'=>e= .returned (.bool x)∧Below W.heap.size W w'):
 Calls Tryz.prog 72 #[mlv k t r ix (.slice iA ni ic) (.slice oA no oc) (.slice sA ns sc)] w fun e w'=>e= .returned (.tuple #[.agg #[.int .u8 k,.int .u32 0,.int .u8 0,.int .i64 0,.slice none 0 0,.slice oA no oc,.slice none 0 0],.bool (x)])∧Below w.heap.size w w':=by
 obtain⟨w1,hw1,F1,hs1,hb1⟩:=mail_box w (.int .u8 k) (.int .u32 t) (.int .u8 r) (.int .i64 ix) (.slice iA ni ic) (.slice oA no oc) (.slice sA ns sc)
 obtain⟨w2,hw2,F2,hs2,hb2⟩:=mail_box w1 (.int .u8 0) (.int .u32 0) (.int .u8 0) (.int .i64 0) (.slice none 0 0) (.slice none 0 0) (.slice none 0 0)
 have hb12:=fresh hb1 hb2
 have hne:w.heap.size≠w1.heap.size:=by omega
 have G2:=F1.below hb2
 have fz2:=F2.fr 0
 obtain⟨w3,hw3⟩:∃ q,w2.setCell ⟨w1.heap.size,0,none⟩ (.int .u8 k)=q:=⟨_,rfl⟩
 have F3:MB w3 w1.heap.size (.int .u8 k) (.int .u32 0) (.int .u8 0) (.int .i64 0) (.slice none 0 0) (.slice none 0 0) (.slice none 0 0):=by rw [←hw3];exact F2.set0 _
 have G3:MB w3 w.heap.size (.int .u8 k) (.int .u32 t) (.int .u8 r) (.int .i64 ix) (.slice iA ni ic) (.slice oA no oc) (.slice sA ns sc):=by rw [←hw3];exact G2.other hne _ _
 have hb13:Below w.heap.size w w3:=by rw [←hw3];exact hb12.setCell (Nat.le_of_lt hs1) _
 have fz3:=F3.fr 5
 obtain⟨w4,hw4⟩:∃ q,w3.setCell ⟨w1.heap.size,5,none⟩ (.slice oA no oc)=q:=⟨_,rfl⟩
 have F4:MB w4 w1.heap.size (.int .u8 k) (.int .u32 0) (.int .u8 0) (.int .i64 0) (.slice none 0 0) (.slice oA no oc) (.slice none 0 0):=by rw [←hw4];exact F3.set5 _
 have G4:MB w4 w.heap.size (.int .u8 k) (.int .u32 t) (.int .u8 r) (.int .i64 ix) (.slice iA ni ic) (.slice oA no oc) (.slice sA ns sc):=by rw [←hw4];exact G3.other hne _ _
 have hb14:Below w.heap.size w w4:=by rw [←hw4];exact hb13.setCell (Nat.le_of_lt hs1) _
 obtain⟨p20,p21,p22,p23,p24,p25,p26⟩:=F2.cells
 obtain⟨m20,m21,m22,m23,m24,m25,m26⟩:=G2.cells
 obtain⟨p30,p31,p32,p33,p34,p35,p36⟩:=F3.cells
 obtain⟨m30,m31,m32,m33,m34,m35,m36⟩:=G3.cells
 obtain⟨p40,p41,p42,p43,p44,p45,p46⟩:=F4.cells
 obtain⟨m40,m41,m42,m43,m44,m45,m46⟩:=G4.cells
 have S0:=fun u=>(F4.self u).1
 have S1:=fun u=>(F4.self u).2.1
 have S2:=fun u=>(F4.self u).2.2.1
 have S3:=fun u=>(F4.self u).2.2.2.1
 have S4:=fun u=>(F4.self u).2.2.2.2.1
 have S5:=fun u=>(F4.self u).2.2.2.2.2.1
 have S6:=fun u=>(F4.self u).2.2.2.2.2.2
 have z0:=F4.fr 0
 have z1:=F4.fr 1
 have z2:=F4.fr 2
 have z3:=F4.fr 3
 have z4:=F4.fr 4
 have z5:=F4.fr 5
 have z6:=F4.fr 6
 have hl1:w.heap.size < w4.heap.size:=G4.lt
 have hl2:w1.heap.size < w4.heap.size:=F4.lt
 have P:=hide (fun u=>hP (past w4 u) (hb14.trans ((below_past w4 u).mono hb14.size)))
 clear hP
 have HFN:=hide F4
 clear F2 G2 F3 G3 F4 G4
 clear F1
 rcases hk with rfl | rfl
 ·go_enter Tryz.func72,Tryz.ntmps72
  go_wp2_with fail
  refine wp_region_wq (by kernel_rfl) (by kernel_rfl) ?_
  repeat (
   refine WQ.step (fun K hK=>?_)
   go_simp
   first
    | (refine hK _ ?_;clear hK K)
    | (apply Exists.intro
       refine⟨fun _=>?_,hK _ ?_⟩
       (first
         | (go_at_call 110;with_reducible exact past_call (unhide P _)))
       clear hK K))
  refine WQ.nil ?_
  intro u
  go_wp2_with fail
  obtain⟨v0,v1,v2,v3,v4,v5,v6⟩:=(HFN.out.below (below_past w4 u)).cells
  refine bodyPost_ret (v:= .tuple #[.agg #[.int .u8 1,.int .u32 0,.int .u8 0,.int .i64 0,.slice none 0 0,.slice oA no oc,.slice none 0 0],.bool (x)]) (by simp [results,Tryz.results72,go_sem,v0,v1,v2,v3,v4,v5,v6]) rfl ?_
  exact⟨rfl,hb14.trans ((below_past w4 u).mono hb14.size)⟩
 ·go_enter Tryz.func72,Tryz.ntmps72
  go_wp2_with fail
  refine wp_region_wq (by kernel_rfl) (by kernel_rfl) ?_
  repeat (
   refine WQ.step (fun K hK=>?_)
   go_simp
   first
    | (refine hK _ ?_;clear hK K)
    | (apply Exists.intro
       refine⟨fun _=>?_,hK _ ?_⟩
       (first
         | (go_at_call 110;with_reducible exact past_call (unhide P _)))
       clear hK K))
  refine WQ.nil ?_
  intro u
  go_wp2_with fail
  obtain⟨v0,v1,v2,v3,v4,v5,v6⟩:=(HFN.out.below (below_past w4 u)).cells
  refine bodyPost_ret (v:= .tuple #[.agg #[.int .u8 4,.int .u32 0,.int .u8 0,.int .i64 0,.slice none 0 0,.slice oA no oc,.slice none 0 0],.bool (x)]) (by simp [results,Tryz.results72,go_sem,v0,v1,v2,v3,v4,v5,v6]) rfl ?_
  exact⟨rfl,hb14.trans ((below_past w4 u).mono hb14.size)⟩
theorem plain_ids (k:Int) (hk:k=2) (t r ix:Int) (iA oA sA:Option Addr) (ni ic no oc ns sc:Nat) (x:Bool) (w:World) (hP:∀ W,Below w.heap.size w W→Calls Tryz.prog 111 #[.slice iA ni ic] W fun e w'=>e= .returned (.bool x)∧Below W.heap.size W w'):
 Calls Tryz.prog 72 #[mlv k t r ix (.slice iA ni ic) (.slice oA no oc) (.slice sA ns sc)] w fun e w'=>e= .returned (.tuple #[.agg #[.int .u8 k,.int .u32 0,.int .u8 0,.int .i64 0,.slice iA ni ic,.slice none 0 0,.slice none 0 0],.bool (x)])∧Below w.heap.size w w':=by
 obtain⟨w1,hw1,F1,hs1,hb1⟩:=mail_box w (.int .u8 k) (.int .u32 t) (.int .u8 r) (.int .i64 ix) (.slice iA ni ic) (.slice oA no oc) (.slice sA ns sc)
 obtain⟨w2,hw2,F2,hs2,hb2⟩:=mail_box w1 (.int .u8 0) (.int .u32 0) (.int .u8 0) (.int .i64 0) (.slice none 0 0) (.slice none 0 0) (.slice none 0 0)
 have hb12:=fresh hb1 hb2
 have hne:w.heap.size≠w1.heap.size:=by omega
 have G2:=F1.below hb2
 have fz2:=F2.fr 0
 obtain⟨w3,hw3⟩:∃ q,w2.setCell ⟨w1.heap.size,0,none⟩ (.int .u8 k)=q:=⟨_,rfl⟩
 have F3:MB w3 w1.heap.size (.int .u8 k) (.int .u32 0) (.int .u8 0) (.int .i64 0) (.slice none 0 0) (.slice none 0 0) (.slice none 0 0):=by rw [←hw3];exact F2.set0 _
 have G3:MB w3 w.heap.size (.int .u8 k) (.int .u32 t) (.int .u8 r) (.int .i64 ix) (.slice iA ni ic) (.slice oA no oc) (.slice sA ns sc):=by rw [←hw3];exact G2.other hne _ _
 have hb13:Below w.heap.size w w3:=by rw [←hw3];exact hb12.setCell (Nat.le_of_lt hs1) _
 have fz3:=F3.fr 4
 obtain⟨w4,hw4⟩:∃ q,w3.setCell ⟨w1.heap.size,4,none⟩ (.slice iA ni ic)=q:=⟨_,rfl⟩
 have F4:MB w4 w1.heap.size (.int .u8 k) (.int .u32 0) (.int .u8 0) (.int .i64 0) (.slice iA ni ic) (.slice none 0 0) (.slice none 0 0):=by rw [←hw4];exact F3.set4 _
 have G4:MB w4 w.heap.size (.int .u8 k) (.int .u32 t) (.int .u8 r) (.int .i64 ix) (.slice iA ni ic) (.slice oA no oc) (.slice sA ns sc):=by rw [←hw4];exact G3.other hne _ _
 have hb14:Below w.heap.size w w4:=by rw [←hw4];exact hb13.setCell (Nat.le_of_lt hs1) _
 obtain⟨p20,p21,p22,p23,p24,p25,p26⟩:=F2.cells
 obtain⟨m20,m21,m22,m23,m24,m25,m26⟩:=G2.cells
 obtain⟨p30,p31,p32,p33,p34,p35,p36⟩:=F3.cells
 obtain⟨m30,m31,m32,m33,m34,m35,m36⟩:=G3.cells
 obtain⟨p40,p41,p42,p43,p44,p45,p46⟩:=F4.cells
 obtain⟨m40,m41,m42,m43,m44,m45,m46⟩:=G4.cells
 have S0:=fun u=>(F4.self u).1
 have S1:=fun u=>(F4.self u).2.1
 have S2:=fun u=>(F4.self u).2.2.1
 have S3:=fun u=>(F4.self u).2.2.2.1
 have S4:=fun u=>(F4.self u).2.2.2.2.1
 have S5:=fun u=>(F4.self u).2.2.2.2.2.1
 have S6:=fun u=>(F4.self u).2.2.2.2.2.2
 have z0:=F4.fr 0
 have z1:=F4.fr 1
 have z2:=F4.fr 2
 have z3:=F4.fr 3
 have z4:=F4.fr 4
 have z5:=F4.fr 5
 have z6:=F4.fr 6
 have hl1:w.heap.size < w4.heap.size:=G4.lt
 have hl2:w1.heap.size < w4.heap.size:=F4.lt
 have P:=hide (fun u=>hP (past w4 u) (hb14.trans ((below_past w4 u).mono hb14.size)))
 clear hP
 have HFN:=hide F4
 clear F2 G2 F3 G3 F4 G4
 clear F1
 subst hk
 go_enter Tryz.func72,Tryz.ntmps72
 go_wp2_with fail
 refine wp_region_wq (by kernel_rfl) (by kernel_rfl) ?_
 repeat (
  refine WQ.step (fun K hK=>?_)
  go_simp
  first
   | (refine hK _ ?_;clear hK K)
   | (apply Exists.intro
      refine⟨fun _=>?_,hK _ ?_⟩
      (first
        | (go_at_call 111;with_reducible exact past_call (unhide P _)))
      clear hK K))
 refine WQ.nil ?_
 intro u
 go_wp2_with fail
 obtain⟨v0,v1,v2,v3,v4,v5,v6⟩:=(HFN.out.below (below_past w4 u)).cells
 refine bodyPost_ret (v:= .tuple #[.agg #[.int .u8 2,.int .u32 0,.int .u8 0,.int .i64 0,.slice iA ni ic,.slice none 0 0,.slice none 0 0],.bool (x)]) (by simp [results,Tryz.results72,go_sem,v0,v1,v2,v3,v4,v5,v6]) rfl ?_
 exact⟨rfl,hb14.trans ((below_past w4 u).mono hb14.size)⟩
theorem plain_want (k:Int) (hk:k=3) (t r ix:Int) (iA oA sA:Option Addr) (ni ic no oc ns sc:Nat) (x y:Bool) (w:World) (hP:∀ W,Below w.heap.size w W→Calls Tryz.prog 111 #[.slice iA ni ic] W fun e w'=>e= .returned (.bool x)∧Below W.heap.size W w') (hQ:∀ W,Below w.heap.size w W→Calls Tryz.prog 112 #[.slice sA ns sc] W fun e w'=>e= .returned (.bool y)∧Below W.heap.size W w'):
 Calls Tryz.prog 72 #[mlv k t r ix (.slice iA ni ic) (.slice oA no oc) (.slice sA ns sc)] w fun e w'=>e= .returned (.tuple #[.agg #[.int .u8 k,.int .u32 0,.int .u8 0,.int .i64 0,.slice iA ni ic,.slice none 0 0,.slice sA ns sc],.bool (x && y)])∧Below w.heap.size w w':=by
 obtain⟨w1,hw1,F1,hs1,hb1⟩:=mail_box w (.int .u8 k) (.int .u32 t) (.int .u8 r) (.int .i64 ix) (.slice iA ni ic) (.slice oA no oc) (.slice sA ns sc)
 obtain⟨w2,hw2,F2,hs2,hb2⟩:=mail_box w1 (.int .u8 0) (.int .u32 0) (.int .u8 0) (.int .i64 0) (.slice none 0 0) (.slice none 0 0) (.slice none 0 0)
 have hb12:=fresh hb1 hb2
 have hne:w.heap.size≠w1.heap.size:=by omega
 have G2:=F1.below hb2
 have fz2:=F2.fr 0
 obtain⟨w3,hw3⟩:∃ q,w2.setCell ⟨w1.heap.size,0,none⟩ (.int .u8 k)=q:=⟨_,rfl⟩
 have F3:MB w3 w1.heap.size (.int .u8 k) (.int .u32 0) (.int .u8 0) (.int .i64 0) (.slice none 0 0) (.slice none 0 0) (.slice none 0 0):=by rw [←hw3];exact F2.set0 _
 have G3:MB w3 w.heap.size (.int .u8 k) (.int .u32 t) (.int .u8 r) (.int .i64 ix) (.slice iA ni ic) (.slice oA no oc) (.slice sA ns sc):=by rw [←hw3];exact G2.other hne _ _
 have hb13:Below w.heap.size w w3:=by rw [←hw3];exact hb12.setCell (Nat.le_of_lt hs1) _
 have fz3:=F3.fr 4
 obtain⟨w4,hw4⟩:∃ q,w3.setCell ⟨w1.heap.size,4,none⟩ (.slice iA ni ic)=q:=⟨_,rfl⟩
 have F4:MB w4 w1.heap.size (.int .u8 k) (.int .u32 0) (.int .u8 0) (.int .i64 0) (.slice iA ni ic) (.slice none 0 0) (.slice none 0 0):=by rw [←hw4];exact F3.set4 _
 have G4:MB w4 w.heap.size (.int .u8 k) (.int .u32 t) (.int .u8 r) (.int .i64 ix) (.slice iA ni ic) (.slice oA no oc) (.slice sA ns sc):=by rw [←hw4];exact G3.other hne _ _
 have hb14:Below w.heap.size w w4:=by rw [←hw4];exact hb13.setCell (Nat.le_of_lt hs1) _
 have fz4:=F4.fr 6
 obtain⟨w5,hw5⟩:∃ q,w4.setCell ⟨w1.heap.size,6,none⟩ (.slice sA ns sc)=q:=⟨_,rfl⟩
 have F5:MB w5 w1.heap.size (.int .u8 k) (.int .u32 0) (.int .u8 0) (.int .i64 0) (.slice iA ni ic) (.slice none 0 0) (.slice sA ns sc):=by rw [←hw5];exact F4.set6 _
 have G5:MB w5 w.heap.size (.int .u8 k) (.int .u32 t) (.int .u8 r) (.int .i64 ix) (.slice iA ni ic) (.slice oA no oc) (.slice sA ns sc):=by rw [←hw5];exact G4.other hne _ _
 have hb15:Below w.heap.size w w5:=by rw [←hw5];exact hb14.setCell (Nat.le_of_lt hs1) _
 obtain⟨w6,hw6⟩:∃ q,w5.drew=q:=⟨_,rfl⟩
 have F6:MB w6 w1.heap.size (.int .u8 k) (.int .u32 0) (.int .u8 0) (.int .i64 0) (.slice iA ni ic) (.slice none 0 0) (.slice sA ns sc):=by rw [←hw6];exact F5
 have G6:MB w6 w.heap.size (.int .u8 k) (.int .u32 t) (.int .u8 r) (.int .i64 ix) (.slice iA ni ic) (.slice oA no oc) (.slice sA ns sc):=by rw [←hw6];exact G5
 have hb16:Below w.heap.size w w6:=by rw [←hw6];exact hb15.drew
 obtain⟨p20,p21,p22,p23,p24,p25,p26⟩:=F2.cells
 obtain⟨m20,m21,m22,m23,m24,m25,m26⟩:=G2.cells
 obtain⟨p30,p31,p32,p33,p34,p35,p36⟩:=F3.cells
 obtain⟨m30,m31,m32,m33,m34,m35,m36⟩:=G3.cells
 obtain⟨p40,p41,p42,p43,p44,p45,p46⟩:=F4.cells
 obtain⟨m40,m41,m42,m43,m44,m45,m46⟩:=G4.cells
 obtain⟨p50,p51,p52,p53,p54,p55,p56⟩:=F5.cells
 obtain⟨m50,m51,m52,m53,m54,m55,m56⟩:=G5.cells
 obtain⟨p60,p61,p62,p63,p64,p65,p66⟩:=F6.cells
 obtain⟨m60,m61,m62,m63,m64,m65,m66⟩:=G6.cells
 have S0:=fun u=>(F6.self u).1
 have S1:=fun u=>(F6.self u).2.1
 have S2:=fun u=>(F6.self u).2.2.1
 have S3:=fun u=>(F6.self u).2.2.2.1
 have S4:=fun u=>(F6.self u).2.2.2.2.1
 have S5:=fun u=>(F6.self u).2.2.2.2.2.1
 have S6:=fun u=>(F6.self u).2.2.2.2.2.2
 have z0:=F6.fr 0
 have z1:=F6.fr 1
 have z2:=F6.fr 2
 have z3:=F6.fr 3
 have z4:=F6.fr 4
 have z5:=F6.fr 5
 have z6:=F6.fr 6
 have hl1:w.heap.size < w6.heap.size:=G6.lt
 have hl2:w1.heap.size < w6.heap.size:=F6.lt
 have P:=hide (fun u=>hP (past w6 u) (hb16.trans ((below_past w6 u).mono hb16.size)))
 clear hP
 have Q:=hide (fun u=>hQ (past w6 u) (hb16.trans ((below_past w6 u).mono hb16.size)))
 clear hQ
 have HFN:=hide F6
 clear F2 G2 F3 G3 F4 G4 F5 G5 F6 G6
 clear F1
 subst hk
 cases x with
 | false=>
   go_enter Tryz.func72,Tryz.ntmps72
   go_wp2_with fail
   go_region
   go_wp2_with fail
   refine wp_region_wq (by kernel_rfl) (by kernel_rfl) ?_
   repeat (
    refine WQ.step (fun K hK=>?_)
    go_simp
    first
     | (refine hK _ ?_;clear hK K)
     | (apply Exists.intro
        refine⟨fun _=>?_,hK _ ?_⟩
        (first
          | (go_at_call 111;with_reducible exact past_call (unhide P _))
          | (go_at_call 112;with_reducible exact past_call (unhide Q _)))
        clear hK K))
   refine WQ.nil ?_
   intro u
   go_wp2_with fail
   obtain⟨v0,v1,v2,v3,v4,v5,v6⟩:=(HFN.out.below (below_past w6 u)).cells
   refine bodyPost_ret (v:= .tuple #[.agg #[.int .u8 3,.int .u32 0,.int .u8 0,.int .i64 0,.slice iA ni ic,.slice none 0 0,.slice sA ns sc],.bool (false)]) (by simp [results,Tryz.results72,go_sem,v0,v1,v2,v3,v4,v5,v6]) rfl ?_
   exact⟨rfl,hb16.trans ((below_past w6 u).mono hb16.size)⟩
 | true=>
   go_enter Tryz.func72,Tryz.ntmps72
   go_wp2_with fail
   go_region
   go_wp2_with fail
   refine wp_region_wq (by kernel_rfl) (by kernel_rfl) ?_
   repeat (
    refine WQ.step (fun K hK=>?_)
    go_simp
    first
     | (refine hK _ ?_;clear hK K)
     | (apply Exists.intro
        refine⟨fun _=>?_,hK _ ?_⟩
        (first
          | (go_at_call 111;with_reducible exact past_call (unhide P _))
          | (go_at_call 112;with_reducible exact past_call (unhide Q _)))
        clear hK K))
   refine WQ.nil ?_
   intro u
   go_wp2_with fail
   obtain⟨v0,v1,v2,v3,v4,v5,v6⟩:=(HFN.out.below (below_past w6 u)).cells
   refine bodyPost_ret (v:= .tuple #[.agg #[.int .u8 3,.int .u32 0,.int .u8 0,.int .i64 0,.slice iA ni ic,.slice none 0 0,.slice sA ns sc],.bool (y)]) (by simp [results,Tryz.results72,go_sem,v0,v1,v2,v3,v4,v5,v6]) rfl ?_
   exact⟨rfl,hb16.trans ((below_past w6 u).mono hb16.size)⟩
theorem plain_manifest (k:Int) (hk:k=5) (t r ix:Int) (iA oA sA:Option Addr) (ni ic no oc ns sc:Nat) (x y:Bool) (w:World) (hP:∀ W,Below w.heap.size w W→Calls Tryz.prog 113 #[.agg #[.int .u32 t,.int .u8 r]] W fun e w'=>e= .returned (.bool x)∧Below W.heap.size W w') (hQ:∀ W,Below w.heap.size w W→Calls Tryz.prog 111 #[.slice iA ni ic] W fun e w'=>e= .returned (.bool y)∧Below W.heap.size W w'):
 Calls Tryz.prog 72 #[mlv k t r ix (.slice iA ni ic) (.slice oA no oc) (.slice sA ns sc)] w fun e w'=>e= .returned (.tuple #[.agg #[.int .u8 k,.int .u32 t,.int .u8 r,.int .i64 0,.slice iA ni ic,.slice none 0 0,.slice none 0 0],.bool (x && y)])∧Below w.heap.size w w':=by
 obtain⟨w1,hw1,F1,hs1,hb1⟩:=mail_box w (.int .u8 k) (.int .u32 t) (.int .u8 r) (.int .i64 ix) (.slice iA ni ic) (.slice oA no oc) (.slice sA ns sc)
 obtain⟨w2,hw2,F2,hs2,hb2⟩:=mail_box w1 (.int .u8 0) (.int .u32 0) (.int .u8 0) (.int .i64 0) (.slice none 0 0) (.slice none 0 0) (.slice none 0 0)
 have hb12:=fresh hb1 hb2
 have hne:w.heap.size≠w1.heap.size:=by omega
 have G2:=F1.below hb2
 have fz2:=F2.fr 0
 obtain⟨w3,hw3⟩:∃ q,w2.setCell ⟨w1.heap.size,0,none⟩ (.int .u8 k)=q:=⟨_,rfl⟩
 have F3:MB w3 w1.heap.size (.int .u8 k) (.int .u32 0) (.int .u8 0) (.int .i64 0) (.slice none 0 0) (.slice none 0 0) (.slice none 0 0):=by rw [←hw3];exact F2.set0 _
 have G3:MB w3 w.heap.size (.int .u8 k) (.int .u32 t) (.int .u8 r) (.int .i64 ix) (.slice iA ni ic) (.slice oA no oc) (.slice sA ns sc):=by rw [←hw3];exact G2.other hne _ _
 have hb13:Below w.heap.size w w3:=by rw [←hw3];exact hb12.setCell (Nat.le_of_lt hs1) _
 have fz3:=F3.fr 1
 obtain⟨w4,hw4⟩:∃ q,w3.setCell ⟨w1.heap.size,1,none⟩ (.int .u32 t)=q:=⟨_,rfl⟩
 have F4:MB w4 w1.heap.size (.int .u8 k) (.int .u32 t) (.int .u8 0) (.int .i64 0) (.slice none 0 0) (.slice none 0 0) (.slice none 0 0):=by rw [←hw4];exact F3.set1 _
 have G4:MB w4 w.heap.size (.int .u8 k) (.int .u32 t) (.int .u8 r) (.int .i64 ix) (.slice iA ni ic) (.slice oA no oc) (.slice sA ns sc):=by rw [←hw4];exact G3.other hne _ _
 have hb14:Below w.heap.size w w4:=by rw [←hw4];exact hb13.setCell (Nat.le_of_lt hs1) _
 have fz4:=F4.fr 2
 obtain⟨w5,hw5⟩:∃ q,w4.setCell ⟨w1.heap.size,2,none⟩ (.int .u8 r)=q:=⟨_,rfl⟩
 have F5:MB w5 w1.heap.size (.int .u8 k) (.int .u32 t) (.int .u8 r) (.int .i64 0) (.slice none 0 0) (.slice none 0 0) (.slice none 0 0):=by rw [←hw5];exact F4.set2 _
 have G5:MB w5 w.heap.size (.int .u8 k) (.int .u32 t) (.int .u8 r) (.int .i64 ix) (.slice iA ni ic) (.slice oA no oc) (.slice sA ns sc):=by rw [←hw5];exact G4.other hne _ _
 have hb15:Below w.heap.size w w5:=by rw [←hw5];exact hb14.setCell (Nat.le_of_lt hs1) _
 have fz5:=F5.fr 4
 obtain⟨w6,hw6⟩:∃ q,w5.setCell ⟨w1.heap.size,4,none⟩ (.slice iA ni ic)=q:=⟨_,rfl⟩
 have F6:MB w6 w1.heap.size (.int .u8 k) (.int .u32 t) (.int .u8 r) (.int .i64 0) (.slice iA ni ic) (.slice none 0 0) (.slice none 0 0):=by rw [←hw6];exact F5.set4 _
 have G6:MB w6 w.heap.size (.int .u8 k) (.int .u32 t) (.int .u8 r) (.int .i64 ix) (.slice iA ni ic) (.slice oA no oc) (.slice sA ns sc):=by rw [←hw6];exact G5.other hne _ _
 have hb16:Below w.heap.size w w6:=by rw [←hw6];exact hb15.setCell (Nat.le_of_lt hs1) _
 obtain⟨w7,hw7⟩:∃ q,w6.drew=q:=⟨_,rfl⟩
 have F7:MB w7 w1.heap.size (.int .u8 k) (.int .u32 t) (.int .u8 r) (.int .i64 0) (.slice iA ni ic) (.slice none 0 0) (.slice none 0 0):=by rw [←hw7];exact F6
 have G7:MB w7 w.heap.size (.int .u8 k) (.int .u32 t) (.int .u8 r) (.int .i64 ix) (.slice iA ni ic) (.slice oA no oc) (.slice sA ns sc):=by rw [←hw7];exact G6
 have hb17:Below w.heap.size w w7:=by rw [←hw7];exact hb16.drew
 obtain⟨p20,p21,p22,p23,p24,p25,p26⟩:=F2.cells
 obtain⟨m20,m21,m22,m23,m24,m25,m26⟩:=G2.cells
 obtain⟨p30,p31,p32,p33,p34,p35,p36⟩:=F3.cells
 obtain⟨m30,m31,m32,m33,m34,m35,m36⟩:=G3.cells
 obtain⟨p40,p41,p42,p43,p44,p45,p46⟩:=F4.cells
 obtain⟨m40,m41,m42,m43,m44,m45,m46⟩:=G4.cells
 obtain⟨p50,p51,p52,p53,p54,p55,p56⟩:=F5.cells
 obtain⟨m50,m51,m52,m53,m54,m55,m56⟩:=G5.cells
 obtain⟨p60,p61,p62,p63,p64,p65,p66⟩:=F6.cells
 obtain⟨m60,m61,m62,m63,m64,m65,m66⟩:=G6.cells
 obtain⟨p70,p71,p72,p73,p74,p75,p76⟩:=F7.cells
 obtain⟨m70,m71,m72,m73,m74,m75,m76⟩:=G7.cells
 have S0:=fun u=>(F7.self u).1
 have S1:=fun u=>(F7.self u).2.1
 have S2:=fun u=>(F7.self u).2.2.1
 have S3:=fun u=>(F7.self u).2.2.2.1
 have S4:=fun u=>(F7.self u).2.2.2.2.1
 have S5:=fun u=>(F7.self u).2.2.2.2.2.1
 have S6:=fun u=>(F7.self u).2.2.2.2.2.2
 have z0:=F7.fr 0
 have z1:=F7.fr 1
 have z2:=F7.fr 2
 have z3:=F7.fr 3
 have z4:=F7.fr 4
 have z5:=F7.fr 5
 have z6:=F7.fr 6
 have hl1:w.heap.size < w7.heap.size:=G7.lt
 have hl2:w1.heap.size < w7.heap.size:=F7.lt
 have P:=hide (fun u=>hP (past w7 u) (hb17.trans ((below_past w7 u).mono hb17.size)))
 clear hP
 have Q:=hide (fun u=>hQ (past w7 u) (hb17.trans ((below_past w7 u).mono hb17.size)))
 clear hQ
 have HFN:=hide F7
 clear F2 G2 F3 G3 F4 G4 F5 G5 F6 G6 F7 G7
 clear F1
 subst hk
 cases x with
 | false=>
   go_enter Tryz.func72,Tryz.ntmps72
   go_wp2_with fail
   go_region
   go_wp2_with fail
   refine wp_region_wq (by kernel_rfl) (by kernel_rfl) ?_
   repeat (
    refine WQ.step (fun K hK=>?_)
    go_simp
    first
     | (refine hK _ ?_;clear hK K)
     | (apply Exists.intro
        refine⟨fun _=>?_,hK _ ?_⟩
        (first
          | (go_at_call 113;with_reducible exact past_call (unhide P _))
          | (go_at_call 111;with_reducible exact past_call (unhide Q _)))
        clear hK K))
   refine WQ.nil ?_
   intro u
   go_wp2_with fail
   obtain⟨v0,v1,v2,v3,v4,v5,v6⟩:=(HFN.out.below (below_past w7 u)).cells
   refine bodyPost_ret (v:= .tuple #[.agg #[.int .u8 5,.int .u32 t,.int .u8 r,.int .i64 0,.slice iA ni ic,.slice none 0 0,.slice none 0 0],.bool (false)]) (by simp [results,Tryz.results72,go_sem,v0,v1,v2,v3,v4,v5,v6]) rfl ?_
   exact⟨rfl,hb17.trans ((below_past w7 u).mono hb17.size)⟩
 | true=>
   go_enter Tryz.func72,Tryz.ntmps72
   go_wp2_with fail
   go_region
   go_wp2_with fail
   refine wp_region_wq (by kernel_rfl) (by kernel_rfl) ?_
   repeat (
    refine WQ.step (fun K hK=>?_)
    go_simp
    first
     | (refine hK _ ?_;clear hK K)
     | (apply Exists.intro
        refine⟨fun _=>?_,hK _ ?_⟩
        (first
          | (go_at_call 113;with_reducible exact past_call (unhide P _))
          | (go_at_call 111;with_reducible exact past_call (unhide Q _)))
        clear hK K))
   refine WQ.nil ?_
   intro u
   go_wp2_with fail
   obtain⟨v0,v1,v2,v3,v4,v5,v6⟩:=(HFN.out.below (below_past w7 u)).cells
   refine bodyPost_ret (v:= .tuple #[.agg #[.int .u8 5,.int .u32 t,.int .u8 r,.int .i64 0,.slice iA ni ic,.slice none 0 0,.slice none 0 0],.bool (y)]) (by simp [results,Tryz.results72,go_sem,v0,v1,v2,v3,v4,v5,v6]) rfl ?_
   exact⟨rfl,hb17.trans ((below_past w7 u).mono hb17.size)⟩
theorem plain_chunk (k:Int) (hk:k=6) (t r ix:Int) (iA oA sA:Option Addr) (ni ic no oc ns sc:Nat) (x y:Bool) (w:World) (hP:∀ W,Below w.heap.size w W→Calls Tryz.prog 113 #[.agg #[.int .u32 t,.int .u8 r]] W fun e w'=>e= .returned (.bool x)∧Below W.heap.size W w') (hQ:∀ W,Below w.heap.size w W→Calls Tryz.prog 110 #[.slice oA no oc,.int .i64 8] W fun e w'=>e= .returned (.bool y)∧Below W.heap.size W w'):
 Calls Tryz.prog 72 #[mlv k t r ix (.slice iA ni ic) (.slice oA no oc) (.slice sA ns sc)] w fun e w'=>e= .returned (.tuple #[.agg #[.int .u8 k,.int .u32 t,.int .u8 r,.int .i64 ix,.slice none 0 0,.slice oA no oc,.slice none 0 0],.bool (x && (decide (0≤ix) && (decide (ix < 128) && y)))])∧Below w.heap.size w w':=by
 obtain⟨w1,hw1,F1,hs1,hb1⟩:=mail_box w (.int .u8 k) (.int .u32 t) (.int .u8 r) (.int .i64 ix) (.slice iA ni ic) (.slice oA no oc) (.slice sA ns sc)
 obtain⟨w2,hw2,F2,hs2,hb2⟩:=mail_box w1 (.int .u8 0) (.int .u32 0) (.int .u8 0) (.int .i64 0) (.slice none 0 0) (.slice none 0 0) (.slice none 0 0)
 have hb12:=fresh hb1 hb2
 have hne:w.heap.size≠w1.heap.size:=by omega
 have G2:=F1.below hb2
 have fz2:=F2.fr 0
 obtain⟨w3,hw3⟩:∃ q,w2.setCell ⟨w1.heap.size,0,none⟩ (.int .u8 k)=q:=⟨_,rfl⟩
 have F3:MB w3 w1.heap.size (.int .u8 k) (.int .u32 0) (.int .u8 0) (.int .i64 0) (.slice none 0 0) (.slice none 0 0) (.slice none 0 0):=by rw [←hw3];exact F2.set0 _
 have G3:MB w3 w.heap.size (.int .u8 k) (.int .u32 t) (.int .u8 r) (.int .i64 ix) (.slice iA ni ic) (.slice oA no oc) (.slice sA ns sc):=by rw [←hw3];exact G2.other hne _ _
 have hb13:Below w.heap.size w w3:=by rw [←hw3];exact hb12.setCell (Nat.le_of_lt hs1) _
 have fz3:=F3.fr 1
 obtain⟨w4,hw4⟩:∃ q,w3.setCell ⟨w1.heap.size,1,none⟩ (.int .u32 t)=q:=⟨_,rfl⟩
 have F4:MB w4 w1.heap.size (.int .u8 k) (.int .u32 t) (.int .u8 0) (.int .i64 0) (.slice none 0 0) (.slice none 0 0) (.slice none 0 0):=by rw [←hw4];exact F3.set1 _
 have G4:MB w4 w.heap.size (.int .u8 k) (.int .u32 t) (.int .u8 r) (.int .i64 ix) (.slice iA ni ic) (.slice oA no oc) (.slice sA ns sc):=by rw [←hw4];exact G3.other hne _ _
 have hb14:Below w.heap.size w w4:=by rw [←hw4];exact hb13.setCell (Nat.le_of_lt hs1) _
 have fz4:=F4.fr 2
 obtain⟨w5,hw5⟩:∃ q,w4.setCell ⟨w1.heap.size,2,none⟩ (.int .u8 r)=q:=⟨_,rfl⟩
 have F5:MB w5 w1.heap.size (.int .u8 k) (.int .u32 t) (.int .u8 r) (.int .i64 0) (.slice none 0 0) (.slice none 0 0) (.slice none 0 0):=by rw [←hw5];exact F4.set2 _
 have G5:MB w5 w.heap.size (.int .u8 k) (.int .u32 t) (.int .u8 r) (.int .i64 ix) (.slice iA ni ic) (.slice oA no oc) (.slice sA ns sc):=by rw [←hw5];exact G4.other hne _ _
 have hb15:Below w.heap.size w w5:=by rw [←hw5];exact hb14.setCell (Nat.le_of_lt hs1) _
 have fz5:=F5.fr 3
 obtain⟨w6,hw6⟩:∃ q,w5.setCell ⟨w1.heap.size,3,none⟩ (.int .i64 ix)=q:=⟨_,rfl⟩
 have F6:MB w6 w1.heap.size (.int .u8 k) (.int .u32 t) (.int .u8 r) (.int .i64 ix) (.slice none 0 0) (.slice none 0 0) (.slice none 0 0):=by rw [←hw6];exact F5.set3 _
 have G6:MB w6 w.heap.size (.int .u8 k) (.int .u32 t) (.int .u8 r) (.int .i64 ix) (.slice iA ni ic) (.slice oA no oc) (.slice sA ns sc):=by rw [←hw6];exact G5.other hne _ _
 have hb16:Below w.heap.size w w6:=by rw [←hw6];exact hb15.setCell (Nat.le_of_lt hs1) _
 have fz6:=F6.fr 5
 obtain⟨w7,hw7⟩:∃ q,w6.setCell ⟨w1.heap.size,5,none⟩ (.slice oA no oc)=q:=⟨_,rfl⟩
 have F7:MB w7 w1.heap.size (.int .u8 k) (.int .u32 t) (.int .u8 r) (.int .i64 ix) (.slice none 0 0) (.slice oA no oc) (.slice none 0 0):=by rw [←hw7];exact F6.set5 _
 have G7:MB w7 w.heap.size (.int .u8 k) (.int .u32 t) (.int .u8 r) (.int .i64 ix) (.slice iA ni ic) (.slice oA no oc) (.slice sA ns sc):=by rw [←hw7];exact G6.other hne _ _
 have hb17:Below w.heap.size w w7:=by rw [←hw7];exact hb16.setCell (Nat.le_of_lt hs1) _
 obtain⟨w8,hw8⟩:∃ q,w7.drew=q:=⟨_,rfl⟩
 have F8:MB w8 w1.heap.size (.int .u8 k) (.int .u32 t) (.int .u8 r) (.int .i64 ix) (.slice none 0 0) (.slice oA no oc) (.slice none 0 0):=by rw [←hw8];exact F7
 have G8:MB w8 w.heap.size (.int .u8 k) (.int .u32 t) (.int .u8 r) (.int .i64 ix) (.slice iA ni ic) (.slice oA no oc) (.slice sA ns sc):=by rw [←hw8];exact G7
 have hb18:Below w.heap.size w w8:=by rw [←hw8];exact hb17.drew
 obtain⟨p20,p21,p22,p23,p24,p25,p26⟩:=F2.cells
 obtain⟨m20,m21,m22,m23,m24,m25,m26⟩:=G2.cells
 obtain⟨p30,p31,p32,p33,p34,p35,p36⟩:=F3.cells
 obtain⟨m30,m31,m32,m33,m34,m35,m36⟩:=G3.cells
 obtain⟨p40,p41,p42,p43,p44,p45,p46⟩:=F4.cells
 obtain⟨m40,m41,m42,m43,m44,m45,m46⟩:=G4.cells
 obtain⟨p50,p51,p52,p53,p54,p55,p56⟩:=F5.cells
 obtain⟨m50,m51,m52,m53,m54,m55,m56⟩:=G5.cells
 obtain⟨p60,p61,p62,p63,p64,p65,p66⟩:=F6.cells
 obtain⟨m60,m61,m62,m63,m64,m65,m66⟩:=G6.cells
 obtain⟨p70,p71,p72,p73,p74,p75,p76⟩:=F7.cells
 obtain⟨m70,m71,m72,m73,m74,m75,m76⟩:=G7.cells
 obtain⟨p80,p81,p82,p83,p84,p85,p86⟩:=F8.cells
 obtain⟨m80,m81,m82,m83,m84,m85,m86⟩:=G8.cells
 have S0:=fun u=>(F8.self u).1
 have S1:=fun u=>(F8.self u).2.1
 have S2:=fun u=>(F8.self u).2.2.1
 have S3:=fun u=>(F8.self u).2.2.2.1
 have S4:=fun u=>(F8.self u).2.2.2.2.1
 have S5:=fun u=>(F8.self u).2.2.2.2.2.1
 have S6:=fun u=>(F8.self u).2.2.2.2.2.2
 have z0:=F8.fr 0
 have z1:=F8.fr 1
 have z2:=F8.fr 2
 have z3:=F8.fr 3
 have z4:=F8.fr 4
 have z5:=F8.fr 5
 have z6:=F8.fr 6
 have hl1:w.heap.size < w8.heap.size:=G8.lt
 have hl2:w1.heap.size < w8.heap.size:=F8.lt
 have P:=hide (fun u=>hP (past w8 u) (hb18.trans ((below_past w8 u).mono hb18.size)))
 clear hP
 have Q:=hide (fun u=>hQ (past w8 u) (hb18.trans ((below_past w8 u).mono hb18.size)))
 clear hQ
 have HFN:=hide F8
 clear F2 G2 F3 G3 F4 G4 F5 G5 F6 G6 F7 G7 F8 G8
 clear F1
 subst hk
 cases x with
 | false=>
   go_enter Tryz.func72,Tryz.ntmps72
   go_wp2_with fail
   go_region
   go_wp2_with fail
   refine wp_region_wq (by kernel_rfl) (by kernel_rfl) ?_
   repeat (
    refine WQ.step (fun K hK=>?_)
    go_simp
    first
     | (refine hK _ ?_;clear hK K)
     | (apply Exists.intro
        refine⟨fun _=>?_,hK _ ?_⟩
        (first
          | (go_at_call 113;with_reducible exact past_call (unhide P _))
          | (go_at_call 110;with_reducible exact past_call (unhide Q _)))
        clear hK K))
   refine WQ.nil ?_
   intro u
   go_wp2_with fail
   obtain⟨v0,v1,v2,v3,v4,v5,v6⟩:=(HFN.out.below (below_past w8 u)).cells
   refine bodyPost_ret (v:= .tuple #[.agg #[.int .u8 6,.int .u32 t,.int .u8 r,.int .i64 ix,.slice none 0 0,.slice oA no oc,.slice none 0 0],.bool (false)]) (by simp [results,Tryz.results72,go_sem,v0,v1,v2,v3,v4,v5,v6]) rfl ?_
   refine⟨by first | rfl | (simp [*];done),hb18.trans ((below_past w8 u).mono hb18.size)⟩
 | true=>
   by_cases h0:0≤ix
   ·have zi:=decide_eq_true h0
    by_cases h1:ix < 128
    ·have zj:=decide_eq_true h1
     go_enter Tryz.func72,Tryz.ntmps72
     go_wp2_with fail
     go_region
     go_wp2_with fail
     refine wp_region_wq (by kernel_rfl) (by kernel_rfl) ?_
     repeat (
      refine WQ.step (fun K hK=>?_)
      go_simp
      first
       | (refine hK _ ?_;clear hK K)
       | (apply Exists.intro
          refine⟨fun _=>?_,hK _ ?_⟩
          (first
            | (go_at_call 113;with_reducible exact past_call (unhide P _))
            | (go_at_call 110;with_reducible exact past_call (unhide Q _)))
          clear hK K))
     refine WQ.nil ?_
     intro u
     go_wp2_with fail
     obtain⟨v0,v1,v2,v3,v4,v5,v6⟩:=(HFN.out.below (below_past w8 u)).cells
     refine bodyPost_ret (v:= .tuple #[.agg #[.int .u8 6,.int .u32 t,.int .u8 r,.int .i64 ix,.slice none 0 0,.slice oA no oc,.slice none 0 0],.bool (y)]) (by simp [results,Tryz.results72,go_sem,v0,v1,v2,v3,v4,v5,v6]) rfl ?_
     refine⟨by first | rfl | (simp [*];done),hb18.trans ((below_past w8 u).mono hb18.size)⟩
    ·have zj:=decide_eq_false h1
     go_enter Tryz.func72,Tryz.ntmps72
     go_wp2_with fail
     go_region
     go_wp2_with fail
     refine wp_region_wq (by kernel_rfl) (by kernel_rfl) ?_
     repeat (
      refine WQ.step (fun K hK=>?_)
      go_simp
      first
       | (refine hK _ ?_;clear hK K)
       | (apply Exists.intro
          refine⟨fun _=>?_,hK _ ?_⟩
          (first
            | (go_at_call 113;with_reducible exact past_call (unhide P _))
            | (go_at_call 110;with_reducible exact past_call (unhide Q _)))
          clear hK K))
     refine WQ.nil ?_
     intro u
     go_wp2_with fail
     obtain⟨v0,v1,v2,v3,v4,v5,v6⟩:=(HFN.out.below (below_past w8 u)).cells
     refine bodyPost_ret (v:= .tuple #[.agg #[.int .u8 6,.int .u32 t,.int .u8 r,.int .i64 ix,.slice none 0 0,.slice oA no oc,.slice none 0 0],.bool (false)]) (by simp [results,Tryz.results72,go_sem,v0,v1,v2,v3,v4,v5,v6]) rfl ?_
     refine⟨by first | rfl | (simp [*];done),hb18.trans ((below_past w8 u).mono hb18.size)⟩
   ·have zi:=decide_eq_false h0
    go_enter Tryz.func72,Tryz.ntmps72
    go_wp2_with fail
    go_region
    go_wp2_with fail
    refine wp_region_wq (by kernel_rfl) (by kernel_rfl) ?_
    repeat (
     refine WQ.step (fun K hK=>?_)
     go_simp
     first
      | (refine hK _ ?_;clear hK K)
      | (apply Exists.intro
         refine⟨fun _=>?_,hK _ ?_⟩
         (first
           | (go_at_call 113;with_reducible exact past_call (unhide P _))
           | (go_at_call 110;with_reducible exact past_call (unhide Q _)))
         clear hK K))
    refine WQ.nil ?_
    intro u
    go_wp2_with fail
    obtain⟨v0,v1,v2,v3,v4,v5,v6⟩:=(HFN.out.below (below_past w8 u)).cells
    refine bodyPost_ret (v:= .tuple #[.agg #[.int .u8 6,.int .u32 t,.int .u8 r,.int .i64 ix,.slice none 0 0,.slice oA no oc,.slice none 0 0],.bool (false)]) (by simp [results,Tryz.results72,go_sem,v0,v1,v2,v3,v4,v5,v6]) rfl ?_
    refine⟨by first | rfl | (simp [*];done),hb18.trans ((below_past w8 u).mono hb18.size)⟩
theorem plain_none (k:Int) (hk:¬ k=1∧¬ k=4∧¬ k=2∧¬ k=3∧¬ k=5∧¬ k=6) (t r ix:Int) (iA oA sA:Option Addr) (ni ic no oc ns sc:Nat) (w:World):
 Calls Tryz.prog 72 #[mlv k t r ix (.slice iA ni ic) (.slice oA no oc) (.slice sA ns sc)] w fun e w'=>e= .returned (.tuple #[mlv k 0 0 0 (.slice none 0 0) (.slice none 0 0) (.slice none 0 0),.bool false])∧Below w.heap.size w w':=by
 obtain⟨w1,hw1,F1,hs1,hb1⟩:=mail_box w (.int .u8 k) (.int .u32 t) (.int .u8 r) (.int .i64 ix) (.slice iA ni ic) (.slice oA no oc) (.slice sA ns sc)
 obtain⟨w2,hw2,F2,hs2,hb2⟩:=mail_box w1 (.int .u8 0) (.int .u32 0) (.int .u8 0) (.int .i64 0) (.slice none 0 0) (.slice none 0 0) (.slice none 0 0)
 have hb12:=fresh hb1 hb2
 have hne:w.heap.size≠w1.heap.size:=by omega
 have G2:=F1.below hb2
 have fz2:=F2.fr 0
 obtain⟨w3,hw3⟩:∃ q,w2.setCell ⟨w1.heap.size,0,none⟩ (.int .u8 k)=q:=⟨_,rfl⟩
 have F3:MB w3 w1.heap.size (.int .u8 k) (.int .u32 0) (.int .u8 0) (.int .i64 0) (.slice none 0 0) (.slice none 0 0) (.slice none 0 0):=by rw [←hw3];exact F2.set0 _
 have G3:MB w3 w.heap.size (.int .u8 k) (.int .u32 t) (.int .u8 r) (.int .i64 ix) (.slice iA ni ic) (.slice oA no oc) (.slice sA ns sc):=by rw [←hw3];exact G2.other hne _ _
 have hb13:Below w.heap.size w w3:=by rw [←hw3];exact hb12.setCell (Nat.le_of_lt hs1) _
 obtain⟨p20,p21,p22,p23,p24,p25,p26⟩:=F2.cells
 obtain⟨m20,m21,m22,m23,m24,m25,m26⟩:=G2.cells
 obtain⟨p30,p31,p32,p33,p34,p35,p36⟩:=F3.cells
 obtain⟨m30,m31,m32,m33,m34,m35,m36⟩:=G3.cells
 have S0:=setCell_self p30
 have S1:=setCell_self p31
 have S2:=setCell_self p32
 have S3:=setCell_self p33
 have S4:=setCell_self p34
 have S5:=setCell_self p35
 have S6:=setCell_self p36
 have z0:=F3.fr 0
 have z1:=F3.fr 1
 have z2:=F3.fr 2
 have z3:=F3.fr 3
 have z4:=F3.fr 4
 have z5:=F3.fr 5
 have z6:=F3.fr 6
 have hl1:w.heap.size < w3.heap.size:=G3.lt
 have hl2:w1.heap.size < w3.heap.size:=F3.lt
 obtain⟨k1,k4,k2,k3,k5,k6⟩:=hk
 have b1:(k == 1)=false:=beq_eq_false_iff_ne.2 k1
 have b2:(k == 2)=false:=beq_eq_false_iff_ne.2 k2
 have b3:(k == 3)=false:=beq_eq_false_iff_ne.2 k3
 have b4:(k == 4)=false:=beq_eq_false_iff_ne.2 k4
 have b5:(k == 5)=false:=beq_eq_false_iff_ne.2 k5
 have b6:(k == 6)=false:=beq_eq_false_iff_ne.2 k6
 clear F1 F2 G2 F3 G3
 go_enter Tryz.func72,Tryz.ntmps72
 go_wp2_with fail
 refine bodyPost_ret (v:= .tuple #[.agg #[.int .u8 k,.int .u32 0,.int .u8 0,.int .i64 0,.slice none 0 0,.slice none 0 0,.slice none 0 0],.bool false]) (by simp [results,Tryz.results72,go_sem,p30,p31,p32,p33,p34,p35,p36]) rfl ?_
 exact⟨rfl,hb13⟩
end Go.Proofs.YtmkpfdcnikgokaaGreat
