/-
  Texts of this claim, put together: EyeWish, OpSame. What each theorem asks stands in its statement.
-/
import Derived.Test.YtmkpfdcnikgokaaGreatLt7
import Derived.Test.YtmkpfdcnikgokaaGreatLt11
import Derived.Test.YtmkpfdcnikgokaaGreatLt12
set_option linter.unusedVariables false
set_option linter.unusedSimpArgs false
set_option maxRecDepth 100000
set_option maxHeartbeats 25600000
namespace Go.Proofs.YtmkpfdcnikgokaaGreat
open Go.RowKit
/-- A wish; as it lies. -/
structure WP where
 t:Int
 r:Int
 rd:Bool
 kn:Bool
 H:List PT
 S:List PT
 G:List Bool
structure WsL where
 t:Int
 r:Int
 rd:Bool
 kn:Bool
 hA:Option Addr
 hc:Nat
 h:List TmL
 sA:Option Addr
 sc:Nat
 s:List TmL
 gA:Option Addr
 gc:Nat
 g:List Bool
def WsL.wp (x:WsL):WP:=⟨x.t,x.r,x.rd,x.kn,x.h.map TmL.pt,x.s.map TmL.pt,x.g⟩
def WsL.cells (x:WsL):List Value:= [.int .u32 x.t,.int .u8 x.r,.bool x.rd,.slice x.hA x.h.length x.hc,.bool x.kn,.slice x.sA x.s.length x.sc,.slice x.gA x.g.length x.gc]
abbrev wsv (t r:Int) (rd kn:Bool) (h s g:Value):Value:= .agg #[.int .u32 t,.int .u8 r,.bool rd,h,.bool kn,s,g]
def WsL.val (x:WsL):Value:=wsv x.t x.r x.rd x.kn (.slice x.hA x.h.length x.hc) (.slice x.sA x.s.length x.sc) (.slice x.gA x.g.length x.gc)
/-- Truths as cells. -/
def bls (l:List Bool):List Value:=l.map .bool
theorem bls_snoc (l:List Bool) (b:Bool):bls l++ [.bool b]=bls (l++ [b]):=by simp [bls]
theorem bls_one (l:List Bool):∀ u∈bls l,u.oneCell'=true:=by
 intro u hu
 obtain⟨b,-,rfl⟩:=List.mem_map.1 hu
 rfl
theorem blinfo:(Tryz.prog.info? 4).map (fun i=>(i.zero,i.size,i.bytes))=some (some (.bool false),1,1):=by kernel_rfl
/-- A wish's parts are in memory of the call's own. -/
def OW (w:World) (base:Nat) (x:WsL):Prop:=OTm w base x.hA x.hc x.h∧OTm w base x.sA x.sc x.s∧w.ownsRow base 4 1 (.slice x.gA x.g.length x.gc) x.g.length (bls x.g)
/-- A wish's parts are of their types. -/
def okW (x:WsL):Prop:=0≤x.t∧x.t < 4294967296∧0≤x.r∧x.r≤255∧(∀ y∈x.h,okT y)∧(∀ y∈x.s,okT y)∧x.h.length < 1073741824∧x.s.length < 1073741824∧x.g.length < 1073741824
/-- A box of a wish. -/
def WB (w:World) (g:Nat) (a b c d e f h:Value):Prop:=w.heap[g]?=some (.cells #[a,b,c,d,e,f,h] 79 (0,0))
section
variable {w w':World} {g g':Nat} {a b c d e f h:Value}
theorem WB.below (hF:WB w g a b c d e f h) (hb:Below w.heap.size w w'):WB w' g a b c d e f h:=(hb.block g (Array.getElem?_eq_some_iff.1 hF).1).trans hF
theorem WB.only (hF:WB w g a b c d e f h) (ho:OnlyAt g' w w') (hne:g≠g'):WB w' g a b c d e f h:=(ho.2 g hne (Array.getElem?_eq_some_iff.1 hF).1).trans hF
theorem WB.fr (hF:WB w g a b c d e f h) (off:Nat):w.frozen? ⟨g,off,none⟩=false:=frozen_of_row w g off _ _ hF
theorem WB.cells (hF:WB w g a b c d e f h):w.cell? ⟨g,0,none⟩=some a∧w.cell? ⟨g,1,none⟩=some b∧w.cell? ⟨g,2,none⟩=some c∧w.cell? ⟨g,3,none⟩=some d∧w.cell? ⟨g,4,none⟩=some e∧w.cell? ⟨g,5,none⟩=some f∧w.cell? ⟨g,6,none⟩=some h:=by
 refine⟨?_,?_,?_,?_,?_,?_,?_⟩ <;> (rw [cell_of_row _ _ _ _ _ _ hF];rfl)
theorem WB.set0 (hF:WB w g a b c d e f h) (v:Value):WB (w.setCell ⟨g,0,none⟩ v) g v b c d e f h:=heap_setCell_same _ _ _ _ _ _ hF
theorem WB.set1 (hF:WB w g a b c d e f h) (v:Value):WB (w.setCell ⟨g,1,none⟩ v) g a v c d e f h:=heap_setCell_same _ _ _ _ _ _ hF
theorem WB.set2 (hF:WB w g a b c d e f h) (v:Value):WB (w.setCell ⟨g,2,none⟩ v) g a b v d e f h:=heap_setCell_same _ _ _ _ _ _ hF
theorem WB.set3 (hF:WB w g a b c d e f h) (v:Value):WB (w.setCell ⟨g,3,none⟩ v) g a b c v e f h:=heap_setCell_same _ _ _ _ _ _ hF
theorem WB.set4 (hF:WB w g a b c d e f h) (v:Value):WB (w.setCell ⟨g,4,none⟩ v) g a b c d v f h:=heap_setCell_same _ _ _ _ _ _ hF
theorem WB.set5 (hF:WB w g a b c d e f h) (v:Value):WB (w.setCell ⟨g,5,none⟩ v) g a b c d e v h:=heap_setCell_same _ _ _ _ _ _ hF
theorem WB.set6 (hF:WB w g a b c d e f h) (v:Value):WB (w.setCell ⟨g,6,none⟩ v) g a b c d e f v:=heap_setCell_same _ _ _ _ _ _ hF
end
theorem own_setO {w:World} {base g size n:Nat} {e T:TypeId} {v:Value} {L:List Value} {cs:Array Value} (h:w.ownsRow base e size v n L) (hF:w.heap[g]?=some (.cells cs T (0,0))) (hT:e≠T) (off:Nat) (u:Value):(w.setCell ⟨g,off,none⟩ u).ownsRow base e size v n L:=by
 refine⟨h.1,?_⟩
 rcases h.2 with h0 | ⟨q,cap,cur,h1,h2,h3,h4⟩
 ·exact .inl h0
 ·have hne:q≠g:=by
   intro e
   rw [←e,h3] at hF
   simp only [Option.some.injEq,Obj.cells.injEq] at hF
   exact hT hF.2.1
  exact .inr ⟨q,cap,cur,h1,h2,(heap_setCell_other _ _ _ _ hne).trans h3,h4⟩
theorem OTm.setO {w:World} {base g c:Nat} {T:TypeId} {A:Option Addr} {L:List TmL} {cs:Array Value} (h:OTm w base A c L) (hF:w.heap[g]?=some (.cells cs T (0,0))) (h1:123≠T) (h2:129≠T) (off:Nat) (u:Value):OTm (w.setCell ⟨g,off,none⟩ u) base A c L:=
 ⟨own_setO h.1 hF h1 off u,fun x hx=>own_setO (h.2 x hx) hF h2 off u⟩
/-- The truths of a wish, as they are read. -/
def eyeB (acc:List Bool):Nat→ES→List Bool×ES
 | 0,st=>(acc,st)
 | k+1,st=>eyeB (acc++ [(eyeN 1 st).1 == 1]) k (eyeN 1 st).2
theorem eyeB_step {acc:List Bool} {k:Nat} {x:Int} {st s2:ES} (h:eyeN 1 st=(x,s2)):eyeB acc (k+1) st=eyeB (acc++ [x == 1]) k s2:=by
 simp only [eyeB,h]
/-- The next wish. -/
def eyeW (st:ES):WP×ES:=
 (⟨(eyeS st).1.1,(eyeS st).1.2,(eyeN 2 (eyeS st).2).1 == 1,(eyeN 2 (eyeS st).2).1 == 2,(eyeC (eyeN 2 (eyeS st).2).2).1,(eyeC (eyeC (eyeN 2 (eyeS st).2).2).2).1,
   (eyeB [] (eyeN 128 (eyeC (eyeC (eyeN 2 (eyeS st).2).2).2).2).1.toNat (eyeN 128 (eyeC (eyeC (eyeN 2 (eyeS st).2).2).2).2).2).1⟩,(eyeB [] (eyeN 128 (eyeC (eyeC (eyeN 2 (eyeS st).2).2).2).2).1.toNat (eyeN 128 (eyeC (eyeC (eyeN 2 (eyeS st).2).2).2).2).2).2)
theorem eyeW_step {st a b c d e:ES} {t r n k:Int} {H S:List PT} (h1:eyeS st=((t,r),a)) (h2:eyeN 2 a=(n,b)) (h3:eyeC b=(H,c)) (h4:eyeC c=(S,d)) (h5:eyeN 128 d=(k,e)):
 eyeW st=(⟨t,r,n == 1,n == 2,H,S,(eyeB [] k.toNat e).1⟩,(eyeB [] k.toNat e).2):=by
 simp only [eyeW,h1,h2,h3,h4,h5]
theorem wish_box (w:World) (a b c d e f h:Value):∃ w2,w.alloc (.cells #[a,b,c,d,e,f,h] 79)=w2∧WB w2 w.heap.size a b c d e f h∧w.heap.size < w2.heap.size∧Below w.heap.size w w2:=
 ⟨_,rfl,heap_alloc_new _ _,by simp,boxed _ _⟩
theorem OTm.kept {w w':World} {base c:Nat} {e':TypeId} {A:Option Addr} {L:List TmL} (h:OTm w base A c L) (h1:123≠e') (h2:129≠e') (hk:∀ (b:Nat) (o':Obj),w.heap[b]?=some o'→(∀ cur,o'≠ .cells cur e' (0,0))→w'.heap[b]?=some o'):OTm w' base A c L:=
 ⟨own_kept h.1 h1 hk,fun x hx=>own_kept (h.2 x hx) h2 hk⟩
/-- The region's fixed values. -/
def wishV (gx g:Nat) (x:Int) (V:Value):List (Option (Nat×Value)):=
 [some (25,.pointer (some ⟨gx,6,none⟩)),some (26,V),some (27,.pointer (some ⟨g,0,none⟩)),some (28,.int .i64 x),some (29,.bool (x == 1)),none,none,some (32,.pointer (some ⟨gx,6,none⟩)),none]
def wishS:List (Option Nat):= [some 25,some 26,some 27,some 28,some 29,none,none,some 32,none]
theorem eyewish (g:Nat) (st:ES) (w:World) (h:EY w g st) (P:WP) (s9:ES) (hx:eyeW st=(P,s9)):
 Calls Tryz.prog 60 #[.pointer (some ⟨g,0,none⟩)] w fun e w'=>∃ x:WsL,e= .returned x.val∧x.wp=P∧OW w' w.heap.size x∧okW x∧EY w' g s9∧OnlyAt g w w':=by
 obtain⟨i0,hi0,hz0,hz1,hz2⟩:=info_parts blinfo
 have hlt:=h.lt
 have Hlt:=hide hlt
 have Hle:=hide (Nat.le_of_lt hlt)
 obtain⟨t,r,sa,h1⟩:∃ t r s,eyeS st=((t,r),s):=⟨_,_,_,rfl⟩
 obtain⟨n,sb,h2⟩:∃ x s,eyeN 2 sa=(x,s):=⟨_,_,rfl⟩
 obtain⟨HH,sc,h3⟩:∃ x s,eyeC sb=(x,s):=⟨_,_,rfl⟩
 obtain⟨SS,sd,h4⟩:∃ x s,eyeC sc=(x,s):=⟨_,_,rfl⟩
 obtain⟨k,se,h5⟩:∃ x s,eyeN 128 sd=(x,s):=⟨_,_,rfl⟩
 rw [eyeW_step h1 h2 h3 h4 h5] at hx
 have HX:=hide hx
 have H1:=hide h1
 have H2:=hide h2
 have H3:=hide h3
 have H4:=hide h4
 have H5:=hide h5
 obtain⟨w1,hw1,F1,hs1,hb1⟩:=wish_box w (.int .u32 0) (.int .u8 0) (.bool false) (.slice none 0 0) (.bool false) (.slice none 0 0) (.slice none 0 0)
 have HE1:=hide (h.below hb1)
 have HO1:=hide (OnlyAt.below hb1 (Nat.le_of_lt hlt))
 obtain⟨gx,hgx⟩:∃ q,q=w.heap.size:=⟨_,rfl⟩
 have Hgx:=hide hgx
 have Hg:=hide (show g < gx by omega)
 have Hne:=hide (show gx≠g by omega)
 rw [←hgx] at F1
 have HF1:=hide F1
 have Hw1:=hide hw1
 clear hx h1 h2 h3 h4 h5 F1 hw1 hs1 hb1 h hlt hgx
 go_enter Tryz.func60,Tryz.ntmps60
 go_wp2_with fail
 rw [Hw1.out,←Hgx.out]
 clear Hw1
 refine (eyestamp g st w1 HE1.out t r sa H1.out).mono ?_
 rintro e w2 ⟨rfl,hE2,ho2,t0,t1,r0,r1⟩
 have HE2:=hide hE2
 have HO2:=hide (HO1.out.trans ho2)
 have HF2:=hide (HF1.out.only ho2 Hne.out)
 clear hE2 ho2 HE1 HO1 HF1
 obtain⟨c0,c1,c2,c3,c4,c5,c6⟩:=HF2.out.cells
 have f0:=HF2.out.fr 0
 have f1:=HF2.out.fr 1
 go_wp2_with fail
 obtain⟨w3,hw3⟩:∃ q,(w2.setCell ⟨gx,0,none⟩ (.int .u32 t)).setCell ⟨gx,1,none⟩ (.int .u8 r)=q:=⟨_,rfl⟩
 have HF3:Hid (WB w3 gx (.int .u32 t) (.int .u8 r) (.bool false) (.slice none 0 0) (.bool false) (.slice none 0 0) (.slice none 0 0)):=hide (by rw [←hw3];exact (HF2.out.set0 _).set1 _)
 have HE3:Hid (EY w3 g sa):=hide (by rw [←hw3];exact (HE2.out.other Hg.out 0 _).other Hg.out 1 _)
 have HO3:Hid (OnlyAt g w w3):=hide (by rw [←hw3];exact (HO2.out.setNew (Nat.le_of_eq Hgx.out.symm) Hle.out 0 _).setNew (Nat.le_of_eq Hgx.out.symm) Hle.out 1 _)
 rw [hw3]
 clear hw3 c0 c1 c2 c3 c4 c5 c6 f0 f1 HE2 HO2 HF2
 refine (eye_at g 2 sa w3 HE3.out n sb H2.out (by decide)).mono ?_
 rintro e w4 ⟨rfl,hE4,ho4,n0,n1⟩
 have HE4:=hide hE4
 have HO4:=hide (HO3.out.trans ho4)
 have HF4:=hide (HF3.out.only ho4 Hne.out)
 clear hE4 ho4 HE3 HO3 HF3
 obtain⟨rd,hrd⟩:∃ q,(n == 1)=q:=⟨_,rfl⟩
 obtain⟨kn,hkn⟩:∃ q,(n == 2)=q:=⟨_,rfl⟩
 rw [hrd,hkn] at HX
 obtain⟨c0,c1,c2,c3,c4,c5,c6⟩:=HF4.out.cells
 have f2:=HF4.out.fr 2
 have f4:=(HF4.out.set2 (.bool rd)).fr 4
 go_wp2_with fail
 obtain⟨w5,hw5⟩:∃ q,(w4.setCell ⟨gx,2,none⟩ (.bool rd)).setCell ⟨gx,4,none⟩ (.bool kn)=q:=⟨_,rfl⟩
 have HF5:Hid (WB w5 gx (.int .u32 t) (.int .u8 r) (.bool rd) (.slice none 0 0) (.bool kn) (.slice none 0 0) (.slice none 0 0)):=hide (by rw [←hw5];exact (HF4.out.set2 _).set4 _)
 have HE5:Hid (EY w5 g sb):=hide (by rw [←hw5];exact (HE4.out.other Hg.out 2 _).other Hg.out 4 _)
 have HO5:Hid (OnlyAt g w w5):=hide (by rw [←hw5];exact (HO4.out.setNew (Nat.le_of_eq Hgx.out.symm) Hle.out 2 _).setNew (Nat.le_of_eq Hgx.out.symm) Hle.out 4 _)
 rw [hw5]
 clear hw5 c0 c1 c2 c3 c4 c5 c6 f2 f4 HE4 HO4 HF4 hrd hkn n0 n1
 refine (eyeclock g sb w5 HE5.out HH sc H3.out).mono ?_
 rintro e w6 ⟨hA,hc,h,rfl,hh,hT6,hok6,hh8,hE6,ho6⟩
 have HE6:=hide hE6
 have HO6:=hide (HO5.out.trans ho6)
 have HF6:=hide (HF5.out.only ho6 Hne.out)
 have HT6:=hide (hT6.less HO5.out.1.size)
 have Hh:=hide (And.intro hh (And.intro hok6 hh8))
 obtain⟨hn,ehn⟩:∃ q,q=List.length (α:=TmL) h:=⟨_,rfl⟩
 have Ehn:=hide ehn
 rw [←ehn]
 clear hE6 ho6 HE5 HO5 HF5 hh hT6 hok6 hh8 ehn
 obtain⟨c0,c1,c2,c3,c4,c5,c6⟩:=HF6.out.cells
 have f3:=HF6.out.fr 3
 go_wp2_with fail
 obtain⟨w7,hw7⟩:∃ q,w6.setCell ⟨gx,3,none⟩ (.slice hA hn hc)=q:=⟨_,rfl⟩
 have HF7:Hid (WB w7 gx (.int .u32 t) (.int .u8 r) (.bool rd) (.slice hA hn hc) (.bool kn) (.slice none 0 0) (.slice none 0 0)):=hide (by rw [←hw7];exact HF6.out.set3 _)
 have HE7:Hid (EY w7 g sc):=hide (by rw [←hw7];exact HE6.out.other Hg.out 3 _)
 have HO7:Hid (OnlyAt g w w7):=hide (by rw [←hw7];exact HO6.out.setNew (Nat.le_of_eq Hgx.out.symm) Hle.out 3 _)
 have HT7:Hid (OTm w7 w.heap.size hA hc h):=hide (by rw [←hw7];exact HT6.out.setO HF6.out (by decide) (by decide) 3 _)
 rw [hw7]
 clear hw7 c0 c1 c2 c3 c4 c5 c6 f3 HE6 HO6 HF6 HT6
 refine (eyeclock g sc w7 HE7.out SS sd H4.out).mono ?_
 rintro e w8 ⟨sA,sC,s,rfl,hh,hT8,hok8,hh8,hE8,ho8⟩
 have HE8:=hide hE8
 have HO8:=hide (HO7.out.trans ho8)
 have HF8:=hide (HF7.out.only ho8 Hne.out)
 have HT8:=hide (HT7.out.at Hlt.out ho8)
 have HS8:=hide (hT8.less HO7.out.1.size)
 have Hs:=hide (And.intro hh (And.intro hok8 hh8))
 obtain⟨sn,esn⟩:∃ q,q=List.length (α:=TmL) s:=⟨_,rfl⟩
 have Esn:=hide esn
 rw [←esn]
 clear hE8 ho8 HE7 HO7 HF7 HT7 hh hT8 hok8 hh8 esn
 obtain⟨c0,c1,c2,c3,c4,c5,c6⟩:=HF8.out.cells
 have f5:=HF8.out.fr 5
 go_wp2_with fail
 obtain⟨w9,hw9⟩:∃ q,w8.setCell ⟨gx,5,none⟩ (.slice sA sn sC)=q:=⟨_,rfl⟩
 have HF9:Hid (WB w9 gx (.int .u32 t) (.int .u8 r) (.bool rd) (.slice hA hn hc) (.bool kn) (.slice sA sn sC) (.slice none 0 0)):=hide (by rw [←hw9];exact HF8.out.set5 _)
 have HE9:Hid (EY w9 g sd):=hide (by rw [←hw9];exact HE8.out.other Hg.out 5 _)
 have HO9:Hid (OnlyAt g w w9):=hide (by rw [←hw9];exact HO8.out.setNew (Nat.le_of_eq Hgx.out.symm) Hle.out 5 _)
 have HT9:Hid (OTm w9 w.heap.size hA hc h):=hide (by rw [←hw9];exact HT8.out.setO HF8.out (by decide) (by decide) 5 _)
 have HS9:Hid (OTm w9 w.heap.size sA sC s):=hide (by rw [←hw9];exact HS8.out.setO HF8.out (by decide) (by decide) 5 _)
 rw [hw9]
 clear hw9 c0 c1 c2 c3 c4 c5 c6 f5 HE8 HO8 HF8 HT8 HS8
 refine (eye_at g 128 sd w9 HE9.out k se H5.out (by decide)).mono ?_
 rintro e w10 ⟨rfl,hE10,ho10,k0,k1⟩
 obtain⟨M,rfl⟩:∃ M:Nat,k=M:=⟨k.toNat,by omega⟩
 rw [Int.toNat_natCast] at HX
 have HE10:=hide hE10
 have HO10:=hide (HO9.out.trans ho10)
 have HF10:=hide (HF9.out.only ho10 Hne.out)
 have HT10:=hide (HT9.out.at Hlt.out ho10)
 have HS10:=hide (HS9.out.at Hlt.out ho10)
 clear hE10 ho10 HE9 HO9 HF9 HT9 HS9
 go_wp2_with fail
 go_loopw [23] (fun i wr=>∃ (j:Nat) (gA:Option Addr) (gc:Nat) (l:List Bool) (sj:ES),j≤M∧i= .int .i64 (j:Int)∧Hid (l.length=j)∧Hid (eyeB l (M - j) sj=eyeB [] M se)∧Hid (WB wr gx (.int .u32 t) (.int .u8 r) (.bool rd) (.slice hA hn hc) (.bool kn) (.slice sA sn sC) (.slice gA j gc))∧Hid (wr.ownsRow w.heap.size 4 1 (.slice gA j gc) j (bls l))∧Hid (OTm wr w.heap.size hA hc h)∧Hid (OTm wr w.heap.size sA sC s)∧Hid (EY wr g sj)∧Hid (OnlyAt g w wr)) (fun i _=>M - (intOf i).toNat)
 case atStart=>exact⟨0,none,0, [],se,by omega,rfl,hide rfl,hide rfl,HF10,hide (World.ownsRow_nil _ _ _ _),HT10,HS10,HE10,HO10⟩
 case round=>
  obtain⟨j,gA,gc,l,sj,hj,rfl,Hl,HB,HF,HG,HT,HS,HEj,HOj⟩:=hrel
  clear HE10 HO10 HF10 HT10 HS10
  by_cases hlt:j < M
  ·have z0:(j:Int) < M:=by omega
   have HB1:=HB
   obtain⟨x,s2,hx⟩:∃ x s,eyeN 1 sj=(x,s):=⟨_,_,rfl⟩
   rw [show M - j=(M - (j+1))+1 by omega,eyeB_step hx] at HB1
   have HB2:=hide HB1.out
   have Hx:=hide hx
   clear HB HB1 hx
   go_wp2_with fail
   refine wp_region_inv (fun done ρ W=>LI (wishV gx g x (.slice gA j gc)) (fun _=>True) done ρ W∧AJ 1 4 3 5 6 8 28 30 31 (OnlyAt g w) (fun W=>EY W g sj) (fun W=>EY W g s2) (fun W=>W.ownsRow w.heap.size 4 1 (.slice gA j gc) j (bls l)∧OTm W w.heap.size hA hc h∧OTm W w.heap.size sA sC s)
    (fun W=>WB W gx (.int .u32 t) (.int .u8 r) (.bool rd) (.slice hA hn hc) (.bool kn) (.slice sA sn sC) (.slice gA j gc)) (fun _ _=>True) (fun _ q W=>W.heap[q]?=some (.cells #[.bool (x == 1)] 4 (0,0)))
    (fun v W=>∃ A2 c2,v= .slice A2 (j+1) c2∧W.ownsRow w.heap.size 4 1 (.slice A2 (j+1) c2) (j+1) (bls (l++ [x == 1]))∧OTm W w.heap.size hA hc h∧OTm W w.heap.size sA sC s)
    (fun v W=>WB W gx (.int .u32 t) (.int .u8 r) (.bool rd) (.slice hA hn hc) (.bool kn) (.slice sA sn sC) v) done ρ W) (by kernel_rfl) 35 (by rfl) (by kernel_rfl) ?_ ?_ ?_
   ·exact⟨LI.start _ trivial,AJ.start _ (HOj.out.trans (OnlyAt.below (Below.refl _ _).drew (Nat.le_of_lt HEj.out.lt))) (HEj.out.below (Below.refl _ _).drew) ⟨own_below HG.out (Below.refl _ _).drew (Nat.le_refl _),HT.out.below (Below.refl _ _).drew,HS.out.below (Below.refl _ _).drew⟩ (WB.below HF.out (Below.refl _ _).drew)⟩
   ·refine⟨?_,?_,?_,?_,?_,?_,?_,?_,?_,trivial⟩
    ·
     intro done ρ W hn hf hd h
     have q2:ρ 2= .pointer (some ⟨gx,0,none⟩):=hf 2 (by kernel_rfl)
     clear hf
     refine .inl ⟨rfl,opOK_step fun R hR=>?_⟩
     unfold opOK
     go_simp
     exact hR _ _ ⟨h.1.put wishS rfl (by decide) 0 25 _ rfl trivial,h.2.plain 0 25 _ (by decide) (by decide) (by decide) (by decide) (by decide) (by decide) (by decide) (fun e=>(by cases e))⟩
    ·
     intro done ρ W hn hf hd h
     have q25:=h.1.get 0 25 _ rfl (hd 0 (by kernel_rfl))
     have hb0:=h.2.b0 (by
      cases hx:done 8 with
      | false=>rfl
      | true=>rw [h.2.zl (h.2.zs hx)] at hn;cases hn)
     obtain⟨y0,y1,y2,y3,y4,y5,y6⟩:=WB.cells hb0
     clear hf
     refine .inl ⟨rfl,opOK_step fun R hR=>?_⟩
     unfold opOK
     go_simp
     exact hR _ _ ⟨h.1.put wishS rfl (by decide) 1 26 _ rfl trivial,h.2.plain 1 26 _ (by decide) (by decide) (by decide) (by decide) (by decide) (by decide) (by decide) (fun e=>(by cases e))⟩
    ·
     intro done ρ W hn hf hd h
     have q0:ρ 0= .pointer (some ⟨g,0,none⟩):=hf 0 (by kernel_rfl)
     clear hf
     refine .inl ⟨rfl,opOK_step fun R hR=>?_⟩
     unfold opOK
     go_simp
     exact hR _ _ ⟨h.1.put wishS rfl (by decide) 2 27 _ rfl trivial,h.2.plain 2 27 _ (by decide) (by decide) (by decide) (by decide) (by decide) (by decide) (by decide) (fun e=>(by cases e))⟩
    ·
     intro done ρ W hn hf hd h
     have q27:=h.1.get 2 27 _ rfl (hd 2 (by kernel_rfl))
     clear hf
     have h0:=h.2.o0 (h.2.noa (h.2.nor hn))
     have hb0:=h.2.b0 (h.2.nos (h.2.noa (h.2.nor hn)))
     refine .inl ⟨rfl,opOK_step fun R hR=>?_⟩
     unfold opOK
     go_simp
     exact (eye_at g 1 sj W (h.2.e0 hn) x s2 Hx.out (by decide)).mono fun e W' ⟨he,hE,ho,x0,x1⟩=>⟨_,he,hR _ _ ⟨h.1.put wishS rfl (by decide) 3 28 _ rfl trivial,h.2.call hn (by decide) (h.2.t.trans ho) hE ⟨own_at h0.1 Hlt.out ho,h0.2.1.at Hlt.out ho,h0.2.2.at Hlt.out ho⟩ (WB.only hb0 ho Hne.out) trivial⟩⟩
    ·
     intro done ρ W hn hf hd h
     have q28:=h.1.get 3 28 _ rfl (hd 3 (by kernel_rfl))
     clear hf
     refine .inl ⟨rfl,opOK_step fun R hR=>?_⟩
     unfold opOK
     go_simp
     exact hR _ _ ⟨h.1.put wishS rfl (by decide) 4 29 _ rfl trivial,h.2.plain 4 29 _ (by decide) (by decide) (by decide) (by decide) (by decide) (by decide) (by decide) (fun _=>hd 3 (by kernel_rfl))⟩
    ·
     intro done ρ W hn hf hd h
     have q29:=h.1.get 4 29 _ rfl (hd 4 (by kernel_rfl))
     clear hf
     have hc:=h.2.ze (hd 4 (by kernel_rfl))
     have na:=h.2.noa hn
     have h0:=h.2.o0 na
     have hb0:=h.2.b0 (h.2.nos na)
     refine .inl ⟨rfl,opOK_step fun R hR=>?_⟩
     unfold opOK
     go_simp
     have hb:=boxed W (.cells #[.bool (x == 1)] 4)
     exact hR _ _ ⟨h.1.skip wishS rfl 5 30 _ rfl rfl trivial,h.2.row hn hc (by decide) (h.2.t.trans (OnlyAt.below hb (Nat.le_of_lt (h.2.e1 hc).lt))) ((h.2.e1 hc).below hb) ⟨own_below h0.1 hb (Nat.le_refl _),h0.2.1.below hb,h0.2.2.below hb⟩ (WB.below hb0 hb) trivial (heap_alloc_new _ _)⟩
    ·
     intro done ρ W hn hf hd h
     have q26:=h.1.get 1 26 _ rfl (hd 1 (by kernel_rfl))
     clear hf
     have hr:=hd 5 (by kernel_rfl)
     have h0:=h.2.o0 hn
     have hb0:=h.2.b0 (h.2.nos hn)
     obtain⟨-,hrow⟩:=h.2.x1 (h.2.zr hr) hn
     obtain⟨q,k1,k2⟩:=hrow hr
     refine .inl ⟨rfl,opOK_step fun R hR=>?_⟩
     have hrd:RD W W.heap.size 1 (some ⟨q,0,none⟩) 1 [.bool (x == 1)]:=by
      refine⟨rfl,fun _=>⟨q,0,rfl,(Array.getElem?_eq_some_iff.1 k2).1,fun i u hu=>?_⟩⟩
      rw [Nat.zero_add,cell_of_row _ _ _ _ _ _ k2,←Array.getElem?_toList]
      exact hu
     obtain⟨v',w',hrun,hown,hb9,hk9⟩:=run_append_held (P:=Tryz.prog) W w.heap.size 77 77 4 i0 (.bool false) 1 1 Tryz.underlying77 hi0 hz0 hz1 hz2 rfl (by decide) _ j (bls l) h0.1 W.heap.size (some ⟨q,0,none⟩) 1 1 [.bool (x == 1)] hrd (bls_one [x == 1]) (by omega) (by decide) h.2.t.1.size
     obtain⟨A2,c2,rfl,-,-,-⟩:=own_slice hown
     rw [bls_snoc] at hown
     exact opOK_append (.tmp 26) (.tmp 30) 77 rfl _ _ q26 k1 _ w' hrun (hR _ _ ⟨h.1.skip wishS rfl 6 31 _ rfl rfl trivial,h.2.app hn hr (hd 1 (by kernel_rfl)) (by decide) (h.2.t.more hb9 Hle.out) ((h.2.e1 (h.2.zr hr)).belowB hb9 Hlt.out) ⟨A2,c2,rfl,hown,h0.2.1.kept (by decide) (by decide) hk9,h0.2.2.kept (by decide) (by decide) hk9⟩ (hk9 gx _ hb0 (fun cur e=>by simp at e))⟩)
    ·
     intro done ρ W hn hf hd h
     have q2:ρ 2= .pointer (some ⟨gx,0,none⟩):=hf 2 (by kernel_rfl)
     clear hf
     refine .inl ⟨rfl,opOK_step fun R hR=>?_⟩
     unfold opOK
     go_simp
     exact hR _ _ ⟨h.1.put wishS rfl (by decide) 7 32 _ rfl trivial,h.2.plain 7 32 _ (by decide) (by decide) (by decide) (by decide) (by decide) (by decide) (by decide) (fun e=>(by cases e))⟩
    ·
     intro done ρ W hn hf hd h
     have q32:=h.1.get 7 32 _ rfl (hd 7 (by kernel_rfl))
     clear hf
     have ha:=hd 6 (by kernel_rfl)
     have h1:=h.2.a1 ha
     obtain⟨A2,c2,k31,ho,hT1,hS1⟩:=h1
     have hb0:=h.2.b0 hn
     have hE:=h.2.e1 (h.2.zr (h.2.za ha))
     obtain⟨y0,y1,y2,y3,y4,y5,y6⟩:=WB.cells hb0
     have f6:=WB.fr hb0 6
     refine .inl ⟨rfl,opOK_step fun R hR=>?_⟩
     unfold opOK
     go_simp
     refine hR _ _ ⟨h.1.world 8 _ rfl trivial,h.2.store ha (by decide) (h.2.t.setNew (Nat.le_of_eq Hgx.out.symm) Hle.out 6 _) (hE.other Hg.out 6 _) ⟨A2,c2,k31,own_setO ho hb0 (by decide) 6 _,hT1.setO hb0 (by decide) (by decide) 6 _,hS1.setO hb0 (by decide) (by decide) 6 _⟩ ?_⟩
     show WB _ gx _ _ _ _ _ _ (ρ 31)
     rw [k31]
     exact WB.set6 hb0 _
   ·intro a' w6 hdf hsz hf h
    obtain⟨A2,c2,k31,hG6,hT6,hS6⟩:=h.2.a1 (by kernel_rfl)
    have hB6:=h.2.b1 (by kernel_rfl)
    rw [k31] at hB6
    have HE6:=hide (h.2.e1 (by kernel_rfl))
    have HO6:=hide h.2.t
    have HG6:=hide hG6
    have HT6:=hide hT6
    have HS6:=hide hS6
    have HB6:=hide hB6
    have h0:slotsOf a' 0= .pointer (some ⟨g,0,none⟩):=hf 0 (by kernel_rfl)
    have h1:slotsOf a' 1=undef:=hf 1 (by kernel_rfl)
    have h2:slotsOf a' 2= .pointer (some ⟨gx,0,none⟩):=hf 2 (by kernel_rfl)
    have h3:slotsOf a' 3= .int .i64 n:=hf 3 (by kernel_rfl)
    have h4:slotsOf a' 4= .pointer (some ⟨g,0,none⟩):=hf 4 (by kernel_rfl)
    have h5:slotsOf a' 5= .agg #[.int .u32 t,.int .u8 r]:=hf 5 (by kernel_rfl)
    have h6:slotsOf a' 6= .pointer (some ⟨gx,0,none⟩):=hf 6 (by kernel_rfl)
    have h7:slotsOf a' 7= .pointer (some ⟨g,0,none⟩):=hf 7 (by kernel_rfl)
    have h8:slotsOf a' 8= .int .i64 n:=hf 8 (by kernel_rfl)
    have h9:slotsOf a' 9= .int .i64 n:=hf 9 (by kernel_rfl)
    have h10:slotsOf a' 10= .bool rd:=hf 10 (by kernel_rfl)
    have h11:slotsOf a' 11= .int .i64 n:=hf 11 (by kernel_rfl)
    have h12:slotsOf a' 12= .bool kn:=hf 12 (by kernel_rfl)
    have h13:slotsOf a' 13= .pointer (some ⟨gx,2,none⟩):=hf 13 (by kernel_rfl)
    have h14:slotsOf a' 14= .pointer (some ⟨gx,4,none⟩):=hf 14 (by kernel_rfl)
    have h15:slotsOf a' 15= .pointer (some ⟨g,0,none⟩):=hf 15 (by kernel_rfl)
    have h16:slotsOf a' 16= .slice hA hn hc:=hf 16 (by kernel_rfl)
    have h17:slotsOf a' 17= .pointer (some ⟨gx,3,none⟩):=hf 17 (by kernel_rfl)
    have h18:slotsOf a' 18= .pointer (some ⟨g,0,none⟩):=hf 18 (by kernel_rfl)
    have h19:slotsOf a' 19= .slice sA sn sC:=hf 19 (by kernel_rfl)
    have h20:slotsOf a' 20= .pointer (some ⟨gx,5,none⟩):=hf 20 (by kernel_rfl)
    have h21:slotsOf a' 21= .pointer (some ⟨g,0,none⟩):=hf 21 (by kernel_rfl)
    have h22:slotsOf a' 22= .int .i64 (M:Int):=hf 22 (by kernel_rfl)
    have h23:slotsOf a' 23= .int .i64 (j:Int):=hf 23 (by kernel_rfl)
    have h34:slotsOf a' 34=undef:=hf 34 (by kernel_rfl)
    clear hG6 hT6 hS6 hB6 HEj HOj HT HS HG HF k31
    obtain⟨T,D⟩:=a'
    have hD:D= []:=hdf
    subst hD
    obtain⟨f,hT,hff⟩:∃ f:Nat→Value,T=((List.range 35).map f).toArray∧slotsOf ⟨T, []⟩=f:=⟨_,arr_list T 35 hsz,rfl⟩
    rw [hff] at h0 h1 h2 h3 h4 h5 h6 h7 h8 h9 h10 h11 h12 h13 h14 h15 h16 h17 h18 h19 h20 h21 h22 h23 h34
    clear hff hsz hf h hdf
    simp only [List.range,List.range.loop,List.map] at hT
    subst hT
    rw [h0,h1,h2,h3,h4,h5,h6,h7,h8,h9,h10,h11,h12,h13,h14,h15,h16,h17,h18,h19,h20,h21,h22,h23,h34]
    clear h0 h1 h2 h3 h4 h5 h6 h7 h8 h9 h10 h11 h12 h13 h14 h15 h16 h17 h18 h19 h20 h21 h22 h23 h34
    go_wp2_with fail
    go_roundw
    case rel=>
     refine⟨j+1,A2,c2,l++ [x == 1],s2,by omega,by go_num,hide ?_,HB2,HB6,HG6,HT6,HS6,HE6,HO6⟩
     rw [List.length_append,Hl.out];rfl
    case measure=>simp [intOf];omega
  ·have z0:¬ (j:Int) < M:=by omega
   obtain rfl:j=M:=by omega
   have HQ:=hide (show (⟨t,r,rd,kn,HH,SS,l⟩:WP)=P∧sj=s9 by
    have hx:=HX.out
    rw [←HB.out,Nat.sub_self] at hx
    simp only [eyeB,Prod.mk.injEq] at hx
    exact hx)
   obtain⟨y0,y1,y2,y3,y4,y5,y6⟩:=HF.out.cells
   have f0:=HF.out.fr 0
   have F1:=HF.out.set0 (.int .u32 t)
   have f1:=F1.fr 1
   have F2:=F1.set1 (.int .u8 r)
   have f2:=F2.fr 2
   have F3:=F2.set2 (.bool rd)
   have f3:=F3.fr 3
   have F4:=F3.set3 (.slice hA hn hc)
   have f4:=F4.fr 4
   have F5:=F4.set4 (.bool kn)
   have f5:=F5.fr 5
   have F6:=F5.set5 (.slice sA sn sC)
   have f6:=F6.fr 6
   have HF7:=hide (F6.set6 (.slice gA j gc))
   have HE7:=hide (((((((HEj.out.other Hg.out 0 (.int .u32 t)).other Hg.out 1 (.int .u8 r)).other Hg.out 2 (.bool rd)).other Hg.out 3 (.slice hA hn hc)).other Hg.out 4 (.bool kn)).other Hg.out 5 (.slice sA sn sC)).other Hg.out 6 (.slice gA j gc))
   have hgx:=Nat.le_of_eq Hgx.out.symm
   have HO7:=hide (((((((HOj.out.setNew hgx Hle.out 0 (.int .u32 t)).setNew hgx Hle.out 1 (.int .u8 r)).setNew hgx Hle.out 2 (.bool rd)).setNew hgx Hle.out 3 (.slice hA hn hc)).setNew hgx Hle.out 4 (.bool kn)).setNew hgx Hle.out 5 (.slice sA sn sC)).setNew hgx Hle.out 6 (.slice gA j gc))
   have HT7:=hide (((((((HT.out.setO HF.out (by decide) (by decide) 0 (.int .u32 t)).setO F1 (by decide) (by decide) 1 (.int .u8 r)).setO F2 (by decide) (by decide) 2 (.bool rd)).setO F3 (by decide) (by decide) 3 (.slice hA hn hc)).setO F4 (by decide) (by decide) 4 (.bool kn)).setO F5 (by decide) (by decide) 5 (.slice sA sn sC)).setO F6 (by decide) (by decide) 6 (.slice gA j gc))
   have HS7:=hide (((((((HS.out.setO HF.out (by decide) (by decide) 0 (.int .u32 t)).setO F1 (by decide) (by decide) 1 (.int .u8 r)).setO F2 (by decide) (by decide) 2 (.bool rd)).setO F3 (by decide) (by decide) 3 (.slice hA hn hc)).setO F4 (by decide) (by decide) 4 (.bool kn)).setO F5 (by decide) (by decide) 5 (.slice sA sn sC)).setO F6 (by decide) (by decide) 6 (.slice gA j gc))
   have HG7:=hide (own_setO (own_setO (own_setO (own_setO (own_setO (own_setO (own_setO HG.out HF.out (by decide) 0 (.int .u32 t)) F1 (by decide) 1 (.int .u8 r)) F2 (by decide) 2 (.bool rd)) F3 (by decide) 3 (.slice hA hn hc)) F4 (by decide) 4 (.bool kn)) F5 (by decide) 5 (.slice sA sn sC)) F6 (by decide) 6 (.slice gA j gc))
   clear HB HX HF HEj HOj HT HS HG F1 F2 F3 F4 F5 F6 hgx
   go_wp2_with fail
   generalize hWW:((((((wr.setCell ⟨gx,0,none⟩ (.int .u32 t)).setCell ⟨gx,1,none⟩ (.int .u8 r)).setCell ⟨gx,2,none⟩ (.bool rd)).setCell ⟨gx,3,none⟩ (.slice hA hn hc)).setCell ⟨gx,4,none⟩ (.bool kn)).setCell ⟨gx,5,none⟩ (.slice sA sn sC)).setCell ⟨gx,6,none⟩ (.slice gA j gc)=WW at HF7 HE7 HO7 HT7 HS7 HG7 ⊢
   obtain⟨v0,v1,v2,v3,v4,v5,v6⟩:=HF7.out.cells
   refine bodyPost_ret (v:=wsv t r rd kn (.slice hA hn hc) (.slice sA sn sC) (.slice gA j gc)) (by simp [results,Tryz.results60,go_sem,v0,v1,v2,v3,v4,v5,v6]) rfl ?_
   refine⟨⟨t,r,rd,kn,hA,hc,h,sA,sC,s,gA,gc,l⟩,?_,?_,⟨HT7.out,HS7.out,by rw [Hl.out];exact HG7.out⟩,?_,by rw [←HQ.out.2];exact HE7.out,HO7.out⟩
   ·unfold WsL.val
    simp only
    rw [←Ehn.out,←Esn.out,Hl.out]
   ·rw [←HQ.out.1,←Hh.out.1,←Hs.out.1]
    rfl
   ·exact⟨t0,by show t < 4294967296;omega,r0,by show r≤255;omega,Hh.out.2.1,Hs.out.2.1,by have:=Hh.out.2.2;show h.length < _;omega,by have:=Hs.out.2.2;show s.length < _;omega,by have:=Hl.out;show l.length < _;omega⟩
theorem opsame_any (k t r z k' t' r' z':Int) (A B:Option Addr) (n m c d:Nat) (p q:List Rn) (w:World) (hr:RR w w.heap.size A p) (hs:RR w w.heap.size B q) (hn:p.length=n) (hm:q.length=m) (hl:n < 1073741824) (hl':m < 1073741824):
 Calls Tryz.prog 75 #[opv k t r A n c z,opv k' t' r' B m d z'] w fun e w'=>e= .returned (.bool (decide (k=k'∧t=t'∧r=r'∧p=q∧z=z')))∧Below w.heap.size w w':=by
 obtain⟨w1,hw1,a0,a1,a2,a3,a4,hs1,hb1⟩:=five_box w (.int .u8 k) (.int .u32 t) (.int .u8 r) (.slice A n c) (.int .i64 z) 104
 obtain⟨w2,hw2,b0,b1,b2,b3,b4,hs2,hb2⟩:=five_box w1 (.int .u8 k') (.int .u32 t') (.int .u8 r') (.slice B m d) (.int .i64 z') 104
 have hb02:=fresh hb1 hb2
 replace a0:=keep_cell hb2 hs1 a0
 replace a1:=keep_cell hb2 hs1 a1
 replace a2:=keep_cell hb2 hs1 a2
 replace a3:=keep_cell hb2 hs1 a3
 replace a4:=keep_cell hb2 hs1 a4
 replace hs1:=Nat.lt_of_lt_of_le hs1 hb2.size
 have C:=hide (psame_any A B c d n m p q w2 (hr.below' hb02) (hs.below' hb02) hn hm hl hl')
 clear hr hs hn hm hl hl'
 obtain⟨g1,hg1⟩:∃ g,g=w1.heap.size:=⟨_,rfl⟩
 have hc:((k == k')=false∧¬ k=k')∨((k == k')=true∧k=k'∧(((t == t')=false∧¬ t=t')∨((t == t')=true∧t=t'∧(((r == r')=false∧¬ r=r')∨((r == r')=true∧r=r'∧(((z == z')=false∧¬ z=z')∨((z == z')=true∧z=z'))))))):=by
  simp only [beq_iff_eq,beq_eq_false_iff_ne,ne_eq]
  omega
 clear hg1 g1
 rcases hc with⟨c1,e1⟩ | ⟨c1,e1,⟨c2,e2⟩ | ⟨c2,e2,⟨c3,e3⟩ | ⟨c3,e3,⟨c4,e4⟩ | ⟨c4,e4⟩⟩⟩⟩
 ·have hf:=hide (show decide (k=k'∧t=t'∧r=r'∧p=q∧z=z')=false from decide_eq_false fun h=>e1 (by simp only [h]))
  clear e1
  go_enter Tryz.func75,Tryz.ntmps75
  go_wp2_with fail
  go_ret
  exact⟨ret_bool hf.out.symm,hb02⟩
 ·have hf:=hide (show decide (k=k'∧t=t'∧r=r'∧p=q∧z=z')=false from decide_eq_false fun h=>e2 (by simp only [h]))
  clear e1 e2
  go_enter Tryz.func75,Tryz.ntmps75
  go_wp2_with fail
  go_ret
  exact⟨ret_bool hf.out.symm,hb02⟩
 ·have hf:=hide (show decide (k=k'∧t=t'∧r=r'∧p=q∧z=z')=false from decide_eq_false fun h=>e3 (by simp only [h]))
  clear e1 e2 e3
  go_enter Tryz.func75,Tryz.ntmps75
  go_wp2_with fail
  go_ret
  exact⟨ret_bool hf.out.symm,hb02⟩
 ·have hf:=hide (show decide (k=k'∧t=t'∧r=r'∧p=q∧z=z')=false from decide_eq_false fun h=>e4 (by simp only [h]))
  clear e1 e2 e3 e4
  go_enter Tryz.func75,Tryz.ntmps75
  go_wp2_with fail
  go_ret
  exact⟨ret_bool hf.out.symm,hb02⟩
 ·have hf:=hide (show decide (k=k'∧t=t'∧r=r'∧p=q∧z=z')=decide (p=q) from decide_eq_decide.2 ⟨fun h=>h.2.2.2.1,fun h=>⟨e1,e2,e3,h,e4⟩⟩)
  clear e1 e2 e3 e4
  go_enter Tryz.func75,Tryz.ntmps75
  go_wp2_with fail
  refine C.out.mono ?_
  rintro e w3 ⟨rfl,hb3⟩
  go_wp2_with fail
  go_ret
  exact⟨ret_bool (by rw [hf.out]),fresh hb02 hb3⟩
end Go.Proofs.YtmkpfdcnikgokaaGreat
