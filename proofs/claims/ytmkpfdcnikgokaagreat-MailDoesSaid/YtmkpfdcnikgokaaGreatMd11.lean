/-
  Texts of this claim, put together: EyeWish, TwinStep. What each theorem asks stands in its statement.
-/
import Derived.Test.YtmkpfdcnikgokaaGreatMd8
import Derived.Test.YtmkpfdcnikgokaaGreatMd10
set_option linter.unusedVariables false
set_option linter.unusedSimpArgs false
set_option maxRecDepth 100000
set_option maxHeartbeats 25600000
namespace Go.Proofs.YtmkpfdcnikgokaaGreat
open Go.RowKit
structure WP where
 t:Int
 r:Int
 rd:Bool
 kn:Bool
 H:List PT
 S:List PT
 G:List Bool
structure Ay where
 t:Int
 r:Int
 rd:Bool
 kn:Bool
 hA:Option Addr
 hc:Nat
 h:List Aq
 sA:Option Addr
 sc:Nat
 s:List Aq
 gA:Option Addr
 gc:Nat
 g:List Bool
def Ay.wp (x:Ay):WP:=⟨x.t,x.r,x.rd,x.kn,x.h.map Aq.pt,x.s.map Aq.pt,x.g⟩
def Ay.cells (x:Ay):List Value:= [.int .u32 x.t,.int .u8 x.r,.bool x.rd,.slice x.hA x.h.length x.hc,.bool x.kn,.slice x.sA x.s.length x.sc,.slice x.gA x.g.length x.gc]
abbrev wsv (t r:Int) (rd kn:Bool) (h s g:Value):Value:= .agg #[.int .u32 t,.int .u8 r,.bool rd,h,.bool kn,s,g]
def Ay.val (x:Ay):Value:=wsv x.t x.r x.rd x.kn (.slice x.hA x.h.length x.hc) (.slice x.sA x.s.length x.sc) (.slice x.gA x.g.length x.gc)
def N6 (l:List Bool):List Value:=l.map .bool
theorem Adi (l:List Bool):(N6 l).length=l.length:=List.length_map ..
theorem Uh (l:List Bool) (b:Bool):N6 l++ [.bool b]=N6 (l++ [b]):=by simp [N6]
theorem Om (l:List Bool):∀ u∈N6 l,u.oneCell'=true:=by
 intro u hu;obtain⟨b,-,rfl⟩:=List.mem_map.1 hu;rfl
theorem Sc:(Tryz.prog.info? 4).map (fun i=>(i.zero,i.size,i.bytes))=some (some (.bool false),1,1):=by kernel_rfl
def OW (w:World) (aa:Nat) (x:Ay):Prop:=Da w aa x.hA x.hc x.h/\Da w aa x.sA x.sc x.s/\w.ownsRow aa 4 1 (.slice x.gA x.g.length x.gc) x.g.length (N6 x.g)
def N5 (x:Ay):Prop:=0<=x.t/\x.t < 4294967296/\0<=x.r/\x.r<=255/\(∀ y∈x.h,M1 y)/\(∀ y∈x.s,M1 y)/\x.h.length < 1073741824/\x.s.length < 1073741824/\x.g.length < 1073741824
def WB (w:World) (g:Nat) (a b c d e f h:Value):Prop:=w.heap[g]?=some (.cells #[a,b,c,d,e,f,h] 79 (0,0))
section
variable {w w':World} {g g':Nat} {a b c d e f h:Value}
theorem WB.below (hF:WB w g a b c d e f h) (hb:Below w.heap.size w w'):WB w' g a b c d e f h:=(hb.block g (Array.getElem?_eq_some_iff.1 hF).1).trans hF
theorem WB.only (hF:WB w g a b c d e f h) (ho:Ah g' w w') (ak:g≠g'):WB w' g a b c d e f h:=(ho.2 g ak (Array.getElem?_eq_some_iff.1 hF).1).trans hF
theorem WB.fr (hF:WB w g a b c d e f h) (off:Nat):w.frozen? ⟨g,off,none⟩=false:=frozen_of_row w g off _ _ hF
theorem WB.cells (hF:WB w g a b c d e f h):w.cell? ⟨g,0,none⟩=some a/\w.cell? ⟨g,1,none⟩=some b/\w.cell? ⟨g,2,none⟩=some c/\w.cell? ⟨g,3,none⟩=some d/\w.cell? ⟨g,4,none⟩=some e/\w.cell? ⟨g,5,none⟩=some f/\w.cell? ⟨g,6,none⟩=some h:=by
 refine⟨?_,?_,?_,?_,?_,?_,?_⟩ <;> (rw [cell_of_row _ _ _ _ _ _ hF];rfl)
theorem WB.set0 (hF:WB w g a b c d e f h) (v:Value):WB (w.setCell ⟨g,0,none⟩ v) g v b c d e f h:=heap_setCell_same _ _ _ _ _ _ hF
theorem WB.set1 (hF:WB w g a b c d e f h) (v:Value):WB (w.setCell ⟨g,1,none⟩ v) g a v c d e f h:=heap_setCell_same _ _ _ _ _ _ hF
theorem WB.set2 (hF:WB w g a b c d e f h) (v:Value):WB (w.setCell ⟨g,2,none⟩ v) g a b v d e f h:=heap_setCell_same _ _ _ _ _ _ hF
theorem WB.set3 (hF:WB w g a b c d e f h) (v:Value):WB (w.setCell ⟨g,3,none⟩ v) g a b c v e f h:=heap_setCell_same _ _ _ _ _ _ hF
theorem WB.set4 (hF:WB w g a b c d e f h) (v:Value):WB (w.setCell ⟨g,4,none⟩ v) g a b c d v f h:=heap_setCell_same _ _ _ _ _ _ hF
theorem WB.set5 (hF:WB w g a b c d e f h) (v:Value):WB (w.setCell ⟨g,5,none⟩ v) g a b c d e v h:=heap_setCell_same _ _ _ _ _ _ hF
theorem WB.set6 (hF:WB w g a b c d e f h) (v:Value):WB (w.setCell ⟨g,6,none⟩ v) g a b c d e f v:=heap_setCell_same _ _ _ _ _ _ hF
end
theorem Bl {w:World} {aa g size n:Nat} {e T:TypeId} {v:Value} {L:List Value} {cs:Array Value} (h:w.ownsRow aa e size v n L) (hF:w.heap[g]?=some (.cells cs T (0,0))) (hT:e≠T) (off:Nat) (u:Value):(w.setCell ⟨g,off,none⟩ u).ownsRow aa e size v n L:=by
 refine⟨h.1,?_⟩;rcases h.2 with h0 | ⟨q,cap,bh,h1,h2,h3,h4⟩
 ·exact .inl h0
 ·have ak:q≠g:=by
   intro e;rw [<-e,h3] at hF;simp only [Option.some.injEq,Obj.cells.injEq] at hF;exact hT hF.2.1
  exact .inr ⟨q,cap,bh,h1,h2,(heap_setCell_other _ _ _ _ ak).trans h3,h4⟩
theorem Da.setO {w:World} {aa g c:Nat} {T:TypeId} {A:Option Addr} {L:List Aq} {cs:Array Value} (h:Da w aa A c L) (hF:w.heap[g]?=some (.cells cs T (0,0))) (h1:123≠T) (h2:129≠T) (off:Nat) (u:Value):Da (w.setCell ⟨g,off,none⟩ u) aa A c L:=
 ⟨Bl h.1 hF h1 off u,fun x hx=>Bl (h.2 x hx) hF h2 off u⟩
def Hw (bg:List Bool):Nat->ES->List Bool×ES
 | 0,st=>(bg,st)
 | k+1,st=>Hw (bg++ [(An 1 st).1 == 1]) k (An 1 st).2
theorem Lf {bg:List Bool} {k:Nat} {x:Int} {st s2:ES} (h:An 1 st=(x,s2)):Hw bg (k+1) st=Hw (bg++ [x == 1]) k s2:=by
 simp only [Hw,h]
def Qc (st:ES):WP×ES:=
 (⟨(Er st).1.1,(Er st).1.2,(An 2 (Er st).2).1 == 1,(An 2 (Er st).2).1 == 2,(D2 (An 2 (Er st).2).2).1,(D2 (D2 (An 2 (Er st).2).2).2).1,
   (Hw [] (An 128 (D2 (D2 (An 2 (Er st).2).2).2).2).1.toNat (An 128 (D2 (D2 (An 2 (Er st).2).2).2).2).2).1⟩,(Hw [] (An 128 (D2 (D2 (An 2 (Er st).2).2).2).2).1.toNat (An 128 (D2 (D2 (An 2 (Er st).2).2).2).2).2).2)
theorem Nm {st a b c d e:ES} {t r n k:Int} {H S:List PT} (h1:Er st=((t,r),a)) (h2:An 2 a=(n,b)) (h3:D2 b=(H,c)) (h4:D2 c=(S,d)) (h5:An 128 d=(k,e)):
 Qc st=(⟨t,r,n == 1,n == 2,H,S,(Hw [] k.toNat e).1⟩,(Hw [] k.toNat e).2):=by
 simp only [Qc,h1,h2,h3,h4,h5]
theorem Ct (w:World) (a b c d e f h:Value):∃ w2,w.alloc (.cells #[a,b,c,d,e,f,h] 79)=w2/\WB w2 w.heap.size a b c d e f h/\w.heap.size < w2.heap.size/\Below w.heap.size w w2:=
 ⟨_,rfl,heap_alloc_new _ _,by simp,Bf _ _⟩
theorem Da.kept {w w':World} {aa c:Nat} {e':TypeId} {A:Option Addr} {L:List Aq} (h:Da w aa A c L) (h1:123≠e') (h2:129≠e') (hk:∀ (b:Nat) (o':Obj),w.heap[b]?=some o'->(∀ bh,o'≠ .cells bh e' (0,0))->w'.heap[b]?=some o'):Da w' aa A c L:=
 ⟨Ef h.1 h1 hk,fun x hx=>Ef (h.2 x hx) h2 hk⟩
def Afp (gx g:Nat) (x:Int) (V:Value):List (Option (Nat×Value)):=
 [some (25,.pointer (some ⟨gx,6,none⟩)),some (26,V),some (27,.pointer (some ⟨g,0,none⟩)),some (28,.int .i64 x),some (29,.bool (x == 1)),none,none,some (32,.pointer (some ⟨gx,6,none⟩)),none]
def Np:List (Option Nat):= [some 25,some 26,some 27,some 28,some 29,none,none,some 32,none]
theorem Adb (g:Nat) (st:ES) (w:World) (h:EY w g st) (P:WP) (s9:ES) (hx:Qc st=(P,s9)):
 Calls Tryz.prog 60 #[.pointer (some ⟨g,0,none⟩)] w fun e w'=>∃ x:Ay,e= .returned x.val/\x.wp=P/\OW w' w.heap.size x/\N5 x/\EY w' g s9/\Ah g w w':=by
 obtain⟨i0,cr,cb,cu,cq⟩:=info_parts Sc;have ai:=h.lt;have kj:=Aa ai;have fs:=Aa (Nat.le_of_lt ai);obtain⟨t,r,sa,h1⟩:∃ t r s,Er st=((t,r),s):=⟨_,_,_,rfl⟩;obtain⟨n,sb,h2⟩:∃ x s,An 2 sa=(x,s):=⟨_,_,rfl⟩;obtain⟨HH,sc,h3⟩:∃ x s,D2 sb=(x,s):=⟨_,_,rfl⟩;obtain⟨SS,sd,h4⟩:∃ x s,D2 sc=(x,s):=⟨_,_,rfl⟩;obtain⟨k,se,h5⟩:∃ x s,An 128 sd=(x,s):=⟨_,_,rfl⟩;rw [Nm h1 h2 h3 h4 h5] at hx;have HX:=Aa hx;have H1:=Aa h1;have H2:=Aa h2;have H3:=Aa h3;have H4:=Aa h4;have H5:=Aa h5;obtain⟨w1,au,F1,af,ac⟩:=Ct w (.int .u32 0) (.int .u8 0) (.bool false) (.slice none 0 0) (.bool false) (.slice none 0 0) (.slice none 0 0);have qd:=Aa (h.below ac);have p9:=Aa (Ah.below ac (Nat.le_of_lt ai));obtain⟨gx,an⟩:∃ q,q=w.heap.size:=⟨_,rfl⟩;have av:=Aa an;have Hg:=Aa (show g < gx by omega);have dh:=Aa (show gx≠g by omega);rw [<-an] at F1;have az:=Aa F1;have dn:=Aa au;clear hx h1 h2 h3 h4 h5 F1 au af ac h ai an;go_enter Tryz.func60,Tryz.ntmps60;go_wp2_with fail;rw [dn.out,<-av.out];clear dn;refine (Pm g st w1 qd.out t r sa H1.out).mono ?_;rintro e w2 ⟨rfl,j9,dy,t0,t1,r0,r1⟩;have m7:=Aa j9;have td:=Aa (p9.out.trans dy);have db:=Aa (az.out.only dy dh.out);clear j9 dy qd p9 az;obtain⟨c0,c1,c2,c3,c4,c5,c6⟩:=db.out.cells;have f0:=db.out.fr 0;have f1:=db.out.fr 1;go_wp2_with fail;obtain⟨w3,b8⟩:∃ q,(w2.setCell ⟨gx,0,none⟩ (.int .u32 t)).setCell ⟨gx,1,none⟩ (.int .u8 r)=q:=⟨_,rfl⟩;have bz:Hid (WB w3 gx (.int .u32 t) (.int .u8 r) (.bool false) (.slice none 0 0) (.bool false) (.slice none 0 0) (.slice none 0 0)):=Aa (by rw [<-b8];exact (db.out.set0 _).set1 _);have gd:Hid (EY w3 g sa):=Aa (by rw [<-b8];exact (m7.out.other Hg.out 0 _).other Hg.out 1 _);have im:Hid (Ah g w w3):=Aa (by rw [<-b8];exact (td.out.setNew (Nat.le_of_eq av.out.symm) fs.out 0 _).setNew (Nat.le_of_eq av.out.symm) fs.out 1 _);rw [b8];clear b8 c0 c1 c2 c3 c4 c5 c6 f0 f1 m7 td db;refine (Dx g 2 sa w3 gd.out n sb H2.out (by decide)).mono ?_;rintro e w4 ⟨rfl,sx,kq,n0,n1⟩;have mf:=Aa sx;have wk:=Aa (im.out.trans kq);have ca:=Aa (bz.out.only kq dh.out);clear sx kq gd im bz;obtain⟨rd,FO⟩:∃ q,(n == 1)=q:=⟨_,rfl⟩;obtain⟨kn,NY⟩:∃ q,(n == 2)=q:=⟨_,rfl⟩;rw [FO,NY] at HX;obtain⟨c0,c1,c2,c3,c4,c5,c6⟩:=ca.out.cells;have f2:=ca.out.fr 2;have f4:=(ca.out.set2 (.bool rd)).fr 4;go_wp2_with fail;obtain⟨w5,b9⟩:∃ q,(w4.setCell ⟨gx,2,none⟩ (.bool rd)).setCell ⟨gx,4,none⟩ (.bool kn)=q:=⟨_,rfl⟩;have cl:Hid (WB w5 gx (.int .u32 t) (.int .u8 r) (.bool rd) (.slice none 0 0) (.bool kn) (.slice none 0 0) (.slice none 0 0)):=Aa (by rw [<-b9];exact (ca.out.set2 _).set4 _);have jt:Hid (EY w5 g sb):=Aa (by rw [<-b9];exact (mf.out.other Hg.out 2 _).other Hg.out 4 _);have jm:Hid (Ah g w w5):=Aa (by rw [<-b9];exact (wk.out.setNew (Nat.le_of_eq av.out.symm) fs.out 2 _).setNew (Nat.le_of_eq av.out.symm) fs.out 4 _);rw [b9];clear b9 c0 c1 c2 c3 c4 c5 c6 f2 f4 mf wk ca FO NY n0 n1;refine (Kj g sb w5 jt.out HH sc H3.out).mono ?_;rintro e w6 ⟨hA,hc,h,rfl,hh,AI,KT,IU,EQ,uh⟩;have iz:=Aa EQ;have fa:=Aa (jm.out.trans uh);have bj:=Aa (cl.out.only uh dh.out);have GC:=Aa (AI.less jm.out.1.size);have Hh:=Aa (And.intro hh (And.intro KT IU));obtain⟨hn,UR⟩:∃ q,q=List.length (α:=Aq) h:=⟨_,rfl⟩;have Ehn:=Aa UR;rw [<-UR];clear EQ uh jt jm cl hh AI KT IU UR;obtain⟨c0,c1,c2,c3,c4,c5,c6⟩:=bj.out.cells;have f3:=bj.out.fr 3;go_wp2_with fail;obtain⟨w7,cc⟩:∃ q,w6.setCell ⟨gx,3,none⟩ (.slice hA hn hc)=q:=⟨_,rfl⟩;have dg:Hid (WB w7 gx (.int .u32 t) (.int .u8 r) (.bool rd) (.slice hA hn hc) (.bool kn) (.slice none 0 0) (.slice none 0 0)):=Aa (by rw [<-cc];exact bj.out.set3 _);have kz:Hid (EY w7 g sc):=Aa (by rw [<-cc];exact iz.out.other Hg.out 3 _);have kp:Hid (Ah g w w7):=Aa (by rw [<-cc];exact fa.out.setNew (Nat.le_of_eq av.out.symm) fs.out 3 _);have KC:Hid (Da w7 w.heap.size hA hc h):=Aa (by rw [<-cc];exact GC.out.setO bj.out (by decide) (by decide) 3 _);rw [cc];clear cc c0 c1 c2 c3 c4 c5 c6 f3 iz fa bj GC;refine (Kj g sc w7 kz.out SS sd H4.out).mono ?_;rintro e w8 ⟨sA,sC,s,rfl,hh,hT8,KS,IU,hE8,gh⟩;have qy:=Aa hE8;have jj:=Aa (kp.out.trans gh);have dp:=Aa (dg.out.only gh dh.out);have HT8:=Aa (KC.out.at kj.out gh);have FC:=Aa (hT8.less kp.out.1.size);have Hs:=Aa (And.intro hh (And.intro KS IU));obtain⟨sn,UQ⟩:∃ q,q=List.length (α:=Aq) s:=⟨_,rfl⟩;have Esn:=Aa UQ;rw [<-UQ];clear hE8 gh kz kp dg KC hh hT8 KS IU UQ;obtain⟨c0,c1,c2,c3,c4,c5,c6⟩:=dp.out.cells;have f5:=dp.out.fr 5;go_wp2_with fail;obtain⟨w9,dq⟩:∃ q,w8.setCell ⟨gx,5,none⟩ (.slice sA sn sC)=q:=⟨_,rfl⟩;have eg:Hid (WB w9 gx (.int .u32 t) (.int .u8 r) (.bool rd) (.slice hA hn hc) (.bool kn) (.slice sA sn sC) (.slice none 0 0)):=Aa (by rw [<-dq];exact dp.out.set5 _);have ud:Hid (EY w9 g sd):=Aa (by rw [<-dq];exact qy.out.other Hg.out 5 _);have n9:Hid (Ah g w w9):=Aa (by rw [<-dq];exact jj.out.setNew (Nat.le_of_eq av.out.symm) fs.out 5 _);have HT9:Hid (Da w9 w.heap.size hA hc h):=Aa (by rw [<-dq];exact HT8.out.setO dp.out (by decide) (by decide) 5 _);have OE:Hid (Da w9 w.heap.size sA sC s):=Aa (by rw [<-dq];exact FC.out.setO dp.out (by decide) (by decide) 5 _);rw [dq];clear dq c0 c1 c2 c3 c4 c5 c6 f5 qy jj dp HT8 FC;refine (Dx g 128 sd w9 ud.out k se H5.out (by decide)).mono ?_;rintro e lk ⟨rfl,LJ,dt,k0,k1⟩;obtain⟨M,rfl⟩:∃ M:Nat,k=M:=⟨k.toNat,by omega⟩;rw [Int.toNat_natCast] at HX;have AZ:=Aa LJ;have om:=Aa (n9.out.trans dt);have kg:=Aa (eg.out.only dt dh.out);have LQ:=Aa (HT9.out.at kj.out dt);have xb:=Aa (OE.out.at kj.out dt);clear LJ dt ud n9 eg HT9 OE;go_wp2_with fail
 go_loopw [23] (fun i wr=>∃ (j:Nat) (gA:Option Addr) (gc:Nat) (l:List Bool) (sj:ES),j<=M/\i= .int .i64 (j:Int)/\Hid (l.length=j)/\Hid (Hw l (M - j) sj=Hw [] M se)/\Hid (WB wr gx (.int .u32 t) (.int .u8 r) (.bool rd) (.slice hA hn hc) (.bool kn) (.slice sA sn sC) (.slice gA j gc))/\Hid (wr.ownsRow w.heap.size 4 1 (.slice gA j gc) j (N6 l))/\Hid (Da wr w.heap.size hA hc h)/\Hid (Da wr w.heap.size sA sC s)/\Hid (EY wr g sj)/\Hid (Ah g w wr)) (fun i _=>M - (intOf i).toNat)
 case atStart=>exact⟨0,none,0, [],se,by omega,rfl,Aa rfl,Aa rfl,kg,Aa (World.ownsRow_nil _ _ _ _),LQ,xb,AZ,om⟩
 case round=>
  obtain⟨j,gA,gc,l,sj,hj,rfl,Hl,HB,HF,HG,HT,HS,mz,tc⟩:=hrel;clear AZ om kg LQ xb;by_cases ai:j < M
  ·have z0:(j:Int) < M:=by omega
   have eu:=HB;obtain⟨x,s2,hx⟩:∃ x s,An 1 sj=(x,s):=⟨_,_,rfl⟩;rw [show M - j=(M - (j+1))+1 by omega,Lf hx] at eu;have fh:=Aa eu.out;have Hx:=Aa hx;clear HB eu hx;go_wp2_with fail
   refine Bc (fun done ρ W=>LI (Afp gx g x (.slice gA j gc)) (fun _=>True) done ρ W/\AJ 1 4 3 5 6 8 28 30 31 (Ah g w) (fun W=>EY W g sj) (fun W=>EY W g s2) (fun W=>W.ownsRow w.heap.size 4 1 (.slice gA j gc) j (N6 l)/\Da W w.heap.size hA hc h/\Da W w.heap.size sA sC s)
    (fun W=>WB W gx (.int .u32 t) (.int .u8 r) (.bool rd) (.slice hA hn hc) (.bool kn) (.slice sA sn sC) (.slice gA j gc)) (fun _ _=>True) (fun _ q W=>W.heap[q]?=some (.cells #[.bool (x == 1)] 4 (0,0)))
    (fun v W=>∃ A2 c2,v= .slice A2 (j+1) c2/\W.ownsRow w.heap.size 4 1 (.slice A2 (j+1) c2) (j+1) (N6 (l++ [x == 1]))/\Da W w.heap.size hA hc h/\Da W w.heap.size sA sC s)
    (fun v W=>WB W gx (.int .u32 t) (.int .u8 r) (.bool rd) (.slice hA hn hc) (.bool kn) (.slice sA sn sC) v) done ρ W) (by kernel_rfl) 35 (by rfl) (by kernel_rfl) ?_ ?_ ?_
   ·exact⟨LI.start _ trivial,AJ.start _ (tc.out.trans (Ah.below (Below.refl _ _).drew (Nat.le_of_lt mz.out.lt))) (mz.out.below (Below.refl _ _).drew) ⟨Ai HG.out (Below.refl _ _).drew (Nat.le_refl _),HT.out.below (Below.refl _ _).drew,HS.out.below (Below.refl _ _).drew⟩ (WB.below HF.out (Below.refl _ _).drew)⟩
   ·refine⟨?_,?_,?_,?_,?_,?_,?_,?_,?_,trivial⟩
    ·
     intro done ρ W hn hf hd h;have q2:ρ 2= .pointer (some ⟨gx,0,none⟩):=hf 2 (by kernel_rfl);clear hf;refine Bd rfl fun R hR=>?_;go_simp;exact hR _ _ ⟨h.1.put Np rfl (by decide) 0 25 _ rfl trivial,h.2.plain 0 25 _ (by decide) (by decide) (by decide) (by decide) (by decide) (by decide) (by decide) (fun e=>(by cases e))⟩
    ·
     intro done ρ W hn hf hd h;have q25:=h.1.get 0 25 _ rfl (hd 0 (by kernel_rfl))
     have fp:=h.2.b0 (by
      cases hx:done 8 with
      | false=>rfl
      | true=>rw [h.2.zl (h.2.zs hx)] at hn;cases hn)
     obtain⟨y0,y1,y2,y3,y4,y5,y6⟩:=WB.cells fp;clear hf;refine Bd rfl fun R hR=>?_;go_simp;exact hR _ _ ⟨h.1.put Np rfl (by decide) 1 26 _ rfl trivial,h.2.plain 1 26 _ (by decide) (by decide) (by decide) (by decide) (by decide) (by decide) (by decide) (fun e=>(by cases e))⟩
    ·
     intro done ρ W hn hf hd h;have q0:ρ 0= .pointer (some ⟨g,0,none⟩):=hf 0 (by kernel_rfl);clear hf;refine Bd rfl fun R hR=>?_;go_simp;exact hR _ _ ⟨h.1.put Np rfl (by decide) 2 27 _ rfl trivial,h.2.plain 2 27 _ (by decide) (by decide) (by decide) (by decide) (by decide) (by decide) (by decide) (fun e=>(by cases e))⟩
    ·
     intro done ρ W hn hf hd h;have q27:=h.1.get 2 27 _ rfl (hd 2 (by kernel_rfl));clear hf;have h0:=h.2.o0 (h.2.noa (h.2.nor hn));have fp:=h.2.b0 (h.2.nos (h.2.noa (h.2.nor hn)));refine Bd rfl fun R hR=>?_;go_simp;exact (Dx g 1 sj W (h.2.e0 hn) x s2 Hx.out (by decide)).mono fun e W' ⟨he,hE,ho,x0,x1⟩=>⟨_,he,hR _ _ ⟨h.1.put Np rfl (by decide) 3 28 _ rfl trivial,h.2.call hn (by decide) (h.2.t.trans ho) hE ⟨Fu h0.1 kj.out ho,h0.2.1.at kj.out ho,h0.2.2.at kj.out ho⟩ (WB.only fp ho dh.out) trivial⟩⟩
    ·
     intro done ρ W hn hf hd h;have q28:=h.1.get 3 28 _ rfl (hd 3 (by kernel_rfl));clear hf;refine Bd rfl fun R hR=>?_;go_simp;exact hR _ _ ⟨h.1.put Np rfl (by decide) 4 29 _ rfl trivial,h.2.plain 4 29 _ (by decide) (by decide) (by decide) (by decide) (by decide) (by decide) (by decide) (fun _=>hd 3 (by kernel_rfl))⟩
    ·
     intro done ρ W hn hf hd h;have q29:=h.1.get 4 29 _ rfl (hd 4 (by kernel_rfl));clear hf;have hc:=h.2.ze (hd 4 (by kernel_rfl));have na:=h.2.noa hn;have h0:=h.2.o0 na;have fp:=h.2.b0 (h.2.nos na);refine Bd rfl fun R hR=>?_;go_simp;have hb:=Bf W (.cells #[.bool (x == 1)] 4);exact hR _ _ ⟨h.1.skip Np rfl 5 30 _ rfl rfl trivial,h.2.row hn hc (by decide) (h.2.t.trans (Ah.below hb (Nat.le_of_lt (h.2.e1 hc).lt))) ((h.2.e1 hc).below hb) ⟨Ai h0.1 hb (Nat.le_refl _),h0.2.1.below hb,h0.2.2.below hb⟩ (WB.below fp hb) trivial (heap_alloc_new _ _)⟩
    ·
     intro done ρ W hn hf hd h;have q26:=h.1.get 1 26 _ rfl (hd 1 (by kernel_rfl));clear hf;have hr:=hd 5 (by kernel_rfl);have h0:=h.2.o0 hn;have fp:=h.2.b0 (h.2.nos hn);obtain⟨-,jf⟩:=h.2.x1 (h.2.zr hr) hn;obtain⟨q,k1,k2⟩:=jf hr;refine .inl ⟨rfl,Bt fun R hR=>?_⟩;have FO:RD W W.heap.size 1 (some ⟨q,0,none⟩) 1 [.bool (x == 1)]:=by
      refine⟨rfl,fun _=>⟨q,0,rfl,(Array.getElem?_eq_some_iff.1 k2).1,fun i u hu=>?_⟩⟩;rw [Nat.zero_add,cell_of_row _ _ _ _ _ _ k2,<-Array.getElem?_toList];exact hu
     obtain⟨v',w',je,ah,ez,mx⟩:=Dg (P:=Tryz.prog) W w.heap.size 77 77 4 i0 (.bool false) 1 1 Tryz.underlying77 cr cb cu cq rfl (by decide) _ j (N6 l) h0.1 W.heap.size (some ⟨q,0,none⟩) 1 1 [.bool (x == 1)] FO (Om [x == 1]) (by omega) (by decide) h.2.t.1.size;obtain⟨A2,c2,rfl,-,-,-⟩:=Ao ah;rw [Uh] at ah;exact E7 (.tmp 26) (.tmp 30) 77 rfl _ _ q26 k1 _ w' je (hR _ _ ⟨h.1.skip Np rfl 6 31 _ rfl rfl trivial,h.2.app hn hr (hd 1 (by kernel_rfl)) (by decide) (h.2.t.more ez fs.out) ((h.2.e1 (h.2.zr hr)).belowB ez kj.out) ⟨A2,c2,rfl,ah,h0.2.1.kept (by decide) (by decide) mx,h0.2.2.kept (by decide) (by decide) mx⟩ (mx gx _ fp (fun bh e=>by simp at e))⟩)
    ·
     intro done ρ W hn hf hd h;have q2:ρ 2= .pointer (some ⟨gx,0,none⟩):=hf 2 (by kernel_rfl);clear hf;refine Bd rfl fun R hR=>?_;go_simp;exact hR _ _ ⟨h.1.put Np rfl (by decide) 7 32 _ rfl trivial,h.2.plain 7 32 _ (by decide) (by decide) (by decide) (by decide) (by decide) (by decide) (by decide) (fun e=>(by cases e))⟩
    ·
     intro done ρ W hn hf hd h;have q32:=h.1.get 7 32 _ rfl (hd 7 (by kernel_rfl));clear hf;have ha:=hd 6 (by kernel_rfl);have h1:=h.2.a1 ha;obtain⟨A2,c2,ZT,ho,UE,zm⟩:=h1;have fp:=h.2.b0 hn;have hE:=h.2.e1 (h.2.zr (h.2.za ha));obtain⟨y0,y1,y2,y3,y4,y5,y6⟩:=WB.cells fp;have f6:=WB.fr fp 6;refine Bd rfl fun R hR=>?_;go_simp;refine hR _ _ ⟨h.1.world 8 _ rfl trivial,h.2.store ha (by decide) (h.2.t.setNew (Nat.le_of_eq av.out.symm) fs.out 6 _) (hE.other Hg.out 6 _) ⟨A2,c2,ZT,Bl ho fp (by decide) 6 _,UE.setO fp (by decide) (by decide) 6 _,zm.setO fp (by decide) (by decide) 6 _⟩ ?_⟩;show WB _ gx _ _ _ _ _ _ (ρ 31);rw [ZT];exact WB.set6 fp _
   ·intro a' w6 cz ay hf h;obtain⟨A2,c2,ZT,hG6,AI,hS6⟩:=h.2.a1 (by kernel_rfl);have yc:=h.2.b1 (by kernel_rfl);rw [ZT] at yc;have iz:=Aa (h.2.e1 (by kernel_rfl));have fa:=Aa h.2.t;have GF:=Aa hG6;have GC:=Aa AI;have uu:=Aa hS6;have dx:=Aa yc;have h0:Ab a' 0= .pointer (some ⟨g,0,none⟩):=hf 0 (by kernel_rfl);have h1:Ab a' 1=undef:=hf 1 (by kernel_rfl);have h2:Ab a' 2= .pointer (some ⟨gx,0,none⟩):=hf 2 (by kernel_rfl);have h3:Ab a' 3= .int .i64 n:=hf 3 (by kernel_rfl);have h4:Ab a' 4= .pointer (some ⟨g,0,none⟩):=hf 4 (by kernel_rfl);have h5:Ab a' 5= .agg #[.int .u32 t,.int .u8 r]:=hf 5 (by kernel_rfl);have h6:Ab a' 6= .pointer (some ⟨gx,0,none⟩):=hf 6 (by kernel_rfl);have h7:Ab a' 7= .pointer (some ⟨g,0,none⟩):=hf 7 (by kernel_rfl);have h8:Ab a' 8= .int .i64 n:=hf 8 (by kernel_rfl);have h9:Ab a' 9= .int .i64 n:=hf 9 (by kernel_rfl);have kb:Ab a' 10= .bool rd:=hf 10 (by kernel_rfl);have ky:Ab a' 11= .int .i64 n:=hf 11 (by kernel_rfl);have jr:Ab a' 12= .bool kn:=hf 12 (by kernel_rfl);have kw:Ab a' 13= .pointer (some ⟨gx,2,none⟩):=hf 13 (by kernel_rfl);have jd:Ab a' 14= .pointer (some ⟨gx,4,none⟩):=hf 14 (by kernel_rfl);have rl:Ab a' 15= .pointer (some ⟨g,0,none⟩):=hf 15 (by kernel_rfl);have nk:Ab a' 16= .slice hA hn hc:=hf 16 (by kernel_rfl);have rk:Ab a' 17= .pointer (some ⟨gx,3,none⟩):=hf 17 (by kernel_rfl);have rj:Ab a' 18= .pointer (some ⟨g,0,none⟩):=hf 18 (by kernel_rfl);have pe:Ab a' 19= .slice sA sn sC:=hf 19 (by kernel_rfl);have ou:Ab a' 20= .pointer (some ⟨gx,5,none⟩):=hf 20 (by kernel_rfl);have nj:Ab a' 21= .pointer (some ⟨g,0,none⟩):=hf 21 (by kernel_rfl);have pd:Ab a' 22= .int .i64 (M:Int):=hf 22 (by kernel_rfl);have ri:Ab a' 23= .int .i64 (j:Int):=hf 23 (by kernel_rfl);have um:Ab a' 34=undef:=hf 34 (by kernel_rfl);clear hG6 AI hS6 yc mz tc HT HS HG HF ZT;obtain⟨T,D⟩:=a';have hD:D= []:=cz;subst hD;obtain⟨f,hT,df⟩:∃ f:Nat->Value,T=((List.range 35).map f).toArray/\Ab ⟨T, []⟩=f:=⟨_,Bm T 35 ay,rfl⟩;rw [df] at h0 h1 h2 h3 h4 h5 h6 h7 h8 h9 kb ky jr kw jd rl nk rk rj pe ou nj pd ri um;clear df ay hf h cz;simp only [List.range,List.range.loop,List.map] at hT;subst hT;rw [h0,h1,h2,h3,h4,h5,h6,h7,h8,h9,kb,ky,jr,kw,jd,rl,nk,rk,rj,pe,ou,nj,pd,ri,um];clear h0 h1 h2 h3 h4 h5 h6 h7 h8 h9 kb ky jr kw jd rl nk rk rj pe ou nj pd ri um;go_wp2_with fail;go_roundw
    case rel=>
     refine⟨j+1,A2,c2,l++ [x == 1],s2,by omega,by go_num,Aa ?_,fh,dx,GF,GC,uu,iz,fa⟩;rw [List.length_append,Hl.out];rfl
    case measure=>simp [intOf];omega
  ·have z0:¬ (j:Int) < M:=by omega
   obtain rfl:j=M:=by omega
   have HQ:=Aa (show (⟨t,r,rd,kn,HH,SS,l⟩:WP)=P/\sj=s9 by
    have hx:=HX.out
    rw [<-HB.out,Nat.sub_self] at hx
    simp only [Hw,Prod.mk.injEq] at hx
    exact hx)
   obtain⟨y0,y1,y2,y3,y4,y5,y6⟩:=HF.out.cells;have f0:=HF.out.fr 0;have F1:=HF.out.set0 (.int .u32 t);have f1:=F1.fr 1;have F2:=F1.set1 (.int .u8 r);have f2:=F2.fr 2;have F3:=F2.set2 (.bool rd);have f3:=F3.fr 3;have F4:=F3.set3 (.slice hA hn hc);have f4:=F4.fr 4;have F5:=F4.set4 (.bool kn);have f5:=F5.fr 5;have F6:=F5.set5 (.slice sA sn sC);have f6:=F6.fr 6;have dg:=Aa (F6.set6 (.slice gA j gc));have kz:=Aa (((((((mz.out.other Hg.out 0 (.int .u32 t)).other Hg.out 1 (.int .u8 r)).other Hg.out 2 (.bool rd)).other Hg.out 3 (.slice hA hn hc)).other Hg.out 4 (.bool kn)).other Hg.out 5 (.slice sA sn sC)).other Hg.out 6 (.slice gA j gc));have an:=Nat.le_of_eq av.out.symm;have kp:=Aa (((((((tc.out.setNew an fs.out 0 (.int .u32 t)).setNew an fs.out 1 (.int .u8 r)).setNew an fs.out 2 (.bool rd)).setNew an fs.out 3 (.slice hA hn hc)).setNew an fs.out 4 (.bool kn)).setNew an fs.out 5 (.slice sA sn sC)).setNew an fs.out 6 (.slice gA j gc));have KC:=Aa (((((((HT.out.setO HF.out (by decide) (by decide) 0 (.int .u32 t)).setO F1 (by decide) (by decide) 1 (.int .u8 r)).setO F2 (by decide) (by decide) 2 (.bool rd)).setO F3 (by decide) (by decide) 3 (.slice hA hn hc)).setO F4 (by decide) (by decide) 4 (.bool kn)).setO F5 (by decide) (by decide) 5 (.slice sA sn sC)).setO F6 (by decide) (by decide) 6 (.slice gA j gc));have DG:=Aa (((((((HS.out.setO HF.out (by decide) (by decide) 0 (.int .u32 t)).setO F1 (by decide) (by decide) 1 (.int .u8 r)).setO F2 (by decide) (by decide) 2 (.bool rd)).setO F3 (by decide) (by decide) 3 (.slice hA hn hc)).setO F4 (by decide) (by decide) 4 (.bool kn)).setO F5 (by decide) (by decide) 5 (.slice sA sn sC)).setO F6 (by decide) (by decide) 6 (.slice gA j gc));have ph:=Aa (Bl (Bl (Bl (Bl (Bl (Bl (Bl HG.out HF.out (by decide) 0 (.int .u32 t)) F1 (by decide) 1 (.int .u8 r)) F2 (by decide) 2 (.bool rd)) F3 (by decide) 3 (.slice hA hn hc)) F4 (by decide) 4 (.bool kn)) F5 (by decide) 5 (.slice sA sn sC)) F6 (by decide) 6 (.slice gA j gc));clear HB HX HF mz tc HT HS HG F1 F2 F3 F4 F5 F6 an;go_wp2_with fail;generalize NK:((((((wr.setCell ⟨gx,0,none⟩ (.int .u32 t)).setCell ⟨gx,1,none⟩ (.int .u8 r)).setCell ⟨gx,2,none⟩ (.bool rd)).setCell ⟨gx,3,none⟩ (.slice hA hn hc)).setCell ⟨gx,4,none⟩ (.bool kn)).setCell ⟨gx,5,none⟩ (.slice sA sn sC)).setCell ⟨gx,6,none⟩ (.slice gA j gc)=WW at dg kz kp KC DG ph |-;obtain⟨v0,v1,v2,v3,v4,v5,v6⟩:=dg.out.cells;refine bodyPost_ret (v:=wsv t r rd kn (.slice hA hn hc) (.slice sA sn sC) (.slice gA j gc)) (by simp [results,Tryz.results60,go_sem,v0,v1,v2,v3,v4,v5,v6]) rfl ?_;refine⟨⟨t,r,rd,kn,hA,hc,h,sA,sC,s,gA,gc,l⟩,?_,?_,⟨KC.out,DG.out,by rw [Hl.out];exact ph.out⟩,?_,by rw [<-HQ.out.2];exact kz.out,kp.out⟩
   ·unfold Ay.val;simp only;rw [<-Ehn.out,<-Esn.out,Hl.out]
   ·rw [<-HQ.out.1,<-Hh.out.1,<-Hs.out.1];rfl
   ·exact⟨t0,by show t < 4294967296;omega,r0,by show r<=255;omega,Hh.out.2.1,Hs.out.2.1,by have:=Hh.out.2.2;show h.length < _;omega,by have:=Hs.out.2.2;show s.length < _;omega,by have:=Hl.out;show l.length < _;omega⟩
structure TJ (w0:World) (B iR iS i0 ic sc ib sb ir sr ia sa ij sj:Nat) (A:Option Addr) (c:Nat) (L:List Aq) (R:Int) (s:List Sp) (u0:Value) (done:Nat->Bool) (ρ:Nat->Value) (W:World):Prop where
 b:Below B w0 W
 o:done ia=false->Da W B A c L
 x:done ic=true->done ia=false->∃ A2 c2,ρ sc= .slice A2 s.length c2/\W.ownsRow B 129 2 (.slice A2 s.length c2) s.length (Lp s)/\(done ib=true->ρ sb= .agg #[.int .u8 R,.slice A2 s.length c2])/\(done ir=true->∃ q,ρ sr= .slice (some ⟨q,0,none⟩) 1 1/\W.heap[q]?=some (.cells #[.int .u8 R,.slice A2 s.length c2] 123 (0,0)))
 a:done ia=true->∃ A2 c2 A3 c3,ρ sa= .slice A3 (L.length+1) c3/\Da W B A3 c3 (L++ [⟨R,A2,c2,s⟩])/\(done ij=true->ρ sj= .slice A3 (L.length+1) c3)
 u:done ij=false->ρ sj=u0
 z1:done ib=true->done ic=true
 z2:done ir=true->done ib=true
 z3:done ia=true->done ir=true
 z4:done ij=true->done ia=true
 z0:done ia=true->done i0=true
 e:done ia=false->Below w0.heap.size w0 W
 zR:done ib=true->done iR=true
 zS:done ic=true->done iS=true
structure TB (i0 ic sc ib sb ir sr ia sa ij sj:Nat):Prop where
 i:ic≠ib/\ic≠ir/\ic≠ia/\ic≠ij/\ib≠ir/\ib≠ia/\ib≠ij/\ir≠ia/\ir≠ij/\ia≠ij
 s:sc≠sb/\sc≠sr/\sc≠sa/\sc≠sj/\sb≠sr/\sb≠sa/\sb≠sj/\sr≠sa/\sr≠sj/\sa≠sj
theorem Bp {done:Nat->Bool} {i j:Nat} (h:j≠i):Bo done i j=done j:=by simp [Bo,h]
theorem Oq (done:Nat->Bool) (i:Nat):Bo done i i=true:=by simp [Bo]
theorem B9 {done:Nat->Bool} {i j:Nat} (h:done j=true):Bo done i j=true:=by simp [Bo,h]
theorem Fm {ρ:Nat->Value} {d s:Nat} {v:Value} (h:s≠d):Bn ρ (some d) v s=ρ s:=by simp [Bn,h]
theorem Ot (ρ:Nat->Value) (d:Nat) (v:Value):Bn ρ (some d) v d=v:=by simp [Bn]
section
variable {w0:World} {B iR iS i0 ic sc ib sb ir sr ia sa ij sj:Nat} {A:Option Addr} {c:Nat} {L:List Aq} {R:Int} {s:List Sp} {u0:Value} {done:Nat->Bool} {ρ:Nat->Value} {W:World}
theorem TJ.start (hb:Below B w0 W) (he:Below w0.heap.size w0 W) (ho:Da W B A c L) (hu:ρ sj=u0):TJ w0 B iR iS i0 ic sc ib sb ir sr ia sa ij sj A c L R s u0 (fun _=>false) ρ W:=
 ⟨hb,fun _=>ho,fun h=>(by cases h),fun h=>(by cases h),fun _=>hu,fun h=>(by cases h),fun h=>(by cases h),fun h=>(by cases h),fun h=>(by cases h),fun h=>(by cases h),fun _=>he,fun h=>(by cases h),fun h=>(by cases h)⟩
theorem TJ.first (h:TJ w0 B iR iS i0 ic sc ib sb ir sr ia sa ij sj A c L R s u0 done ρ W) (hn:done i0=false):ρ sj=u0:=by
 refine h.u ?_
 cases h3:done ij with
 | false=>rfl
 | true=>rw [h.z0 (h.z4 h3)] at hn;cases hn
theorem TJ.plain (h:TJ w0 B iR iS i0 ic sc ib sb ir sr ia sa ij sj A c L R s u0 done ρ W) (i d:Nat) (v:Value) (hi:ic≠i/\ib≠i/\ir≠i/\ia≠i/\ij≠i) (hd:sc≠d/\sb≠d/\sr≠d/\sa≠d/\sj≠d):TJ w0 B iR iS i0 ic sc ib sb ir sr ia sa ij sj A c L R s u0 (Bo done i) (Bn ρ (some d) v) W:=by
 obtain⟨a1,a2,a3,a4,a5⟩:=hi;obtain⟨d1,d2,d3,d4,d5⟩:=hd;refine⟨h.b,?_,?_,?_,?_,?_,?_,?_,?_,?_,by rw [Bp a4];exact h.e,by rw [Bp a2];exact fun k=>B9 (h.zR k),by rw [Bp a1];exact fun k=>B9 (h.zS k)⟩
 ·rw [Bp a4];exact h.o
 ·rw [Bp a1,Bp a4,Bp a2,Bp a3,Fm d1,Fm d2,Fm d3];exact h.x
 ·rw [Bp a4,Bp a5,Fm d4,Fm d5];exact h.a
 ·rw [Bp a5,Fm d5];exact h.u
 ·rw [Bp a1,Bp a2];exact h.z1
 ·rw [Bp a2,Bp a3];exact h.z2
 ·rw [Bp a3,Bp a4];exact h.z3
 ·rw [Bp a4,Bp a5];exact h.z4
 ·rw [Bp a4];exact fun k=>B9 (h.z0 k)
theorem TJ.no (h:TJ w0 B iR iS i0 ic sc ib sb ir sr ia sa ij sj A c L R s u0 done ρ W):(done ic=false->done ib=false)/\(done ib=false->done ir=false)/\(done ir=false->done ia=false)/\(done ia=false->done ij=false):=by
 refine⟨fun k=>?_,fun k=>?_,fun k=>?_,fun k=>?_⟩
 ·cases hx:done ib with
  | false=>rfl
  | true=>rw [h.z1 hx] at k;cases k
 ·cases hx:done ir with
  | false=>rfl
  | true=>rw [h.z2 hx] at k;cases k
 ·cases hx:done ia with
  | false=>rfl
  | true=>rw [h.z3 hx] at k;cases k
 ·cases hx:done ij with
  | false=>rfl
  | true=>rw [h.z4 hx] at k;cases k
theorem TJ.call (h:TJ w0 B iR iS i0 ic sc ib sb ir sr ia sa ij sj A c L R s u0 done ρ W) (hT:TB i0 ic sc ib sb ir sr ia sa ij sj) (hn:done ic=false) (hS:done iS=true) (hB:B<=W.heap.size) {A2:Option Addr} {c2:Nat} {W':World} (hr:W'.ownsRow W.heap.size 129 2 (.slice A2 s.length c2) s.length (Lp s)) (hb:Below W.heap.size W W'):
 TJ w0 B iR iS i0 ic sc ib sb ir sr ia sa ij sj A c L R s u0 (Bo done ic) (Bn ρ (some sc) (.slice A2 s.length c2)) W':=by
 obtain⟨⟨i1,i2,i3,i4,-⟩,⟨s1,s2,s3,s4,-⟩⟩:=hT;obtain⟨n1,n2,n3,n4⟩:=h.no;have m1:=n1 hn;have m2:=n2 m1;have m3:=n3 m2;have m4:=n4 m3;have k1:Bo done ic ib=false:=by rw [Bp i1.symm];exact m1
 have k2:Bo done ic ir=false:=by rw [Bp i2.symm];exact m2
 have k3:Bo done ic ia=false:=by rw [Bp i3.symm];exact m3
 have k4:Bo done ic ij=false:=by rw [Bp i4.symm];exact m4
 refine⟨h.b.trans (hb.mono hB),fun _=>(h.o m3).below hb,fun _ _=>⟨A2,c2,Ot _ _ _,Bq hr hB,?_,?_⟩,?_,?_,?_,?_,?_,?_,?_,fun _=>Ad (h.e m3) hb,(by rw [k1];exact fun e=>by cases e),fun _=>B9 hS⟩
 ·rw [k1];exact fun e=>by cases e
 ·rw [k2];exact fun e=>by cases e
 ·rw [k3];exact fun e=>by cases e
 ·rw [Fm s4.symm];exact fun _=>h.u m4
 ·rw [k1];exact fun e=>by cases e
 ·rw [k2];exact fun e=>by cases e
 ·rw [k3];exact fun e=>by cases e
 ·rw [k4];exact fun e=>by cases e
 ·rw [k3];exact fun e=>by cases e
theorem TJ.build (h:TJ w0 B iR iS i0 ic sc ib sb ir sr ia sa ij sj A c L R s u0 done ρ W) (hT:TB i0 ic sc ib sb ir sr ia sa ij sj) (hn:done ib=false) (hc:done ic=true) (hR:done iR=true) {v:Value} (hv:v= .agg #[.int .u8 R,ρ sc]):
 TJ w0 B iR iS i0 ic sc ib sb ir sr ia sa ij sj A c L R s u0 (Bo done ib) (Bn ρ (some sb) v) W:=by
 obtain⟨⟨i1,-,-,-,i5,i6,i7,-⟩,⟨s1,-,-,-,s5,s6,s7,-⟩⟩:=hT;obtain⟨n1,n2,n3,n4⟩:=h.no;have m2:=n2 hn;have m3:=n3 m2;have m4:=n4 m3;have k0:Bo done ib ic=true:=B9 hc;have k2:Bo done ib ir=false:=by rw [Bp i5.symm];exact m2
 have k3:Bo done ib ia=false:=by rw [Bp i6.symm];exact m3
 have k4:Bo done ib ij=false:=by rw [Bp i7.symm];exact m4
 refine⟨h.b,fun _=>h.o m3,fun _ _=>?_,?_,?_,?_,?_,?_,?_,?_,fun _=>h.e m3,fun _=>B9 hR,fun _=>B9 (h.zS hc)⟩
 ·obtain⟨A2,c2,e1,e2,-,-⟩:=h.x hc m3;refine⟨A2,c2,by rw [Fm s1];exact e1,e2,fun _=>by rw [Ot,hv,e1],?_⟩;rw [k2];exact fun e=>by cases e
 ·rw [k3];exact fun e=>by cases e
 ·rw [Fm s7.symm];exact fun _=>h.u m4
 ·exact fun _=>k0
 ·rw [k2];exact fun e=>by cases e
 ·rw [k3];exact fun e=>by cases e
 ·rw [k4];exact fun e=>by cases e
 ·rw [k3];exact fun e=>by cases e
theorem TJ.row (h:TJ w0 B iR iS i0 ic sc ib sb ir sr ia sa ij sj A c L R s u0 done ρ W) (hT:TB i0 ic sc ib sb ir sr ia sa ij sj) (hn:done ir=false) (hc:done ib=true) (hB:B<=W.heap.size) {X:Value} (hX:ρ sb= .agg #[.int .u8 R,X]):
 TJ w0 B iR iS i0 ic sc ib sb ir sr ia sa ij sj A c L R s u0 (Bo done ir) (Bn ρ (some sr) (.slice (some ⟨W.heap.size,0,none⟩) 1 1)) (W.alloc (.cells #[.int .u8 R,X] 123)):=by
 obtain⟨⟨-,i2,-,-,i5,-,-,i8,i9,-⟩,⟨-,s2,-,-,s5,-,-,s8,s9,-⟩⟩:=hT;obtain⟨n1,n2,n3,n4⟩:=h.no;have m3:=n3 hn;have m4:=n4 m3;have UC:=h.z1 hc;have hb:=Bf W (.cells #[.int .u8 R,X] 123);have k0:Bo done ir ic=true:=B9 UC;have k1:Bo done ir ib=true:=B9 hc;have k3:Bo done ir ia=false:=by rw [Bp i8.symm];exact m3
 have k4:Bo done ir ij=false:=by rw [Bp i9.symm];exact m4
 refine⟨h.b.trans (hb.mono hB),fun _=>(h.o m3).below hb,fun _ _=>?_,?_,?_,?_,?_,?_,?_,?_,fun _=>Ad (h.e m3) hb,fun _=>B9 (h.zR hc),fun _=>B9 (h.zS UC)⟩
 ·obtain⟨A2,c2,e1,e2,e3,-⟩:=h.x UC m3;have e4:=e3 hc;rw [hX] at e4;simp only [Value.agg.injEq,Array.mk.injEq,List.cons.injEq,and_true,true_and] at e4;subst e4;exact⟨A2,c2,by rw [Fm s2];exact e1,Ai e2 hb (Nat.le_refl _),fun _=>by rw [Fm s5];exact hX,fun _=>⟨W.heap.size,Ot _ _ _,heap_alloc_new _ _⟩⟩
 ·rw [k3];exact fun e=>by cases e
 ·rw [Fm s9.symm];exact fun _=>h.u m4
 ·exact fun _=>k0
 ·exact fun _=>k1
 ·rw [k3];exact fun e=>by cases e
 ·rw [k4];exact fun e=>by cases e
 ·rw [k3];exact fun e=>by cases e
theorem TJ.app (h:TJ w0 B iR iS i0 ic sc ib sb ir sr ia sa ij sj A c L R s u0 done ρ W) (hT:TB i0 ic sc ib sb ir sr ia sa ij sj) (hn:done ia=false) (hc:done ir=true) (h0:done i0=true) {A2:Option Addr} {c2:Nat} {A3:Option Addr} {c3:Nat} {W':World} (ho:Da W' B A3 c3 (L++ [⟨R,A2,c2,s⟩])) (hb:Below B W W'):
 TJ w0 B iR iS i0 ic sc ib sb ir sr ia sa ij sj A c L R s u0 (Bo done ia) (Bn ρ (some sa) (.slice A3 (L.length+1) c3)) W':=by
 obtain⟨⟨-,-,-,-,-,-,-,-,-,i10⟩,⟨-,-,-,-,-,-,-,-,-,s10⟩⟩:=hT;obtain⟨n1,n2,n3,n4⟩:=h.no;have m4:=n4 hn;have hcb:=h.z2 hc;have UC:=h.z1 hcb;have k4:Bo done ia ij=false:=by rw [Bp i10.symm];exact m4
 refine⟨h.b.trans hb,?_,?_,fun _=>⟨A2,c2,A3,c3,Ot _ _ _,ho,?_⟩,?_,fun _=>B9 UC,fun _=>B9 hcb,fun _=>B9 hc,?_,fun _=>B9 h0,(by rw [Oq];exact fun e=>by cases e),fun _=>B9 (h.zR hcb),fun _=>B9 (h.zS UC)⟩
 ·rw [Oq];exact fun e=>by cases e
 ·rw [Oq];exact fun _ e=>by cases e
 ·rw [k4];exact fun e=>by cases e
 ·rw [Fm s10.symm];exact fun _=>h.u m4
 ·rw [k4];exact fun e=>by cases e
theorem TJ.asg (h:TJ w0 B iR iS i0 ic sc ib sb ir sr ia sa ij sj A c L R s u0 done ρ W) (hT:TB i0 ic sc ib sb ir sr ia sa ij sj) (hc:done ia=true) {v:Value} (hv:v=ρ sa):
 TJ w0 B iR iS i0 ic sc ib sb ir sr ia sa ij sj A c L R s u0 (Bo done ij) (Bn ρ (some sj) v) W:=by
 obtain⟨⟨-,-,-,i4,-,-,i7,-,i9,i10⟩,⟨-,-,-,s4,-,-,s7,-,s9,s10⟩⟩:=hT;have kc:Bo done ij ia=true:=B9 hc;refine⟨h.b,?_,?_,fun _=>?_,?_,fun _=>B9 (h.z1 (h.z2 (h.z3 hc))),fun _=>B9 (h.z2 (h.z3 hc)),fun _=>B9 (h.z3 hc),fun _=>kc,fun _=>B9 (h.z0 hc),(by rw [kc];exact fun e=>by cases e),fun _=>B9 (h.zR (h.z2 (h.z3 hc))),fun _=>B9 (h.zS (h.z1 (h.z2 (h.z3 hc))))⟩
 ·rw [kc];exact fun e=>by cases e
 ·rw [kc];exact fun _ e=>by cases e
 ·obtain⟨A2,c2,A3,c3,e1,e2,-⟩:=h.a hc;exact⟨A2,c2,A3,c3,by rw [Fm s10];exact e1,e2,fun _=>by rw [Ot,hv,e1]⟩
 ·rw [Oq];exact fun e=>by cases e
end
theorem I1 {w w':World} {B b off:Nat} {v:Value} (hb:Below B w w') (hB:b < B) (h:w.cell? ⟨b,off,none⟩=some v):w'.cell? ⟨b,off,none⟩=some v:=(hb.cell (p:=⟨b,off,none⟩) hB).trans h
theorem Mv {o:Oper} {ρ:Nat->Value} {w:World} {Q:P9} (S X:Operand) (ho:o.op= .call { callee:= .builtin .append,args:=#[S,X],argTypes:=#[47,47] })
 {B:Nat} {A:Option Addr} {c:Nat} {L:List Aq} {R:Int} {A2:Option Addr} {c2:Nat} {s:List Sp} {g:Nat} (hs:Fg ρ S= .slice A L.length c) (hx:Fg ρ X= .slice (some ⟨g,0,none⟩) 1 1) (hO:Da w B A c L) (hy:w.ownsRow B 129 2 (.slice A2 s.length c2) s.length (Lp s))
 (hg:w.heap[g]?=some (.cells #[.int .u8 R,.slice A2 s.length c2] 123 (0,0))) (uk:L.length+1<=1073741824) (hb:B<=w.heap.size)
 (h:∀ A3 c3 w',Da w' B A3 c3 (L++ [⟨R,A2,c2,s⟩])->Below B w w'->Q (.slice A3 (L.length+1) c3) w'):Ih Tryz.prog o ρ w Q:=by
 obtain⟨i0,cr,cb,cu,cq⟩:=info_parts Z4;have hr:RD w w.heap.size 2 (some ⟨g,0,none⟩) 1 (Aq.cells ⟨R,A2,c2,s⟩):=by
  refine⟨rfl,fun _=>⟨g,0,rfl,(Array.getElem?_eq_some_iff.1 hg).1,fun j u hu=>?_⟩⟩;rw [Nat.zero_add,cell_of_row _ _ _ _ _ _ hg,<-Array.getElem?_toList];exact hu
 have h1:∀ u∈Aq.cells ⟨R,A2,c2,s⟩,u.oneCell'=true:=by
  intro u hu;simp only [Aq.cells,List.mem_cons,List.not_mem_nil,or_false] at hu;rcases hu with rfl | rfl <;> rfl
 obtain⟨v',w',je,e1,e2,e3⟩:=Dg (P:=Tryz.prog) w B 47 o.type 123 i0 (.agg #[.int .u8 0,.slice none 0 0]) 2 32 Tryz.underlying47 cr cb cu cq rfl (by decide) _ L.length (Td L) hO.1 w.heap.size (some ⟨g,0,none⟩) 1 1 (Aq.cells ⟨R,A2,c2,s⟩) hr h1 uk (by decide) hb;obtain⟨A3,c3,rfl,-,-,-⟩:=Ao e1;refine E7 S X _ ho _ _ hs hx _ w' je (h A3 c3 w' ⟨?_,fun q hq=>?_⟩ e2)
 ·rw [<-Tr,List.length_append,List.length_singleton];exact e1
 ·rcases List.mem_append.1 hq with hq | hq
  ·exact Ef (hO.2 q hq) (by decide) e3
  ·simp only [List.mem_singleton] at hq;subst hq;exact Ef hy (by decide) e3
end Go.Proofs.YtmkpfdcnikgokaaGreat
