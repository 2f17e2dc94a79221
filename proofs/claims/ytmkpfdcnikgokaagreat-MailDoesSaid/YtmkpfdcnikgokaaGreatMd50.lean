/-
  Texts of this claim, put together: MailSpoil, CrcTells, FrameRefM, RefCheck. What each theorem asks stands in its statement.
-/
import Derived.Lib.SlBytesConst
import Derived.Test.YtmkpfdcnikgokaaGreatMd48
set_option linter.unusedVariables false
set_option linter.unusedSimpArgs false
set_option maxRecDepth 100000
set_option maxHeartbeats 25600000
namespace Go.Proofs.YtmkpfdcnikgokaaGreat
open Go.RowKit
def SzO (w:World) (aa:Nat) (e:TypeId) (size:Nat) (A:Option Addr) (n c:Nat):Prop:=∃ xs,w.ownsRow aa e size (.slice A n c) n xs
def BlO (w:World) (aa:Nat) (A:Option Addr) (n c:Nat):Prop:=∃ l:List Bool,l.length=n/\w.ownsRow aa 4 1 (.slice A n c) n (N6 l)
theorem SzO.set {w:World} {aa size n c g:Nat} {e e':TypeId} {A:Option Addr} {cs:Array Value} (h:SzO w aa e size A n c) (hF:w.heap[g]?=some (.cells cs e' (0,0))) (k:Nat) (v:Value):SzO (w.setCell ⟨g,k,none⟩ v) aa e size A n c:=by
 obtain⟨xs,h1,h2⟩:=h;rcases h2 with h2 | ⟨q,cap,bh,h2,h3,h4,h5,h6,h7,h8⟩
 ·exact⟨xs,h1,.inl h2⟩
 ·by_cases hq:q=g
  ·subst hq;rw [h4] at hF;simp only [Option.some.injEq,Obj.cells.injEq] at hF;obtain⟨rfl,rfl,-⟩:=hF;refine⟨xs.set k v,by rw [List.length_set];exact h1,.inr ⟨q,cap,_,h2,h3,heap_setCell_same _ _ _ _ _ _ h4,h5,h6,by simpa using h7,?_⟩⟩;rw [Array.toList_setIfInBounds,List.take_set,h8]
  ·exact⟨xs,h1,.inr ⟨q,cap,bh,h2,h3,(heap_setCell_other _ _ _ _ hq).trans h4,h5,h6,h7,h8⟩⟩
theorem BlO.set {w:World} {aa n c g:Nat} {e':TypeId} {A:Option Addr} {cs:Array Value} (h:BlO w aa A n c) (hF:w.heap[g]?=some (.cells cs e' (0,0))) (k:Nat) (v:Value) (hv:4≠e'\/∃ b,v= .bool b):BlO (w.setCell ⟨g,k,none⟩ v) aa A n c:=by
 obtain⟨l,hl,h1,h2⟩:=h;rcases h2 with h2 | ⟨q,cap,bh,h2,h3,h4,h5,h6,h7,h8⟩
 ·exact⟨l,hl,h1,.inl h2⟩
 ·by_cases hq:q=g
  ·subst hq;rw [h4] at hF;simp only [Option.some.injEq,Obj.cells.injEq] at hF;obtain⟨rfl,he,-⟩:=hF;obtain⟨b,rfl⟩:=hv.resolve_left (fun hn=>hn he);refine⟨l.set k b,by rw [List.length_set];exact hl,by rw [Adi,List.length_set,hl,Nat.mul_one],.inr ⟨q,cap,_,h2,h3,heap_setCell_same _ _ _ _ _ _ h4,h5,h6,by simpa using h7,?_⟩⟩;rw [Array.toList_setIfInBounds,List.take_set,h8];simp [N6]
  ·exact⟨l,hl,h1,.inr ⟨q,cap,bh,h2,h3,(heap_setCell_other _ _ _ _ hq).trans h4,h5,h6,h7,h8⟩⟩
theorem SzO.cell {w:World} {aa size n c:Nat} {e:TypeId} {A:Option Addr} (h:SzO w aa e size A n c) (q:Nat) (hq:q < n * size):∃ g cs,A=some ⟨g,0,none⟩/\aa<=g/\w.heap[g]?=some (.cells cs e (0,0))/\(∃ u,w.cell? ⟨g,q,none⟩=some u)/\w.frozen? ⟨g,q,none⟩=false:=by
 obtain⟨xs,h9⟩:=h
 have hn:0 < n:=by rcases Nat.eq_zero_or_pos n with h0 | h0;·rw [h0,Nat.zero_mul] at hq;omega
                   ·exact h0
 obtain⟨g,rfl⟩:=I5 h9 hn;obtain⟨cs,h1,h2,-,-⟩:=Ld h9;have hl:q < xs.length:=by rw [h9.1];exact hq
 exact⟨g,cs,rfl,h2,h1,⟨xs[q],Jk h9 hn q _ (List.getElem?_eq_getElem hl)⟩,frozen_of_row w g q _ _ h1⟩
theorem BlO.cell {w:World} {aa n c:Nat} {A:Option Addr} (h:BlO w aa A n c) (q:Nat) (hq:q < n):∃ g cs b,A=some ⟨g,0,none⟩/\aa<=g/\w.heap[g]?=some (.cells cs 4 (0,0))/\w.cell? ⟨g,q,none⟩=some (.bool b)/\w.frozen? ⟨g,q,none⟩=false:=by
 obtain⟨l,hl,h9⟩:=h;obtain⟨g,rfl⟩:=I5 h9 (by omega);obtain⟨cs,h1,h2,-,-⟩:=Ld h9;exact⟨g,cs,l[q],rfl,h2,h1,Jk h9 (by omega) q _ (by simp [N6,hl,hq]),frozen_of_row w g q _ _ h1⟩
structure Th (w0:World) (aa gx:Nat) (x:Av) (W:World):Prop where
 b:Below aa w0 W
 mb:MB W gx (.int .u8 x.k) (.int .u32 x.t) (.int .u8 x.r) (.int .i64 x.ix) (.slice x.iA x.i.length x.ic) (.slice x.oA x.o.length x.oc) (.slice x.sA x.s.length x.sc)
 o:W.ownsRow aa 104 5 (.slice x.oA x.o.length x.oc) x.o.length (Ec x.o)
 s:W.ownsRow aa 79 7 (.slice x.sA x.s.length x.sc) x.s.length (Jw x.s)
 i:SzO W aa 123 2 x.iA x.i.length x.ic
 p:∀ y∈x.o,SzO W aa 120 3 y.A y.p.length y.c
 h:∀ y∈x.s,SzO W aa 123 2 y.hA y.h.length y.hc
 g:∀ y∈x.s,BlO W aa y.gA y.g.length y.gc
theorem Th.set {w0 W:World} {aa gx g:Nat} {x:Av} {cs:Array Value} {e:TypeId} (h:Th w0 aa gx x W) (hF:W.heap[g]?=some (.cells cs e (0,0))) (hg:aa<=g) (he:51≠e/\104≠e/\79≠e) (k:Nat) (v:Value) (hv:4≠e\/∃ b,v= .bool b):Th w0 aa gx x (W.setCell ⟨g,k,none⟩ v):=
 have hk:∀ q,q≠g->(W.setCell ⟨g,k,none⟩ v).heap[q]?=W.heap[q]?:=fun q hq=>heap_setCell_other _ _ _ _ hq
 ⟨h.b.setCell hg _,h.mb.ne hF he.1 hk,H9 h.o hF he.2.1 hk,H9 h.s hF he.2.2 hk,h.i.set hF k v,fun y hy=>(h.p y hy).set hF k v,fun y hy=>(h.h y hy).set hF k v,fun y hy=>(h.g y hy).set hF k v hv⟩
theorem Th.drew {w0 W:World} {aa gx:Nat} {x:Av} (h:Th w0 aa gx x W):Th w0 aa gx x W.drew:=
 have hb:Below W.heap.size W W.drew:=(Below.refl _ _).drew
 ⟨h.b.drew,h.mb.below hb,Ai h.o hb (Nat.le_refl _),Ai h.s hb (Nat.le_refl _),h.i.elim fun a k=>⟨a,Ai k hb (Nat.le_refl _)⟩,fun y hy=>(h.p y hy).elim fun a k=>⟨a,Ai k hb (Nat.le_refl _)⟩,fun y hy=>(h.h y hy).elim fun a k=>⟨a,Ai k hb (Nat.le_refl _)⟩,fun y hy=>(h.g y hy).elim fun a k=>⟨a,k.1,Ai k.2 hb (Nat.le_refl _)⟩⟩
theorem M0.spm {w:World} {aa:Nat} {x:Av} (h:M0 w aa x) (hb:aa<=w.heap.size):Th w aa w.heap.size x (w.alloc (.cells #[.int .u8 x.k,.int .u32 x.t,.int .u8 x.r,.int .i64 x.ix,.slice x.iA x.i.length x.ic,.slice x.oA x.o.length x.oc,.slice x.sA x.s.length x.sc] 51)):=by
 obtain⟨w1,au,F1,-,ac⟩:=Am w (.int .u8 x.k) (.int .u32 x.t) (.int .u8 x.r) (.int .i64 x.ix) (.slice x.iA x.i.length x.ic) (.slice x.oA x.o.length x.oc) (.slice x.sA x.s.length x.sc);rw [au];have k:=h.below ac;exact⟨ac.mono hb,F1,k.2.1.1,k.2.2.1,⟨_,k.1.1⟩,fun y hy=>⟨_,k.2.1.2 y hy⟩,fun y hy=>⟨_,(k.2.2.2 y hy).1.1⟩,fun y hy=>⟨_,rfl,(k.2.2.2 y hy).2.2⟩⟩
theorem Th.op {w0 W:World} {aa gx j:Nat} {x:Av} (h:Th w0 aa gx x W) (hj:j < x.o.length):∃ g y,x.oA=some ⟨g,0,none⟩/\y∈x.o/\W.cell? ⟨g,j * 5+3,none⟩=some (.slice y.A y.p.length y.c)/\x.o[j]?=some y:=by
 have ho:=h.o;obtain⟨g,hA⟩:=I5 ho (by omega);rw [hA] at ho;exact⟨g,x.o[j],hA,List.getElem_mem hj,Jk ho (by omega) _ _ (by rw [Ph x.o j hj 3 (by decide)];rfl),List.getElem?_eq_getElem hj⟩
theorem Th.ws {w0 W:World} {aa gx j:Nat} {x:Av} (h:Th w0 aa gx x W) (hj:j < x.s.length):∃ g y,x.sA=some ⟨g,0,none⟩/\y∈x.s/\W.cell? ⟨g,j * 7+3,none⟩=some (.slice y.hA y.h.length y.hc)/\W.cell? ⟨g,j * 7+6,none⟩=some (.slice y.gA y.g.length y.gc)/\x.s[j]?=some y:=by
 have ho:=h.s;obtain⟨g,hA⟩:=I5 ho (by omega);rw [hA] at ho;exact⟨g,x.s[j],hA,List.getElem_mem hj,Jk ho (by omega) _ _ (by rw [Jw,Hk _ 7 (fun _=>rfl) x.s j hj 3 (by decide)];rfl),Jk ho (by omega) _ _ (by rw [Jw,Hk _ 7 (fun _=>rfl) x.s j hj 6 (by decide)];rfl),List.getElem?_eq_getElem hj⟩
theorem Aex (x:Av) (aa:Nat) (w:World) (h:M0 w aa x) (hb:aa<=w.heap.size) (hs:Ka x):
 Calls Tryz.prog 30 #[x.val] w fun e w'=>e= .returned (.tuple #[])/\Below aa w w':=by
 have H0:=h.spm hb;obtain⟨w1,au⟩:∃ q,w.alloc (.cells #[.int .u8 x.k,.int .u32 x.t,.int .u8 x.r,.int .i64 x.ix,.slice x.iA x.i.length x.ic,.slice x.oA x.o.length x.oc,.slice x.sA x.s.length x.sc] 51)=q:=⟨_,rfl⟩;rw [au] at H0;have HS0:=Aa H0;have dn:=Aa au;obtain⟨⟨hi,-⟩,⟨ho,BP⟩,sh,XU⟩:=hs;have BS:=Aa BP;have Hsw:=Aa XU;have BO:x.s.length<=80:=sh;clear BP XU sh h au H0 hb;show Calls Tryz.prog 30 #[Ci x.k x.t x.r x.ix (.slice x.iA x.i.length x.ic) (.slice x.oA x.o.length x.oc) (.slice x.sA x.s.length x.sc)] w _;go_enter Tryz.func30,Tryz.ntmps30;go_wp2_with fail;rw [dn.out];obtain⟨gx,an⟩:∃ q,q=w.heap.size:=⟨_,rfl⟩;rw [<-an] at HS0 |-;clear an dn
 go_loopw [2] (fun i wr=>∃ j:Nat,j<=x.o.length/\i= .int .i64 (j:Int)/\Hid (Th w aa gx x wr)) (fun i _=>x.o.length - (intOf i).toNat)
 case atStart=>exact⟨0,by omega,rfl,HS0⟩
 case round=>
  obtain⟨j,hj,rfl,KD⟩:=hrel;clear HS0;obtain⟨x0,x1,x2,x3,x4,x5,x6⟩:=KD.out.mb.cells;by_cases ai:j < x.o.length
  ·have z0:(j:Int) < x.o.length:=by omega
   have zj:(0:Int)<=j:=by omega
   obtain⟨g,y,hA,m9,-,hy⟩:=KD.out.op ai;have Hym:=Aa m9;have Hy:=Aa hy;have HA:=Aa hA;have hy6:=BS.out y m9;clear m9 hy hA;go_wp2_with fail;clear x0 x1 x2 x3 x4 x5 x6
   go_loopw [3] (fun i wr=>∃ k:Nat,k<=y.p.length/\i= .int .i64 (k:Int)/\Hid (Th w aa gx x wr)) (fun i _=>y.p.length - (intOf i).toNat)
   case atStart=>exact⟨0,by omega,rfl,KD⟩
   case round=>
    obtain⟨k,hk,rfl,IE⟩:=hrel;clear KD;obtain⟨x0,x1,x2,x3,x4,x5,x6⟩:=IE.out.mb.cells;obtain⟨g',y9,jc,-,d3,zd⟩:=IE.out.op ai;obtain rfl:y=y9:=by rw [Hy.out] at zd;exact Option.some.inj zd
    rw [jc] at x5;obtain⟨yl,TR⟩:∃ q,y.p.length=q:=⟨_,rfl⟩;obtain⟨ol,hol⟩:∃ q,x.o.length=q:=⟨_,rfl⟩;have Hyl:=Aa TR;have sy:=Aa hol;rw [TR] at d3 hk hy6 |-;rw [hol] at x5 ai hj z0 ho;clear zd TR hol HA jc;by_cases nf:k < yl
    ·have z1:(k:Int) < yl:=by omega
     have zk:(0:Int)<=k:=by omega
     obtain⟨g2,cs,n7,oq,JA,⟨u2,e0⟩,e1⟩:=(IE.out.p y Hym.out).cell (k * 3+2) (by rw [Hyl.out];omega);rw [n7] at d3;have UY:=Aa (IE.out.set JA oq ⟨by decide,by decide,by decide⟩ (k * 3+2) (.int .i64 (-7)) (.inl (by decide)));clear JA n7 oq;go_wp2_with fail;go_roundw
     case rel=>exact⟨k+1,by omega,by go_num,UY⟩
     case measure=>simp [intOf];omega
    ·obtain rfl:k=yl:=by omega
     have z1:¬ (k:Int) < k:=by omega
     go_wp2_with fail;go_roundw
     case rel=>exact⟨j+1,by rw [sy.out];omega,by go_num,IE⟩
     case measure=>simp [intOf];rw [sy.out];omega
  ·obtain rfl:j=x.o.length:=by omega
   have z0:¬ (x.o.length:Int) < x.o.length:=by omega
   go_wp2_with fail;clear x0 x1 x2 x3 x4 x5 x6
   go_loopw [4] (fun i wr=>∃ j:Nat,j<=x.i.length/\i= .int .i64 (j:Int)/\Hid (Th w aa gx x wr)) (fun i _=>x.i.length - (intOf i).toNat)
   case atStart=>exact⟨0,by omega,rfl,KD⟩
   case round=>
    obtain⟨j,hj,rfl,HSi⟩:=hrel;clear KD;obtain⟨x0,x1,x2,x3,x4,x5,x6⟩:=HSi.out.mb.cells;obtain⟨il,hil⟩:∃ q,x.i.length=q:=⟨_,rfl⟩;have Hil:=Aa hil;rw [hil] at x4 hj hi |-;clear hil;by_cases ai:j < il
    ·have z0:(j:Int) < il:=by omega
     have zj:(0:Int)<=j:=by omega
     obtain⟨g2,cs,n7,oq,JA,⟨u2,e0⟩,e1⟩:=HSi.out.i.cell (j * 2) (by rw [Hil.out];omega);rw [n7] at x4;have UY:=Aa (HSi.out.set JA oq ⟨by decide,by decide,by decide⟩ (j * 2) (.int .u8 77) (.inl (by decide)));clear JA n7 oq;go_wp2_with fail;go_roundw
     case rel=>exact⟨j+1,by omega,by go_num,UY⟩
     case measure=>simp [intOf];omega
    ·obtain rfl:j=il:=by omega
     have z1:¬ (j:Int) < j:=by omega
     go_wp2_with fail;clear x0 x1 x2 x3 x4 x5 x6
     go_loopw [5] (fun i wr=>∃ j:Nat,j<=x.s.length/\i= .int .i64 (j:Int)/\Hid (Th w aa gx x wr)) (fun i _=>x.s.length - (intOf i).toNat)
     case atStart=>exact⟨0,by omega,rfl,HSi⟩
     case round=>
      obtain⟨j',hj',rfl,HSs⟩:=hrel;clear HSi;obtain⟨x0,x1,x2,x3,x4,x5,x6⟩:=HSs.out.mb.cells;by_cases EL:j' < x.s.length
      ·have z2:(j':Int) < x.s.length:=by omega
       have zs:(0:Int)<=j':=by omega
       obtain⟨g,y,hA,m9,-,-,hy⟩:=HSs.out.ws EL;have Hym:=Aa m9;have Hy:=Aa hy;obtain⟨⟨hyh,-⟩,-,hyg⟩:=Hsw.out y m9;clear m9 hy hA;go_wp2_with fail;clear x0 x1 x2 x3 x4 x5 x6
       go_loopw [6] (fun i wr=>∃ k:Nat,k<=y.g.length/\i= .int .i64 (k:Int)/\Hid (Th w aa gx x wr)) (fun i _=>y.g.length - (intOf i).toNat)
       case atStart=>exact⟨0,by omega,rfl,HSs⟩
       case round=>
        obtain⟨k,hk,rfl,IE⟩:=hrel;clear HSs;obtain⟨x0,x1,x2,x3,x4,x5,x6⟩:=IE.out.mb.cells;obtain⟨g',y9,jc,-,d3,d6,zd⟩:=IE.out.ws EL;obtain rfl:y=y9:=by rw [Hy.out] at zd;exact Option.some.inj zd
        rw [jc] at x6;obtain⟨yl,TR⟩:∃ q,y.g.length=q:=⟨_,rfl⟩;obtain⟨sl,sh⟩:∃ q,x.s.length=q:=⟨_,rfl⟩;have Hyl:=Aa TR;have Hsl:=Aa sh;rw [TR] at d6 hk hyg |-;rw [sh] at x6 EL hj' z2 BO;clear zd TR sh jc d3;by_cases nf:k < yl
        ·have z1:(k:Int) < yl:=by omega
         have zk:(0:Int)<=k:=by omega
         obtain⟨g2,cs,b2,n7,oq,JA,e0,e1⟩:=(IE.out.g y Hym.out).cell k (by rw [Hyl.out];omega);rw [n7] at d6;have UY:=Aa (IE.out.drew.set JA oq ⟨by decide,by decide,by decide⟩ k (.bool !b2) (.inr ⟨_,rfl⟩));clear JA n7 oq;go_wp2_with fail
         go_still_tail 18,(by kernel_rfl)
         change wpList _ _ _ _ _ wr.drew;go_wp2_with fail;go_roundw
         case rel=>exact⟨k+1,by omega,by go_num,UY⟩
         case measure=>simp [intOf];omega
        ·obtain rfl:k=yl:=by omega
         have z1:¬ (k:Int) < k:=by omega
         go_wp2_with fail;clear x0 x1 x2 x3 x4 x5 x6 d6;rw [<-Hsl.out] at EL hj' z2 BO
         go_loopw [7] (fun i wr=>∃ k:Nat,k<=y.h.length/\i= .int .i64 (k:Int)/\Hid (Th w aa gx x wr)) (fun i _=>y.h.length - (intOf i).toNat)
         case atStart=>exact⟨0,by omega,rfl,IE⟩
         case round=>
          obtain⟨m,hm,rfl,HSm⟩:=hrel;clear IE;obtain⟨x0,x1,x2,x3,x4,x5,x6⟩:=HSm.out.mb.cells;obtain⟨g',y9,jc,-,d3,d6,zd⟩:=HSm.out.ws EL;obtain rfl:y=y9:=by rw [Hy.out] at zd;exact Option.some.inj zd
          rw [jc] at x6;obtain⟨hl,hhl⟩:∃ q,y.h.length=q:=⟨_,rfl⟩;obtain⟨sl,sh⟩:∃ q,x.s.length=q:=⟨_,rfl⟩;have Hhl:=Aa hhl;have Hsl:=Aa sh;rw [hhl] at d3 hm hyh |-;rw [sh] at x6 EL hj' z2 BO;clear zd hhl sh jc d6;by_cases hlm:m < hl
          ·have z1:(m:Int) < hl:=by omega
           have zk:(0:Int)<=m:=by omega
           obtain⟨g2,cs,n7,oq,JA,⟨u2,e0⟩,e1⟩:=(HSm.out.h y Hym.out).cell (m * 2) (by rw [Hhl.out];omega);rw [n7] at d3;have UY:=Aa (HSm.out.set JA oq ⟨by decide,by decide,by decide⟩ (m * 2) (.int .u8 77) (.inl (by decide)));clear JA n7 oq;go_wp2_with fail;go_roundw
           case rel=>exact⟨m+1,by omega,by go_num,UY⟩
           case measure=>simp [intOf];omega
          ·obtain rfl:m=hl:=by omega
           have z1:¬ (m:Int) < m:=by omega
           go_wp2_with fail;go_roundw
           case rel=>exact⟨j'+1,by rw [Hsl.out];omega,by go_num,HSm⟩
           case measure=>simp [intOf];rw [Hsl.out];omega
      ·obtain rfl:j'=x.s.length:=by omega
       have z2:¬ (x.s.length:Int) < x.s.length:=by omega
       go_wp2_with fail;exact bodyPost_end (v:= .tuple #[]) (by simp [results,Tryz.results30,go_sem]) rfl ⟨rfl,HSs.out.b⟩
theorem Zf (n:Gb):(bs n).toNat=if n.toNat % 2=1 then (n.toNat / 2) ^^^ 3988292384 else n.toNat / 2:=by
 have hb:=Aai n;have e0:(bs n).toNat=(n.toNat / 2) ^^^ (if n.toNat % 2=1 then 3988292384 else 0):=by
  unfold bs;rw [BitVec.toNat_xor,BitVec.toNat_ushiftRight,Nat.shiftRight_eq_div_pow];have:n.getLsbD 0=decide (n.toNat % 2=1):=by rw [<-BitVec.testBit_toNat,Nat.testBit_zero]
  rw [this];by_cases h:n.toNat % 2=1 <;> simp [h,Ad3]
 rw [e0];split <;> simp
theorem Abw (x:Gb) (w:World):Calls Tryz.prog 165 #[.int .u32 (x.toNat:Int)] w fun e w'=>e= .returned (.int .u32 ((tb x).toNat:Int))/\w=w':=by
 go_enter Tryz.func165,Tryz.ntmps165;go_wp2_with fail
 go_loop [0,3] (fun n i=>∃ k:Nat,k<=8/\i= .int .i64 (k:Int)/\n= .int .u32 ((U9 k x).toNat:Int)) (fun _ i=>8 - (intOf i).toNat)
 case atStart=>exact⟨0,by omega,rfl,Ge rfl⟩
 case round=>
  obtain⟨k,hk,rfl,rfl⟩:=hrel;by_cases ai:(k:Int) < 8
  ·have hn:=Aa (Ug k x);have hv:=Aa (Zf (U9 k x));have hs:=(U9 k x).isLt;generalize U9 k x=s at hn hv hs |-;by_cases h2:(s.toNat:Int) % 2=1
   ·have ex:bits .xor .u32 ((s.toNat:Int) / 2) 3988292384=((bs s).toNat:Int):=by
     have:=u32_xor_nat (s.toNat / 2) 3988292384 (by omega) (by omega);rw [hv.out,if_pos (by omega)];simpa using this
    have h3:((s.toNat:Int) % 2 == 1)=true:=by simpa using h2
    clear hs;go_wp2_with fail
    go_round
    case rel=>exact⟨k+1,by omega,by go_num,Ge (by rw [hn.out])⟩
    case measure=>simp [intOf];omega
   ·have ex:(s.toNat:Int) / 2=((bs s).toNat:Int):=by
     rw [hv.out,if_neg (by omega)];omega
    have h3:((s.toNat:Int) % 2 == 1)=false:=by simpa using h2
    clear hs;go_wp2_with fail
    go_round
    case rel=>exact⟨k+1,by omega,by go_num,Ge (by rw [hn.out])⟩
    case measure=>simp [intOf];omega
  ·obtain rfl:k=8:=by omega
   go_wp2_with fail;go_ret;exact⟨rfl,rfl⟩
theorem Yi (T:Gb->Gb) (s:Gb) (x:UInt8):∃ k:Nat,k < 256/\bits .xor .u32 ((s.toNat:Int) % 256) (x.toNat:Int)=(k:Int)/\
 (Db T)[k]?=some (.int .u32 ((T (BitVec.ofNat 32 k)).toNat:Int))/\bits .xor .u32 ((T (BitVec.ofNat 32 k)).toNat:Int) ((s.toNat:Int) / 256)=((stp T s x).toNat:Int):=by
 obtain⟨k,h1,h2,h3,h4⟩:=Qq T s x;refine⟨k,h1,?_,h3,h4⟩;have hx:=x.toNat_lt;have e:(s.toNat:Int) % 256=((s.toNat % 256:Nat):Int):=by omega
 rw [e] at h2 |-;rw [u8_xor_nat _ _ (by omega) (by omega)] at h2;rw [u32_xor_nat _ _ (by omega) (by omega)];exact h2
theorem Aa3 (A:Option Addr) (c:Nat) (l:List UInt8) (w:World) (hr:RB w w.heap.size A l) (hl:l.length < 1000000):
 Calls Tryz.prog 133 #[.slice A l.length c] w fun e w'=>e= .returned (.int .u32 ((sm l).toNat:Int))/\w=w':=by
 go_enter Tryz.func133,Tryz.ntmps133;go_wp2_with fail
 go_loop [3,4] (fun n i=>∃ (k:Nat),k<=l.length/\i= .int .i64 (k:Int)/\n= .int .u32 ((run tb M6 (l.take k)).toNat:Int)) (fun _ i=>l.length - (intOf i).toNat)
 case atStart=>exact⟨0,by omega,rfl,Ge rfl⟩
 case round=>
  obtain⟨k,hk,rfl,rfl⟩:=hrel;by_cases ai:k < l.length
  ·obtain⟨b,off,rfl,ll,hc⟩:=RB.cell hr (by omega);have CN:=hc k ai;clear hc;have CD:=Aa (Ts tb M6 l k ai);generalize run tb M6 (l.take k)=s at CD |-;have lx:(l[k].toNat:Int)<=255:=by have:=l[k].toNat_lt;omega
   obtain⟨j,hj,e1,e2,e3⟩:=Yi tb s l[k];have ej:=Aa (show (j:Int)=((BitVec.ofNat 32 j).toNat:Int) by rw [BitVec.toNat_ofNat,Nat.mod_eq_of_lt (by omega)]);clear e2;have e3':=Aa e3;clear e3;go_wp2_with fail;refine (show Calls Tryz.prog 165 #[.int .u32 (j:Int)] w _ from by rw [ej.out];exact Abw _ _).mono ?_;rintro e w1 ⟨rfl,rfl⟩;go_wp2_with fail
   go_round
   case rel=>exact⟨k+1,by omega,by go_num,Ge (by rw [e3'.out,CD.out])⟩
   case measure=>simp [intOf];omega
  ·have mj:k=l.length:=by omega
   subst mj;rw [List.take_of_length_le (Nat.le_refl _)];have hs:=(run tb M6 l).isLt;have hnv:=Aa (Acs (run tb M6 l));have xw:((run tb M6 l).toNat:Int)<=4294967295:=by omega
   clear hs;go_wp2_with fail;go_ret;exact⟨Cu hnv.out,rfl⟩
theorem Aa2 (A:Option Addr) (c:Nat) (l:List UInt8) (w:World) (hr:RB w w.heap.size A l) (hl:l.length < 1000000):
 Calls Tryz.prog 133 #[.slice A l.length c] w fun e w'=>e= .returned (.int .u32 ((X4 tb l).toNat:Int))/\Below w.heap.size w w':=
 (Aa3 A c l w hr hl).mono fun _ _ ⟨he,hw⟩=>⟨he,hw ▸ Below.refl _ _⟩
theorem Tc (w w1:World) (o:Obj) (h:Below (w.alloc o).heap.size (w.alloc o) w1):Below w.heap.size w w1:=
 ((Below.refl w.heap.size w).alloc (Nat.le_refl _) _).trans (h.mono (by rw [World.size_alloc];exact Nat.le_succ _))
theorem V3 (t:List UInt8) (sv:Nat) (h:sv=(X4 tb t).toNat):Cw (Dk t)=Cw t++ [.int .u8 ((sv:Int) % 256),.int .u8 ((sv:Int) / 256 % 256),.int .u8 ((sv:Int) / 65536 % 256),.int .u8 ((sv:Int) / 16777216)]:=by
 have hs:sv < 2 ^ 32:=h ▸ (X4 tb t).isLt
 have e:∀ k,(Dt (sm t) k).toNat=sv / 256 ^ k % 256:=fun k=>by
  unfold Dt;rw [UInt8.toNat_ofNat'];show (X4 tb t).toNat / 256 ^ k % 256 % 2 ^ 8=_;rw [<-h];omega
 rw [Dk,Bg]
 congr 1
 simp only [Cw,List.map_cons,List.map_nil,e];have x0:((sv / 256 ^ 0 % 256:Nat):Int)=(sv:Int) % 256:=by omega
 have x1:((sv / 256 ^ 1 % 256:Nat):Int)=(sv:Int) / 256 % 256:=by omega
 have x2:((sv / 256 ^ 2 % 256:Nat):Int)=(sv:Int) / 65536 % 256:=by omega
 have x3:((sv / 256 ^ 3 % 256:Nat):Int)=(sv:Int) / 16777216:=by omega
 rw [x0,x1,x2,x3]
theorem Acj (w:World) (cs:Array Value) (e:TypeId):RD (w.alloc (.cells cs e)) (w.alloc (.cells cs e)).heap.size 1 (some ⟨w.heap.size,0,none⟩) cs.size cs.toList:=by
 refine⟨by simp,fun _=>⟨_,_,rfl,by rw [World.size_alloc];omega,fun j u hu=>?_⟩⟩;rw [Nat.zero_add,World.cell?_alloc_new];rwa [Array.getElem?_toList] at hu
theorem Re (A:Option Addr) (n c:Nat) (l:List UInt8) (w:World) (hr:RB w w.heap.size A l) (hn:l.length=n) (h:n < 30000):
 Calls Tryz.prog 93 #[.slice A n c] w fun e w'=>∃ v,e= .returned v/\w'.ownsRow w.heap.size 5 1 v (Jf l).length (Cw (Jf l))/\Below w.heap.size w w':=by
 subst hn;obtain⟨i0,cr,cb,cu,cq⟩:=info_parts Dq;have C:=Aa (fun w=>Ny l.length w (by omega));have hsix:=Gw (n:=l.length) (by omega);have pm:=Lv l.length;go_enter Tryz.func93,Tryz.ntmps93;go_wp2_with fail;refine (Ag C _).mono ?_;rintro e w1 ⟨v1,rfl,aq,ac⟩;have SF:(w.alloc (.cells #[.int .u8 70] 5)).ownsRow w.heap.size 5 1 (.slice (some ⟨w.heap.size,0,none⟩) 1 1) 1 (Cw [70]):=World.ownsRow_lit w _ 1 (Nat.le_refl _) (by decide) rfl;have MT:=Ai SF ac (Nat.le_refl _);obtain⟨A1,c1,rfl,-,-,-⟩:=Ao aq;have rh:RB w1 w1.heap.size A1 (nb l.length):=RD.of_own aq;have LD:=Tc _ _ _ ac;have af:=LD.size;clear SF aq C ac
 go_wp2_with (first
  | (at_builtin;refine Ba _ rfl (.tmp 6) (.tmp 9) 23 rfl w.heap.size 5 i0 (.int .u8 0) 1 1 Tryz.underlying23 cr cb cu cq rfl (by decide) _ _ _ rfl MT _ A1 (nb l.length).length c1 (Cw (nb l.length)) rfl rh (Ce _) (by omega) (by decide) af ?_;intro v2 w2 cm ae;have OM:=RD.below (RD.below hr LD) ae;have cd:=Nat.le_trans af ae.size;have ay:1+(nb l.length).length+l.length<=1073741824:=(by omega))
  | (at_builtin;refine Ba _ rfl (.tmp 11) (.tmp 12) 23 rfl w.heap.size 5 i0 (.int .u8 0) 1 1 Tryz.underlying23 cr cb cu cq rfl (by decide) _ _ _ rfl cm w.heap.size A l.length c (Cw l) rfl OM (Ce _) ay (by decide) cd ?_;intro v3 w3 dm ag))
 have e3:Cw [70]++Cw (nb l.length)++Cw l=Cw (Gs l):=by simp [Gs,Cw]
 rw [e3,<-Ib l] at dm;have hh:=Ib l;obtain⟨A3,c3,rfl,-,-,-⟩:=Ao dm;have LC:=LD.trans (ae.trans ag);have hh2:(Gs l).length<=30007:=by omega
 clear e3 cm MT OM cd ay ae ag rh hr hh hsix pm;refine (Aa2 A3 c3 (Gs l) w3 (RD.of_own dm) (by omega)).mono ?_;rintro e w4 ⟨rfl,aw⟩;have gu:=Ai dm aw (Nat.le_refl _);have DV:=Ad LC aw;have NC:=DV.size;have XV:=(X4 tb (Gs l)).isLt;obtain⟨sv,hsv⟩:∃ sv:Nat,sv=(X4 tb (Gs l)).toNat:=⟨_,rfl⟩;rw [<-hsv] at XV |-;have Hsv:=Aa hsv;clear hsv dm aw LC LD af;go_wp2_with (at_builtin;refine Ba _ rfl (.tmp 16) (.tmp 31) 23 rfl w.heap.size 5 i0 (.int .u8 0) 1 1 Tryz.underlying23 cr cb cu cq rfl (by decide) _ _ _ rfl (gu.alloc _) _ (some ⟨w4.heap.size,0,none⟩) 4 4 _ rfl (Acj w4 _ _) (by intro u hu;simp at hu;rcases hu with rfl | rfl | rfl | rfl <;> rfl) (by omega) (by decide) (by rw [World.size_alloc];omega) ?_;intro v5 w5 ey bq);go_ret;refine⟨v5,rfl,?_,DV.trans (((Below.refl w.heap.size w4).alloc NC _).trans bq)⟩;have e1:(Jf l).length=(Gs l).length+4:=I8 _;have e2:Cw (Jf l)=_:=V3 (Gs l) sv Hsv.out;rw [e1,e2];exact ey
theorem Sy (A:Option Addr) (c:Nat) (l:List UInt8) (w:World) (h:(16384:Int) < (l.length:Int)):
 Calls Tryz.prog 54 #[.slice A l.length c] w fun e w'=>e= .returned (.tuple #[.slice none 0 0,.int .i64 4])/\w=w':=by
 go_enter Tryz.func54,Tryz.ntmps54;go_wp2_with fail;go_ret2;exact⟨rfl,rfl⟩
theorem Wd (A:Option Addr) (c:Nat) (l:List UInt8) (w:World) (hr:RB w w.heap.size A l) (h:l.length<=16384):
 Calls Tryz.prog 54 #[.slice A l.length c] w fun e w'=>∃ v,e= .returned (.tuple #[v,.int .i64 0])/\w'.ownsRow w.heap.size 5 1 v (Jf l).length (Cw (Jf l))/\Below w.heap.size w w':=by
 have h':(l.length:Int)<=16384:=by omega
 go_enter Tryz.func54,Tryz.ntmps54;go_wp2_with fail;refine (Re A l.length c l w hr rfl (by omega)).mono ?_;rintro e w1 ⟨v1,rfl,aq,ac⟩;go_wp2_with fail;go_ret2;exact⟨_,rfl,aq,ac⟩
end Go.Proofs.YtmkpfdcnikgokaaGreat
namespace Go.Proofs.YtmkpfdcnikgokaaGreat
open Go.RowKit
theorem Uv (A:Option Addr) (n c:Nat) (l:List UInt8) (w:World) (hr:RB w w.heap.size A l) (hn:l.length=n) (hl:n < 1073741824):
 Calls Tryz.prog 103 #[.slice A n c] w fun e w'=>e= .returned (Fp (Ew l))/\w=w':=by
 subst hn;exact Jq A c l w hr hl
theorem Acn (l:List UInt8) (h:6<=l.length):J3 l=match Ew (l.drop 1) with
 | none=>none
 | some (n,s)=>if n<=16384/\l.length=1+s+n+4/\Jf ((l.take (1+s+n)).drop (1+s))=l then some ((l.take (1+s+n)).drop (1+s)) else none:=by
 cases ho:J3 l with
 | some m=>
   obtain⟨h1,h2⟩:=He ho;subst h1;have hd:(Jf m).drop 1=nb m.length++(m++ [Dt (sm (Gs m)) 0,Dt (sm (Gs m)) 1,Dt (sm (Gs m)) 2,Dt (sm (Gs m)) 3]):=by simp [Jf,Dk,Gs]
   rw [hd,Oh _ _ (by omega)];have hl:=X1 m;have hb:((Jf m).take (1+(nb m.length).length+m.length)).drop (1+(nb m.length).length)=m:=by
    have:(Jf m).take (1+(nb m.length).length+m.length)=Gs m:=by rw [Jf,Dk,List.take_left' (Ib m)]
    rw [this,Gs,Nat.add_comm,List.drop_succ_cons,List.drop_left' rfl]
   show some m=if m.length<=16384/\(Jf m).length=1+(nb m.length).length+m.length+4/\Jf (((Jf m).take (1+(nb m.length).length+m.length)).drop (1+(nb m.length).length))=Jf m then some (((Jf m).take (1+(nb m.length).length+m.length)).drop (1+(nb m.length).length)) else none;rw [hb,if_pos ⟨h2,by omega,rfl⟩]
 | none=>
   cases hg:Ew (l.drop 1) with
   | none=>rfl
   | some p=>
     obtain⟨n,s⟩:=p;show none=if n<=16384/\l.length=1+s+n+4/\Jf ((l.take (1+s+n)).drop (1+s))=l then some ((l.take (1+s+n)).drop (1+s)) else none;rw [if_neg];rintro ⟨h1,h2,h3⟩;have hl:((l.take (1+s+n)).drop (1+s)).length=n:=by rw [List.length_drop,List.length_take];omega
     have h4:=Aco ((l.take (1+s+n)).drop (1+s)) (by omega);rw [h3,ho] at h4;cases h4
theorem Us (A:Option Addr) (c:Nat) (l:List UInt8) (w:World) (hr:RB w w.heap.size A l) (hc:l.length<=c) (hl:l.length < 30000):
 Calls Tryz.prog 62 #[.slice A l.length c] w fun e w'=>Ex w w' e l/\Below w.heap.size w w':=by
 by_cases h6:(l.length:Int) < 6
 ·have fin:J3 l=none:=by unfold J3;rw [if_pos (by omega)]
  go_enter Tryz.func62,Tryz.ntmps62;go_wp2_with fail;go_ret2;exact⟨Cq fin,Below.refl _ _⟩
 obtain⟨i0,cr,cb,cu,cq⟩:=info_parts Dq;obtain⟨b0,o0,rfl,py,-⟩:=RB.cell hr (by omega);have e8:=Acn l (by omega);have h1l:(1:Int)<=(l.length:Int):=by omega
 have hlc:(l.length:Int)<=(c:Int):=by omega
 have xe:RB w w.heap.size (some ⟨b0,o0+1,none⟩) (l.drop 1):=by
  have:=hr.sub 1 l.length (Nat.le_refl _);rwa [List.take_of_length_le (Nat.le_refl _)] at this
 have Hr:=Aa hr;have tu:=Aa e8;clear hr e8;go_enter Tryz.func62,Tryz.ntmps62;go_wp2_with fail;refine (Uv (some ⟨b0,o0+1,none⟩) (l.length - 1) (c - 1) (l.drop 1) w xe (by rw [List.length_drop]) (by omega)).mono ?_;rintro e w1 ⟨rfl,rfl⟩;clear xe
 cases hg:Ew (l.drop 1) with
 | none=>
   have dc:=tu.out;rw [hg] at dc;clear hg;unfold Fp;go_wp2_with fail;go_ret2;exact⟨Cq dc,Below.refl _ _⟩
 | some p=>
   obtain⟨n,s⟩:=p;obtain⟨hn1,af,-,-⟩:=D6 hg;rw [List.length_drop] at af;have e8:=tu.out;rw [hg] at e8;change J3 l=if n<=16384/\l.length=1+s+n+4/\Jf ((l.take (1+s+n)).drop (1+s))=l then some ((l.take (1+s+n)).drop (1+s)) else none at e8;have XV:(s:Int) < 1000000:=by omega
   have FQ:(n:Int)<=1099511627776:=by omega
   clear hg tu hn1 af;have tu:=Aa e8;clear e8;rw [Rc];by_cases jv:(16384:Int) < (n:Int)
   ·have dc:=tu.out.trans (if_neg (fun h=>by omega))
    ((try dsimp only);repeat (first | go_values | go_skip | go_guarded | go_step | go_back))
    go_ret2;exact⟨Cq dc,Below.refl _ _⟩
   by_cases cn:¬ ((l.length:Int)=1+(s:Int)+(n:Int)+4)
   ·have dc:=tu.out.trans (if_neg (fun h=>by omega));have z:((l.length:Int) != 1+(s:Int)+(n:Int)+4)=true:=by simp;omega
    clear cn
    ((try dsimp only);repeat (first | go_values | go_skip | go_guarded | go_step | go_back))
    go_ret2;exact⟨Cq dc,Below.refl _ _⟩
   replace cn:=Classical.not_not.1 cn;have z:((l.length:Int) != 1+(s:Int)+(n:Int)+4)=false:=by simp;omega
   have GS:=Aa cn;have ac:(1:Int)+(s:Int)<=1+(s:Int)+(n:Int):=by omega
   have ae:(1:Int)+(s:Int)+(n:Int)<=(c:Int):=by omega
   have hcne:¬ (c=1+s):=by omega
   clear cn
   ((try dsimp only);repeat (first | go_values | go_skip | go_guarded | go_step | go_back))
   have vc:1+s+n - (1+s)=n:=by omega
   simp only [vc];have HU:RB w w.heap.size (some ⟨b0,o0+(1+s),none⟩) ((l.take (1+s+n)).drop (1+s)):=(Ag Hr).sub (1+s) (1+s+n) (by have:=GS.out;omega);have XZ:((l.take (1+s+n)).drop (1+s)).length=n:=by rw [List.length_drop,List.length_take];have:=GS.out;omega
   obtain⟨bd,hbd⟩:∃ bd,bd=(l.take (1+s+n)).drop (1+s):=⟨_,rfl⟩;rw [<-hbd] at HU XZ tu;have hn3:n < 30000:=by omega
   have qv:∀ W,Below w.heap.size w W->(convert 23 9 (.slice (some ⟨b0,o0,none⟩) l.length c)).run Tryz.prog W= .ok (.string ⟨l.toArray⟩) W:=fun W hW=>
    Cs (P:=Tryz.prog) (RD.below (Ag Hr) hW) Tryz.underlying23 Tryz.underlying5 Tryz.underlying9 c
   clear hbd Hr;have VO:RB w.drew w.drew.heap.size (some ⟨b0,o0+(1+s),none⟩) bd:=HU;have kl0:=qv w (Below.refl _ _);have kl1:=qv w.drew (Below.refl _ _).drew
   go_region_with (go_at_call 93;refine (Re (some ⟨b0,o0+(1+s),none⟩) n (c - (1+s)) bd w.drew VO XZ hn3).mono ?_;rintro e wx ⟨vx,rfl,tf,el⟩;obtain⟨Ax,cx,rfl,-,-,-⟩:=Ao tf;have CO:Below w.heap.size w wx:=(Below.refl _ _).drew.trans el;have kl:=qv wx CO;have kx:=Cs (P:=Tryz.prog) (RD.of_own tf:RB wx wx.heap.size Ax (Jf bd)) Tryz.underlying23 Tryz.underlying5 Tryz.underlying9 cx;clear tf)
   all_goals
    by_cases hq:Jf bd=l
    ·have dc:J3 l=some bd:=tu.out.trans (if_pos ⟨by omega,by have:=GS.out;omega,hq⟩);have IN:RD wx w.heap.size 1 (some ⟨b0,o0+(1+s),none⟩) n (Cw bd):=by
      have:=RD.below HU CO;unfold RB at this;rwa [XZ] at this
     have ak:(!Jf bd == l)=false:=by simp [hq]
     rw [ak];clear ak hq kl kx kl0 kl1 qv HU VO z ac ae hcne vc XV FQ hlc h1l hc h6;go_wp2_with (at_builtin;refine Ba _ rfl (.tmp 48) (.tmp 49) 23 rfl w.heap.size 5 i0 (.int .u8 0) 1 1 Tryz.underlying23 cr cb cu cq rfl (by decide) _ 0 [] rfl (Fx wx _ _ _ CO.size) w.heap.size (some ⟨b0,o0+(1+s),none⟩) n (c - (1+s)) (Cw bd) rfl (RD.alloc IN CO.size _) (Ce _) (by omega) (by decide) (by simp;have:=CO.size;omega) ?_;intro v9 w9 ev ez;simp only [Nat.zero_add,List.nil_append] at ev);go_ret2;rw [<-XZ] at ev;exact⟨Nz dc ev,CO.trans (((Below.refl w.heap.size wx).alloc CO.size _).trans ez)⟩
    ·have dc:J3 l=none:=tu.out.trans (if_neg (fun h=>hq h.2.2));have ak:(!Jf bd == l)=true:=by simp [hq]
     rw [ak];clear ak hq kl kx kl0 kl1 qv HU VO z ac ae hcne vc XV FQ hlc h1l hc h6;go_wp2_with fail;go_ret2;exact⟨Cq dc,CO⟩
theorem Wl (x:Av) (w:World) (hx:RM w w.heap.size x) (ox:Gm x):
 Calls Tryz.prog 28 #[x.val] w fun e w'=>e= .returned (.int .i64 (Fc x.mp))/\Below w.heap.size w w':=by
 obtain⟨k,t,r,ix,iA,ic,i,oA,oc,o,sA,sc,s⟩:=x;obtain⟨w1,au,F1,af,ac⟩:=Am w (.int .u8 k) (.int .u32 t) (.int .u8 r) (.int .i64 ix) (.slice iA i.length ic) (.slice oA o.length oc) (.slice sA s.length sc);obtain⟨a0,a1,a2,a3,a4,a5,a6⟩:=F1.cells;have jz:RM w1 w1.heap.size ⟨k,t,r,ix,iA,ic,i,oA,oc,o,sA,sc,s⟩:=(hx.below ac).more ac.size;have HM:=Aa (Mm ⟨k,t,r,ix,iA,ic,i,oA,oc,o,sA,sc,s⟩ w1 jz ox);have az:=Aa F1;have BX:=Aa jz;have OX:=Aa ox;have eu:=Aa ac;have dn:=Aa au;clear hx ox jz ac F1 af au;show Calls Tryz.prog 28 #[Ci k t r ix (.slice iA i.length ic) (.slice oA o.length oc) (.slice sA s.length sc)] w _;go_enter Tryz.func28,Tryz.ntmps28;go_wp2_with fail;rw [dn.out];refine HM.out.mono ?_;rintro e w2 ⟨rfl,ae⟩;have fh:=Aa (Ad eu.out ae);have db:=Aa (az.out.below ae);have DF:=Aa ((BX.out.below ae).more ae.size);clear HM a0 a1 a2 a3 a4 a5 a6 ae;by_cases hm:B8 (Av.mp ⟨k,t,r,ix,iA,ic,i,oA,oc,o,sA,sc,s⟩)
 ·rw [decide_eq_true hm];have Hc:=Aa (show Fc (Av.mp ⟨k,t,r,ix,iA,ic,i,oA,oc,o,sA,sc,s⟩)=0 from if_pos hm);clear hm;go_wp2_with fail;go_ret;exact⟨by rw [Hc.out];rfl,fh.out⟩
 ·rw [decide_eq_false hm];have Hc:=Aa (show Fc (Av.mp ⟨k,t,r,ix,iA,ic,i,oA,oc,o,sA,sc,s⟩)=8 from if_neg hm);clear hm;go_wp2_with fail;go_ret;exact⟨by rw [Hc.out];rfl,fh.out⟩
theorem Aas (x:Av) (w:World) (hx:RM w w.heap.size x) (ox:Gm x):
 Calls Tryz.prog 22 #[x.val] w fun e w'=>∃ (A:Option Addr) (c:Nat) (q:List UInt8),e= .returned (.tuple #[.slice A (List.length (α:=UInt8) q) c,.int .i64 (Vf x.mp)])/\q=Ve x.mp/\w'.ownsRow w.heap.size 5 1 (.slice A q.length c) q.length (Cw q)/\Below w.heap.size w w':=by
 obtain⟨k,t,r,ix,iA,ic,i,oA,oc,o,sA,sc,s⟩:=x;obtain⟨w1,au,F1,af,ac⟩:=Am w (.int .u8 k) (.int .u32 t) (.int .u8 r) (.int .i64 ix) (.slice iA i.length ic) (.slice oA o.length oc) (.slice sA s.length sc);obtain⟨a0,a1,a2,a3,a4,a5,a6⟩:=F1.cells;have jz:RM w1 w1.heap.size ⟨k,t,r,ix,iA,ic,i,oA,oc,o,sA,sc,s⟩:=(hx.below ac).more ac.size;have HM:=Aa (Mm ⟨k,t,r,ix,iA,ic,i,oA,oc,o,sA,sc,s⟩ w1 jz ox);have az:=Aa F1;have BX:=Aa jz;have OX:=Aa ox;have eu:=Aa ac;have dn:=Aa au;clear hx ox jz ac F1 af au;show Calls Tryz.prog 22 #[Ci k t r ix (.slice iA i.length ic) (.slice oA o.length oc) (.slice sA s.length sc)] w _;go_enter Tryz.func22,Tryz.ntmps22;go_wp2_with fail;rw [dn.out];refine HM.out.mono ?_;rintro e w2 ⟨rfl,ae⟩;have fh:=Aa (Ad eu.out ae);have db:=Aa (az.out.below ae);have DF:=Aa ((BX.out.below ae).more ae.size);clear HM a0 a1 a2 a3 a4 a5 a6 ae;by_cases hm:B8 (Av.mp ⟨k,t,r,ix,iA,ic,i,oA,oc,o,sA,sc,s⟩)
 ·rw [decide_eq_true hm];have Hc:=Aa (show Vf (Av.mp ⟨k,t,r,ix,iA,ic,i,oA,oc,o,sA,sc,s⟩)=Xf (Bi (Av.mp ⟨k,t,r,ix,iA,ic,i,oA,oc,o,sA,sc,s⟩)) from if_pos hm);have Hv:=Aa (show Ve (Av.mp ⟨k,t,r,ix,iA,ic,i,oA,oc,o,sA,sc,s⟩)=wrV (Bi (Av.mp ⟨k,t,r,ix,iA,ic,i,oA,oc,o,sA,sc,s⟩)) from if_pos hm);have HY:=Aa (Pz ⟨k,t,r,ix,iA,ic,i,oA,oc,o,sA,sc,s⟩ w2 DF.out OX.out hm);obtain⟨a0,a1,a2,a3,a4,a5,a6⟩:=db.out.cells;clear hm;go_wp2_with fail;refine HY.out.mono ?_;rintro e w3 ⟨v,rfl,ah,ag,-⟩;obtain⟨A3,c3,rfl,ah⟩:=ah;have uv:=Aa (RD.of_own ah);have dk:=Aa (Ad fh.out ag);obtain⟨bb,ll⟩:∃ q,Bi (Av.mp ⟨k,t,r,ix,iA,ic,i,oA,oc,o,sA,sc,s⟩)=q:=⟨_,rfl⟩;rw [ll] at uv Hc Hv |-;clear ah ag ll HY a0 a1 a2 a3 a4 a5 a6;by_cases nk:bb.length<=16384
  ·have T:=Aa (Wd A3 c3 bb w3 uv.out nk);have h1:=Aa (show Xf bb=0 from if_pos nk);have h2:=Aa (show wrV bb=Jf bb from if_pos nk);clear nk;go_wp2_with fail;refine T.out.mono ?_;rintro e w4 ⟨v,rfl,ah,aw⟩;obtain⟨A4,c4,rfl,-,-,-⟩:=Ao ah;have ed:=Aa (Ad dk.out aw);have wk:=Aa ah;have zf:=dk.out.size;clear ah aw T;go_wp2_with fail;refine bodyPost_ret (v:= .tuple #[.slice A4 (Jf bb).length c4,.int .i64 0]) (by simp [results,Tryz.results22,go_sem]) rfl ?_;exact⟨A4,c4,Jf bb,by rw [Hc.out,h1.out],by rw [Hv.out,h2.out],Bq wk.out zf,ed.out⟩
  ·have T:=Aa (Sy A3 c3 bb w3 (by omega));have h1:=Aa (show Xf bb=4 from if_neg nk);have h2:=Aa (show wrV bb= [] from if_neg nk);clear nk;go_wp2_with fail;refine T.out.mono ?_;rintro e w4 ⟨rfl,rfl⟩;clear T;go_wp2_with fail;refine bodyPost_ret (v:= .tuple #[.slice none 0 0,.int .i64 4]) (by simp [results,Tryz.results22,go_sem]) rfl ?_;exact⟨none,0, [],by rw [Hc.out,h1.out];rfl,by rw [Hv.out,h2.out],World.ownsRow_nil _ _ _ _,dk.out⟩
 ·rw [decide_eq_false hm];have Hc:=Aa (show Vf (Av.mp ⟨k,t,r,ix,iA,ic,i,oA,oc,o,sA,sc,s⟩)=8 from if_neg hm);have Hv:=Aa (show Ve (Av.mp ⟨k,t,r,ix,iA,ic,i,oA,oc,o,sA,sc,s⟩)= [] from if_neg hm);clear hm;go_wp2_with fail;refine bodyPost_ret (v:= .tuple #[.slice none 0 0,.int .i64 8]) (by simp [results,Tryz.results22,go_sem]) rfl ?_;exact⟨none,0, [],by rw [Hc.out];rfl,by rw [Hv.out],World.ownsRow_nil _ _ _ _,fh.out⟩
end Go.Proofs.YtmkpfdcnikgokaaGreat
