/-
  Texts of this claim, put together: Pen, PenClock, PenWish. What each theorem asks stands in its statement.
-/
import Derived.Test.YtmkpfdcnikgokaaGreatMd4
import Derived.Test.YtmkpfdcnikgokaaGreatMd6
import Derived.Test.YtmkpfdcnikgokaaGreatMd8
import Derived.Test.YtmkpfdcnikgokaaGreatMd12
set_option linter.unusedVariables false
set_option linter.unusedSimpArgs false
set_option maxRecDepth 100000
set_option maxHeartbeats 25600000
namespace Go.Proofs.YtmkpfdcnikgokaaGreat
open Go.RowKit
def D4 (w w':World):Prop:=∀ (b:Nat) (o:Obj),w.heap[b]?=some o->(∀ bh,o≠ .cells bh 5 (0,0))->(∀ bh,o≠ .cells bh 84 (0,0))->w'.heap[b]?=some o
theorem D4.refl (w:World):D4 w w:=fun _ _ h _ _=>h
theorem D4.trans {a b c:World} (h:D4 a b) (k:D4 b c):D4 a c:=fun x o hx hn hm=>k x o (h x o hx hn hm) hn hm
theorem D4.below {w w':World} (h:Below w.heap.size w w'):D4 w w':=fun b _ hb _ _=>(h.block b (Array.getElem?_eq_some_iff.1 hb).1).trans hb
def Ry (w:World) (g:Nat) (A:Option Addr) (n c:Nat):Prop:=w.heap[g]?=some (.cells #[.slice A n c] 84 (0,0))
theorem Ry.lt {w:World} {g n c:Nat} {A:Option Addr} (h:Ry w g A n c):g < w.heap.size:=(Array.getElem?_eq_some_iff.1 h).1
theorem Ry.cell {w:World} {g n c:Nat} {A:Option Addr} (h:Ry w g A n c):w.cell? ⟨g,0,none⟩=some (.slice A n c):=by
 rw [cell_of_row _ _ _ _ _ _ h];rfl
theorem Ry.below {w w':World} {g n c:Nat} {A:Option Addr} (h:Ry w g A n c) (hb:Below w.heap.size w w'):Ry w' g A n c:=(hb.block g h.lt).trans h
theorem Ry.fr {w:World} {g n c:Nat} {A:Option Addr} (h:Ry w g A n c):w.frozen? ⟨g,0,none⟩=false:=frozen_of_row w g 0 _ _ h
theorem Ry.set {w:World} {g n c n' c':Nat} {A A':Option Addr} (h:Ry w g A n c):Ry (w.setCell ⟨g,0,none⟩ (.slice A' n' c')) g A' n' c':=heap_setCell_same _ _ _ _ _ _ h
def PN (w:World) (aa g:Nat) (l:List UInt8):Prop:=∃ A c,Ry w g A l.length c/\w.ownsRow aa 5 1 (.slice A l.length c) l.length (Cw l)/\aa<=g
theorem PN.below {w w':World} {aa g:Nat} {l:List UInt8} (h:PN w aa g l) (hb:Below w.heap.size w w'):PN w' aa g l:=by
 obtain⟨A,c,h1,h2,h3⟩:=h;exact⟨A,c,h1.below hb,Ai h2 hb (Nat.le_refl _),h3⟩
theorem PN.lt {w:World} {aa g:Nat} {l:List UInt8} (h:PN w aa g l):g < w.heap.size:=by
 obtain⟨A,c,h1,-⟩:=h;exact h1.lt
theorem PN.ge {w:World} {aa g:Nat} {l:List UInt8} (h:PN w aa g l):aa<=g:=by
 obtain⟨A,c,-,-,h1⟩:=h;exact h1
theorem Mo {w:World} {aa g size n:Nat} {e T:TypeId} {v:Value} {L:List Value} {cs:Array Value} (h:w.ownsRow aa e size v n L) (hF:w.heap[g]?=some (.cells cs T (0,0))) (hT:e≠T) (off:Nat) (u:Value):(w.setCell ⟨g,off,none⟩ u).ownsRow aa e size v n L:=by
 refine⟨h.1,?_⟩;rcases h.2 with h0 | ⟨q,cap,bh,h1,h2,h3,h4⟩
 ·exact .inl h0
 ·have ak:q≠g:=by
   intro e;rw [<-e,h3] at hF;simp only [Option.some.injEq,Obj.cells.injEq] at hF;exact hT hF.2.1
  exact .inr ⟨q,cap,bh,h1,h2,(heap_setCell_other _ _ _ _ ak).trans h3,h4⟩
theorem D4.setP {w:World} {g n c:Nat} {A:Option Addr} (h:Ry w g A n c) (v:Value):D4 w (w.setCell ⟨g,0,none⟩ v):=fun b o hb _ hm=>by
 have ak:b≠g:=by
  intro e;unfold Ry at h;rw [e,h] at hb;exact hm _ (Option.some.inj hb).symm
 exact (heap_setCell_other _ _ _ _ ak).trans hb
theorem Aes (aa g gi c:Nat) (pre:List UInt8) (L:List Int) (w:World) (hp:PN w aa g pre) (hg:w.heap[gi]?=some (.cells (Jg L).toArray 3 (0,0))) (hL:∀ z∈L,0<=z/\z<=1099511627776) (ay:pre.length+6 * L.length<=1000000000):
 Calls Tryz.prog 48 #[.pointer (some ⟨g,0,none⟩),.slice (some ⟨gi,0,none⟩) L.length c] w fun e w'=>e= .returned (.tuple #[])/\PN w' aa g (pre++Ap L)/\Below aa w w'/\D4 w w':=by
 obtain⟨i0,cr,cb,cu,cq⟩:=info_parts Dq;have ai:=hp.lt;have hge:=hp.ge;have ao:aa<=w.heap.size:=by omega
 have HL:=Aa hL;have Hg:=Aa hg;have HP:=Aa hp;clear hL hg hp;go_enter Tryz.func48,Tryz.ntmps48;go_wp2_with fail
 go_loopw [10] (fun i wr=>∃ k:Nat,k<=L.length/\i= .int .i64 (k:Int)/\Hid (PN wr aa g (pre++Ap (L.take k)))/\Below aa w wr/\Hid (D4 w wr)) (fun i _=>L.length - (intOf i).toNat)
 case atStart=>exact⟨0,by omega,rfl,by simpa [Ap] using HP,Below.refl _ _,Aa (D4.refl w)⟩
 case round=>
  obtain⟨k,hk,rfl,oz,hb,NI⟩:=hrel;by_cases ai:k < L.length
  ·have z0:(k:Int) < L.length:=by omega
   obtain⟨z,hz⟩:∃ z,z=L[k]:=⟨_,rfl⟩;have IJ:=HL.out L[k] (List.getElem_mem ai);rw [<-hz] at IJ;have FS:=NI.out gi _ Hg.out (fun bh e=>by simp at e) (fun bh e=>by simp at e);have d0:wr.cell? ⟨gi,k,none⟩=some (.int .i64 z):=by
    rw [cell_of_row _ _ _ _ _ _ FS,hz];simp [Jg,ai]
   have gw:Ap (L.take (k+1))=Ap (L.take k)++nb z.toNat:=by
    rw [List.take_succ_eq_append_getElem ai,Au,Bv,Cf,List.append_nil,hz]
   have jx:=Aa gw;have ME:=Aa (Gw (n:=z.toNat) (by omega));have MD:=Aa (Bu (L:=L.take k) fun a ha=>HL.out a (List.mem_of_mem_take ha));have hP:=Aa (Xs z wr IJ.1 IJ.2);clear FS hz IJ gw;go_wp2_with fail;refine hP.out.mono ?_;rintro e w2 ⟨v2,rfl,cm,ae⟩;obtain⟨A2,c2,rfl,-,-,-⟩:=Ao cm;obtain⟨A1,c1,eb,pc,-⟩:=oz.out.below ae;have eu:=Aa eb;have d1:=eb.cell;have cj:aa<=w2.heap.size:=Nat.le_trans ao (Nat.le_trans hb.size ae.size);have hs:(pre++Ap (L.take k)).length+(nb z.toNat).length<=1073741824:=by
    have h1:=ME.out;have h2:=MD.out;rw [List.length_take,Nat.min_eq_left (by omega)] at h2;rw [List.length_append];omega
   obtain⟨q,hq⟩:∃ q,q=pre++Ap (L.take k):=⟨_,rfl⟩;have Hq:=Aa hq;rw [<-hq] at d1 eb pc hs eu;clear hq oz eb;go_wp2_with (at_builtin;refine Ar _ rfl (.tmp 23) (.tmp 24) 23 rfl aa 5 i0 (.int .u8 0) 1 1 Tryz.underlying23 cr cb cu cq rfl (by decide) _ _ _ rfl pc w2.heap.size A2 (nb z.toNat).length c2 (Cw (nb z.toNat)) rfl (RD.of_own cm) (Ce _) hs (by decide) cj ?_;intro v3 w3 dm ag ui;obtain⟨A3,c3,rfl,-,-,-⟩:=Ao dm;have dk:=Aa (show Ry w3 g A1 q.length c1 from ui g _ eu.out (fun bh e=>by simp at e));have f3:=dk.out.fr;have d3:=dk.out.cell);go_roundw
   case rel=>
    refine⟨k+1,by omega,by go_num,Aa ⟨A3,c3,?_,?_,hge⟩,((hb.trans (ae.mono (Nat.le_trans ao hb.size))).trans ag).setCell (by simp only;omega) _,Aa (((NI.out.trans (D4.below ae)).trans (fun b o hb hn _=>ui b o hb hn)).trans (D4.setP dk.out _))⟩
    ·rw [jx.out,<-List.append_assoc,<-Hq.out,List.length_append];exact dk.out.set
    ·rw [jx.out,<-List.append_assoc,<-Hq.out,Bg,List.length_append];exact Mo dm dk.out (by decide) 0 _
   case measure=>simp [intOf];omega
  ·have hz:¬ (k:Int) < L.length:=by omega
   have qv:L.take k=L:=List.take_of_length_le (by omega);rw [qv] at oz;go_wp2_with fail;exact bodyPost_end (v:= .tuple #[]) (by simp [results,Tryz.results48,go_sem]) rfl ⟨rfl,oz.out,hb,NI.out⟩
def B3:Int->List Sp->List Int
 | _, []=> []
 | was,x :: l=>(x.1 - was) :: (x.2 - x.1) :: B3 x.2 l
def Lr:Int->List Sp->Int
 | was, []=>was
 | _,x :: l=>Lr x.2 l
def Ca (x:PT):List Int:=x.1 :: (x.2.length:Int) :: B3 0 x.2
def Az (P:List PT):List Int:=(P.length:Int) :: P.flatMap Ca
theorem Kt:∀ (l:List Sp) (was:Int) (x:Sp),B3 was (l++ [x])=B3 was l++ [x.1 - Lr was l,x.2 - x.1]
 | [],_,_=>rfl
 | y :: l,was,x=>by simp only [List.cons_append,B3,Lr,Kt l y.2 x]
theorem Nb:∀ (l:List Sp) (was:Int) (x:Sp),Lr was (l++ [x])=x.2
 | [],_,_=>rfl
 | y :: l,was,x=>by simp only [List.cons_append,Lr,Nb l y.2 x]
theorem Na:∀ (l:List Sp) (was least:Int) (k:Nat) (h:k < l.length),0<=was->was<=least->Cc least l->0<=Lr was (l.take k)/\Lr was (l.take k)<=l[k].1
 | x :: l,was,least,0,_,h0,h1,hc=>by
   obtain⟨c1,c2,c3,c4⟩:=hc;simp only [List.take_zero,Lr,List.getElem_cons_zero];omega
 | x :: l,was,least,k+1,h,h0,h1,hc=>by
   obtain⟨c1,c2,c3,c4⟩:=hc;have hk:k < l.length:=by simpa using h
   have:=Na l x.2 (x.2+2) k hk (by omega) (by omega) c4;simpa only [List.take_succ_cons,Lr,List.getElem_cons_succ] using this
theorem B6 (aa g c q:Nat) (pre:List UInt8) (L:List Int) (cs:Array Value) (fu:cs=(Jg L).toArray) (w:World) (hq:q=w.heap.size) (hp:PN w aa g pre) (hL:∀ z∈L,0<=z/\z<=1099511627776) (ay:pre.length+6 * L.length<=1000000000):
 Calls Tryz.prog 48 #[.pointer (some ⟨g,0,none⟩),.slice (some ⟨q,0,none⟩) L.length c] (w.alloc (.cells cs 3)) fun e w'=>e= .returned (.tuple #[])/\PN w' aa g (pre++Ap L)/\Below aa w w'/\D4 w w':=by
 subst fu hq;have hb:=Bf w (.cells (Jg L).toArray 3);have h1:=hp.lt;have h2:=hp.ge;refine (Aes aa g w.heap.size c pre L _ (hp.below hb) (heap_alloc_new _ _) hL ay).mono ?_;rintro e w' ⟨he,h3,h4,h5⟩;exact⟨he,h3,(hb.mono (by omega)).trans h4,(D4.below hb).trans h5⟩
theorem Ke (aa g:Nat) (pre:List UInt8) (A:Option Addr) (n c:Nat) (L:List Aq) (w:World) (hp:PN w aa g pre) (hr:RT w aa A L) (hn:L.length=n) (ax:∀ x∈L,M1 x) (hm:Dj (L.map Aq.pt)) (ay:pre.length<=500000000):
 Calls Tryz.prog 49 #[.pointer (some ⟨g,0,none⟩),.slice A n c] w fun e w'=>e= .returned (.tuple #[])/\PN w' aa g (pre++Ap (Az (L.map Aq.pt)))/\Below aa w w'/\D4 w w':=by
 have ai:=hp.lt;have hge:=hp.ge;have CI:n<=8:=by
  have:=Ga _ (-1) (by omega) hm;rw [List.length_map,hn] at this;rcases this with h | h
  ·omega
  ·have:(L.map Aq.pt).length=0:=by rw [h];rfl
   rw [List.length_map,hn] at this;omega
 have Hm:=Aa hm;have HR:=Aa hr;have HP:=Aa hp;have Hn:=Aa hn;have js:=Aa ax;clear hm hr hp hn ax;go_enter Tryz.func49,Tryz.ntmps49;go_wp2_with fail;refine (B6 aa g 1 _ pre [(n:Int)] _ rfl w rfl HP.out (fun z hz=>by simp only [List.mem_singleton] at hz;omega) (by simp only [List.length_singleton];omega)).mono ?_;rintro e w2 ⟨rfl,j7,ae,qh⟩;have gm:(pre++Ap [(n:Int)]).length<=500000006:=by
  have:=Bu (L:= [(n:Int)]) (fun z hz=>by simp only [List.mem_singleton] at hz;omega);rw [List.length_append];simp only [List.length_singleton] at this;omega
 have ov:=Aa j7;have KJ:=Aa qh;have oe:=Aa gm;clear j7 qh gm;go_wp2_with fail
 go_loopw [16] (fun i wr=>∃ j:Nat,j<=n/\i= .int .i64 (j:Int)/\Hid (PN wr aa g (pre++Ap ((n:Int) :: ((L.map Aq.pt).take j).flatMap Ca)))/\Hid ((pre++Ap ((n:Int) :: ((L.map Aq.pt).take j).flatMap Ca)).length<=500000006+15000 * j)/\Below aa w wr/\Hid (D4 w wr)) (fun i _=>n - (intOf i).toNat)
 case atStart=>exact⟨0,by omega,rfl,ov,oe,ae,KJ⟩
 case round=>
  obtain⟨j,hj,rfl,uw,EW,hb,HK⟩:=hrel;clear ov KJ oe HP;obtain⟨pj,CF⟩:∃ q,q=pre++Ap ((n:Int) :: ((L.map Aq.pt).take j).flatMap Ca):=⟨_,rfl⟩;have JW:=Aa CF;rw [<-CF] at uw EW;clear CF;by_cases VS:j < n
  ·have z0:(j:Int) < n:=by omega
   have zj:(0:Int)<=j:=by omega
   have ap:j < L.length:=by rw [Hn.out];exact VS
   obtain⟨bb,bo,rfl,hB,fg⟩:=RT.cell (HR.out.below hb) (by omega);obtain⟨d0,d1⟩:=fg j ap;obtain⟨x,hx⟩:∃ x,L[j]=x:=⟨_,rfl⟩;rw [hx] at d0 d1;obtain⟨R,sA,sc,s⟩:=x;simp only at d0 d1;have ba:(⟨R,sA,sc,s⟩:Aq)∈L:=by rw [<-hx];exact List.getElem_mem ap
   obtain⟨q1,q2,q3,q4⟩:=js.out _ ba;simp only at q1 q2 q3 q4;have cp:=Ey _ _ Hm.out (Aq.pt ⟨R,sA,sc,s⟩) (List.mem_map_of_mem ba);have GZ:s.length<=1024:=cp.1.1;have Hch:=Aa (show Cc 1 s from cp.1.2);have og:=Aa (HR.out.2 _ ba);have FV:IntKind.i64.wrap R=R:=IntWalk.i64_in _ (by omega);obtain⟨w3,b8,F3,fo,ag⟩:=Dr wr (.int .u8 R) (.slice sA s.length sc) 123;obtain⟨y0,y1⟩:=F3.cells;obtain⟨gx,an⟩:∃ q,q=wr.heap.size:=⟨_,rfl⟩;have av:=Aa an;have DE:=Aa (show gx+1=w3.heap.size by rw [<-b8,World.size_alloc,an]);have zo:=Aa b8;have bz:=Aa F3;rw [<-an] at bz;have hHP3:=Aa (uw.out.below ag);have hgxw:aa<=gx:=by
    have:=uw.out.lt;rw [an];omega
   have dk:=Aa (hb.trans (ag.mono (by rw [an] at hgxw;exact hgxw)));have RA:=Aa (HK.out.trans (D4.below ag))
   have jx:Hid (((n:Int) :: ((L.map Aq.pt).take (j+1)).flatMap Ca)=((n:Int) :: ((L.map Aq.pt).take j).flatMap Ca)++ [R,(s.length:Int)]++B3 0 s):=Aa (by
    rw [List.take_succ_eq_append_getElem (by rw [List.length_map];exact ap),List.flatMap_append,List.getElem_map,hx]
    simp [Ca,Aq.pt])
   clear fg hx ba q3 cp F3 uw HK ag an b8;go_wp2_with fail;rw [zo.out,<-av.out];refine (B6 aa g 2 _ pj [R,(s.length:Int)] _ rfl w3 DE.out hHP3.out (fun z hz=>by simp only [List.mem_cons,List.not_mem_nil,or_false] at hz;omega) (by have:=EW.out;simp only [List.length_cons,List.length_nil];omega)).mono ?_;rintro e w4 ⟨rfl,pw,aw,th⟩;have ca:=Aa (th gx _ bz.out (fun bh e=>by simp at e) (fun bh e=>by simp at e));have qx:=Aa pw;have ed:=Aa (dk.out.trans aw);have NQ:=Aa (RA.out.trans th)
   have uc:Hid ((pj++Ap [R,(s.length:Int)]).length<=500000018+15000 * j):=Aa (by
    have:=Bu (L:= [R,(s.length:Int)]) (fun z hz=>by simp only [List.mem_cons,List.not_mem_nil,or_false] at hz;omega)
    have:=EW.out
    simp only [List.length_cons,List.length_nil] at *
    rw [List.length_append]
    omega)
   obtain⟨v0,v1⟩:=PB.cells ca.out;clear pw th hHP3 dk RA bz y0 y1;go_wp2_with fail
   go_loopw [6,32] (fun v i wr=>∃ k:Nat,k<=s.length/\i= .int .i64 (k:Int)/\v= .int .i64 (Lr 0 (s.take k))/\Hid (PN wr aa g (pj++Ap ([R,(s.length:Int)]++B3 0 (s.take k))))/\Hid ((pj++Ap ([R,(s.length:Int)]++B3 0 (s.take k))).length<=500000018+15000 * j+12 * k)/\Hid (PB wr gx (.int .u8 R) (.slice sA s.length sc) 123)/\Below aa w wr/\Hid (D4 w wr)) (fun _ i _=>s.length - (intOf i).toNat)
   case atStart=>exact⟨0,by omega,rfl,rfl,qx,uc,ca,ed.out,NQ⟩
   case round=>
    obtain⟨k,hk,rfl,rfl,vy,BU,YN,EO,DH⟩:=hrel;clear qx NQ uc ca v0 v1 ed;obtain⟨pk,CE⟩:∃ q,q=pj++Ap ([R,(s.length:Int)]++B3 0 (s.take k)):=⟨_,rfl⟩;have JV:=Aa CE;rw [<-CE] at vy BU;clear CE;obtain⟨was,yr⟩:∃ q,q=Lr 0 (s.take k):=⟨_,rfl⟩;have WS:=Aa yr;rw [<-yr];by_cases nf:k < s.length
    ·have z1:(k:Int) < s.length:=by omega
     have zk:(0:Int)<=k:=by omega
     obtain⟨b2,o2,rfl,ER,x8⟩:=RS.cell (RD.below og.out EO) (by omega);obtain⟨e0,e1⟩:=x8 k nf;obtain⟨wa0,YQ⟩:=Na s 0 1 k nf (by omega) (by omega) Hch.out;obtain⟨ch1,ch2,ch3⟩:=Jb s 1 k nf Hch.out;rw [<-yr] at wa0 YQ;obtain⟨a,ha⟩:∃ q,q=s[k].1:=⟨_,rfl⟩;obtain⟨b,ez⟩:∃ q,q=s[k].2:=⟨_,rfl⟩;rw [<-ha] at e0 YQ ch1 ch3;rw [<-ez] at e1 ch1 ch2;have QT:=Aa (show s[k]=(a,b) by rw [ha,ez]);obtain⟨w5,b9,F5,fi,bq⟩:=Dr wr (.int .u32 a) (.int .u32 b) 129;obtain⟨t0,t1⟩:=F5.cells;have u1:IntKind.i64.wrap a=a:=IntWalk.i64_in _ (by omega);have u2:IntKind.i64.wrap b=b:=IntWalk.i64_in _ (by omega);have u3:IntKind.i64.wrap (a - was)=a - was:=IntWalk.i64_in _ (by omega);have u4:IntKind.u32.wrap (b - a)=b - a:=IntWalk.u32_in _ (by omega);have u5:IntKind.i64.wrap (b - a)=b - a:=IntWalk.i64_in _ (by omega);obtain⟨gs,kt⟩:∃ q,q=wr.heap.size:=⟨_,rfl⟩;have ml:=Aa kt;have Hs5:=Aa (show gs+1=w5.heap.size by rw [<-b9,World.size_alloc,kt]);have OB:=Aa b9;have cl:=Aa F5;rw [<-kt] at cl;have uy:=Aa (vy.out.below bq);have hgsw:aa<=gs:=by
      have:=vy.out.lt;rw [kt];omega
     have ja:=Aa (EO.trans (bq.mono (by rw [kt] at hgsw;exact hgsw)));have HK5:=Aa (DH.out.trans (D4.below bq));have HFx5:=Aa (YN.out.below bq);clear x8 ha ez F5 bq kt b9 yr vy DH YN;go_wp2_with fail;rw [OB.out,<-ml.out];refine (B6 aa g 2 _ pk [a - was,b - a] _ rfl w5 Hs5.out uy.out (fun z hz=>by simp only [List.mem_cons,List.not_mem_nil,or_false] at hz;omega) (by have:=BU.out;simp only [List.length_cons,List.length_nil];omega)).mono ?_;rintro e w6 ⟨rfl,CG,bf,j8⟩;have bj:=Aa (j8 gs _ cl.out (fun bh e=>by simp at e) (fun bh e=>by simp at e));have HFx6:=Aa (j8 gx _ HFx5.out (fun bh e=>by simp at e) (fun bh e=>by simp at e));have ux:=Aa CG;have dx:=Aa (ja.out.trans bf);have FE:=Aa (HK5.out.trans j8)
     have BV:Hid ((pk++Ap [a - was,b - a]).length<=500000018+15000 * j+12 * (k+1)):=Aa (by
      have:=Bu (L:= [a - was,b - a]) (fun z hz=>by simp only [List.mem_cons,List.not_mem_nil,or_false] at hz;omega)
      have:=BU.out
      simp only [List.length_cons,List.length_nil] at *
      rw [List.length_append]
      omega)
     have qw:=Aa (show pk++Ap [a - was,b - a]=pj++Ap ([R,(s.length:Int)]++B3 0 (s.take (k+1))) by
      rw [List.take_succ_eq_append_getElem nf,QT.out,Kt,<-WS.out,JV.out,List.append_assoc,<-Au,List.append_assoc])
     have Hwn:=Aa (show Lr 0 (s.take (k+1))=b by rw [List.take_succ_eq_append_getElem nf,QT.out,Nb]);obtain⟨v0,v1⟩:=PB.cells bj.out;clear CG j8 uy ja HK5 cl HFx5 t0 t1 e0 e1;go_wp2_with fail;go_roundw
     case rel=>
      refine⟨k+1,by omega,by go_num,by rw [Hwn.out],?_,?_,HFx6,dx.out,FE⟩
      ·rw [<-qw.out];exact ux
      ·rw [<-qw.out];exact BV
     case measure=>simp [intOf];omega
    ·obtain rfl:k=s.length:=by omega
     have z1:¬ (s.length:Int) < s.length:=by omega
     have pr:=Aa (show pk=pre++Ap ((n:Int) :: ((L.map Aq.pt).take (j+1)).flatMap Ca) by
      rw [JV.out,jx.out,JW.out,List.take_of_length_le (Nat.le_refl _),List.append_assoc,<-Au,List.append_assoc])
     go_wp2_with fail;go_roundw
     case rel=>
      refine⟨j+1,by omega,by go_num,?_,?_,EO,DH⟩
      ·rw [<-pr.out];exact vy
      ·rw [<-pr.out];exact Aa (by have:=BU.out;omega)
     case measure=>simp [intOf];omega
  ·obtain rfl:j=n:=by omega
   have z0:¬ (j:Int) < j:=by omega
   have pr:=Aa (show pj=pre++Ap (Az (L.map Aq.pt)) by
    rw [JW.out,List.take_of_length_le (by rw [List.length_map];exact Nat.le_of_eq Hn.out)]
    unfold Az
    rw [List.length_map,Hn.out])
   rw [pr.out] at uw;go_wp2_with fail;exact bodyPost_end (v:= .tuple #[]) (by simp [results,Tryz.results49,go_sem]) rfl ⟨rfl,uw.out,hb,HK.out⟩
theorem Qu:∀ (l:List Sp) (was least:Int),0<=was->was<=least->Cc least l->(∀ z∈B3 was l,0<=z/\z<=1073741824)/\(B3 was l).length=2 * l.length
 | [],_,_,_,_,_=>⟨fun z hz=>(by cases hz),rfl⟩
 | x :: l,was,least,h0,h1,hc=>by
   obtain⟨c1,c2,c3,c4⟩:=hc;obtain⟨i1,i2⟩:=Qu l x.2 (x.2+2) (by omega) (by omega) c4;refine⟨fun z hz=>?_,by simp only [B3,List.length_cons,i2];omega⟩;simp only [B3,List.mem_cons] at hz;rcases hz with rfl | rfl | hz
   ·omega
   ·omega
   ·exact i1 z hz
theorem Rg:∀ (l:List PT) (last:Int),-1<=last->Cz last l->(∀ z∈l.flatMap Ca,0<=z/\z<=1073741824)/\(l.flatMap Ca).length<=2050 * l.length
 | [],_,_,_=>⟨fun z hz=>(by cases hz),by simp⟩
 | x :: l,last,h0,hc=>by
   obtain⟨c1,c2,c3,c4,c5⟩:=hc;obtain⟨i1,i2⟩:=Rg l x.1 (by omega) c5;obtain⟨j1,j2⟩:=Qu x.2 0 1 (by omega) (by omega) c4.2;have c6:=c4.1;refine⟨fun z hz=>?_,by simp only [List.flatMap_cons,List.length_append,Ca,List.length_cons,j2];omega⟩;simp only [List.flatMap_cons,Ca,List.cons_append,List.mem_cons,List.mem_append] at hz;rcases hz with rfl | rfl | hz | hz
   ·omega
   ·omega
   ·exact j1 z hz
   ·exact i1 z hz
theorem Mq {P:List PT} (h:Dj P):P.length<=8:=by
 rcases Ga P (-1) (by omega) h with h | h
 ·omega
 ·rw [h];exact Nat.zero_le _
theorem Zk {P:List PT} (h:Dj P):(∀ z∈Az P,0<=z/\z<=1099511627776)/\(Az P).length<=16401:=by
 obtain⟨h1,h2⟩:=Rg P (-1) (by omega) h;have h3:=Mq h;refine⟨fun z hz=>?_,by simp only [Az,List.length_cons];omega⟩;simp only [Az,List.mem_cons] at hz;rcases hz with rfl | hz
 ·omega
 ·have:=h1 z hz;omega
theorem Gx {P:List PT} (h:Dj P):(Ap (Az P)).length<=100000:=by
 obtain⟨h1,h2⟩:=Zk h;have:=Bu h1;omega
def bn (b:Bool):Int:=if b=true then 1 else 0
def U8 (rd kn:Bool):Int:=if rd=true then 1 else if kn=true then 2 else 0
def Ff (l:List Bool):List Int:=(l.length:Int) :: l.map bn
def H7 (x:WP):List Int:= [x.t,x.r,U8 x.rd x.kn]++Az x.H++Az x.S++Ff x.G
theorem O4 (rd kn:Bool):0<=U8 rd kn/\U8 rd kn<=2:=by
 cases rd <;> cases kn <;> decide
theorem Ln (b:Bool):0<=bn b/\bn b<=1:=by cases b <;> decide
theorem Kd {a b c:Int} (ha:0<=a/\a<=1099511627776) (hb:0<=b/\b<=1099511627776) (hc:0<=c/\c<=1099511627776):∀ z∈ [a,b,c],0<=z/\z<=1099511627776:=by
 intro z hz;simp only [List.mem_cons,List.not_mem_nil,or_false] at hz;rcases hz with rfl | rfl | rfl <;> assumption
theorem Ch {a:Int} (ha:0<=a/\a<=1099511627776):∀ z∈ [a],0<=z/\z<=1099511627776:=by
 intro z hz;simp only [List.mem_singleton] at hz;subst hz;exact ha
theorem K9 {pre:List UInt8} {L:List Int} {k:Nat} (hL:∀ z∈L,0<=z/\z<=1099511627776) (h:pre.length<=k):(pre++Ap L).length<=k+6 * L.length:=by
 have:=Bu hL;rw [List.length_append];omega
theorem Acm (aa g:Nat) (pre:List UInt8) (x:Ay) (w:World) (hp:PN w aa g pre) (hh:RT w aa x.hA x.h) (hs:RT w aa x.sA x.s) (hg:M3 w aa x.gA x.g) (ax:N5 x) (TW:Dj (x.h.map Aq.pt)) (TV:Dj (x.s.map Aq.pt)) (hgl:x.g.length<=128) (ay:pre.length<=400000000):
 Calls Tryz.prog 51 #[.pointer (some ⟨g,0,none⟩),x.val] w fun e w'=>e= .returned (.tuple #[])/\PN w' aa g (pre++Ap (H7 x.wp))/\Below aa w w'/\D4 w w':=by
 obtain⟨t,r,rd,kn,hA,hc,h,sA,sc,s,gA,gc,gl⟩:=x;obtain⟨o1,o2,o3,o4,o5,o6,o7,o8,o9⟩:=ax;simp only at hh hs hg o1 o2 o3 o4 o5 o6 o7 o8 o9 TW TV hgl;have ai:=hp.lt;have hge:=hp.ge;obtain⟨w1,au,F1,af,ac⟩:=Ct w (.int .u32 t) (.int .u8 r) (.bool rd) (.slice hA h.length hc) (.bool kn) (.slice sA s.length sc) (.slice gA gl.length gc);obtain⟨gx,an⟩:∃ q,q=w.heap.size:=⟨_,rfl⟩;have av:=Aa an;have rn:=Aa (show gx+1=w1.heap.size by rw [<-au,World.size_alloc,an]);rw [<-an] at F1;have az:=Aa F1;have dn:=Aa au;have BY:=Aa (hp.below ac);have eu:=Aa (show Below aa w w1 from ac.mono (by omega));have HK1:=Aa (D4.below ac);obtain⟨y0,y1,y2,y3,y4,y5,y6⟩:=F1.cells;have u1:IntKind.i64.wrap t=t:=IntWalk.i64_in _ (by omega);have u2:IntKind.i64.wrap r=r:=IntWalk.i64_in _ (by omega);have HH:=Aa hh;have HS:=Aa hs;have HG:=Aa hg;have YH:=Aa TW;have Hms:=Aa TV;have Hoh:=Aa o5;have Hos:=Aa o6;obtain⟨st,mu⟩:∃ q,q=U8 rd kn:=⟨_,rfl⟩;have Hwp:=Aa (show H7 (Ay.wp ⟨t,r,rd,kn,hA,hc,h,sA,sc,s,gA,gc,gl⟩)= [t,r,st]++Az (h.map Aq.pt)++Az (s.map Aq.pt)++Ff gl by rw [mu];rfl);obtain⟨N,hN⟩:∃ q,q=H7 (Ay.wp ⟨t,r,rd,kn,hA,hc,h,sA,sc,s,gA,gc,gl⟩):=⟨_,rfl⟩;rw [<-hN] at Hwp |-
 have key:Hid (rd=true/\st=1\/rd=false/\kn=true/\st=2\/rd=false/\kn=false/\st=0):=Aa (by
  rw [mu]
  cases rd <;> cases kn <;> simp [U8])
 have OL:=O4 rd kn;rw [<-mu] at OL;clear mu hN hh hs hg TW TV o5 o6 F1 au ac af hp an;show Calls Tryz.prog 51 #[.pointer (some ⟨g,0,none⟩),wsv t r rd kn (.slice hA h.length hc) (.slice sA s.length sc) (.slice gA gl.length gc)] w _;go_enter Tryz.func51,Tryz.ntmps51;rcases key.out with⟨rfl,mu⟩ | ⟨rfl,rfl,mu⟩ | ⟨rfl,rfl,mu⟩
 all_goals
  have UW:=Aa mu;clear key mu;go_wp2_with fail;rw [dn.out,<-av.out]
  first
   | refine (B6 aa g 3 _ pre [t,r,1] _ rfl w1 rn.out BY.out (Kd ⟨o1,by omega⟩ ⟨o3,by omega⟩ ⟨by omega,by omega⟩) (by simp only [List.length_cons,List.length_nil];omega)).mono ?_
   | refine (B6 aa g 3 _ pre [t,r,2] _ rfl w1 rn.out BY.out (Kd ⟨o1,by omega⟩ ⟨o3,by omega⟩ ⟨by omega,by omega⟩) (by simp only [List.length_cons,List.length_nil];omega)).mono ?_
   | refine (B6 aa g 3 _ pre [t,r,0] _ rfl w1 rn.out BY.out (Kd ⟨o1,by omega⟩ ⟨o3,by omega⟩ ⟨by omega,by omega⟩) (by simp only [List.length_cons,List.length_nil];omega)).mono ?_
  rintro e w2 ⟨rfl,j7,ae,qh⟩;rw [<-UW.out] at j7;obtain⟨p2,OQ⟩:∃ q,q=pre++Ap [t,r,st]:=⟨_,rfl⟩
  have oe:=Aa (show p2.length<=400000018 by
   rw [OQ]
   have:=K9 (Kd ⟨o1,by omega⟩ ⟨o3,by omega⟩ ⟨OL.1,by omega⟩:∀ z∈ [t,r,st],0<=z/\z<=1099511627776) ay
   simp only [List.length_cons,List.length_nil] at this
   omega)
  have Hp2e:=Aa OQ;rw [<-OQ] at j7;have ov:=Aa j7;have db:=Aa (show WB w2 gx _ _ _ _ _ _ _ from qh gx _ az.out (fun bh e=>by simp at e) (fun bh e=>by simp at e));have fh:=Aa (eu.out.trans ae);have KJ:=Aa (HK1.out.trans qh);obtain⟨z0,z1,z2,z3,z4,z5,z6⟩:=db.out.cells;clear j7 OQ ae qh BY eu HK1 az y0 y1 y2 y3 y4 y5 y6;go_wp2_with fail;refine (Ke aa g p2 hA h.length hc h w2 ov.out (HH.out.below fh.out) rfl Hoh.out YH.out (by have:=oe.out;omega)).mono ?_;rintro e w3 ⟨rfl,FP,ag,ui⟩;obtain⟨p3,ys⟩:∃ q,q=p2++Ap (Az (h.map Aq.pt)):=⟨_,rfl⟩
  have YI:=Aa (show p3.length<=400100018 by
   rw [ys,List.length_append]
   have:=Gx YH.out
   have:=oe.out
   omega)
  have Hp3e:=Aa ys;rw [<-ys] at FP;have qj:=Aa FP;have bz:=Aa (show WB w3 gx _ _ _ _ _ _ _ from ui gx _ db.out (fun bh e=>by simp at e) (fun bh e=>by simp at e));have dk:=Aa (fh.out.trans ag);have RA:=Aa (KJ.out.trans ui);clear z0 z1 z2 z3 z4 z5 z6;obtain⟨z0,z1,z2,z3,z4,z5,z6⟩:=bz.out.cells;clear FP ys ag ui ov fh KJ db;go_wp2_with fail;refine (Ke aa g p3 sA s.length sc s w3 qj.out (HS.out.below dk.out) rfl Hos.out Hms.out (by have:=YI.out;omega)).mono ?_;rintro e w4 ⟨rfl,pw,aw,th⟩;obtain⟨p4,ON⟩:∃ q,q=p3++Ap (Az (s.map Aq.pt)):=⟨_,rfl⟩
  have uc:=Aa (show p4.length<=400200018 by
   rw [ON,List.length_append]
   have:=Gx Hms.out
   have:=YI.out
   omega)
  have Hp4e:=Aa ON;rw [<-ON] at pw;have qx:=Aa pw;have ca:=Aa (show WB w4 gx _ _ _ _ _ _ _ from th gx _ bz.out (fun bh e=>by simp at e) (fun bh e=>by simp at e));have ed:=Aa (dk.out.trans aw);have NQ:=Aa (RA.out.trans th);clear z0 z1 z2 z3 z4 z5 z6;obtain⟨z0,z1,z2,z3,z4,z5,z6⟩:=ca.out.cells;clear pw ON aw th qj dk RA bz;go_wp2_with fail;refine (B6 aa g 1 _ p4 [(gl.length:Int)] _ rfl w4 rfl qx.out (Ch ⟨by omega,by omega⟩) (by have:=uc.out;simp only [List.length_cons,List.length_nil];omega)).mono ?_;rintro e w5 ⟨rfl,hp5,bq,TX⟩
  have EX:=Aa (show (p4++Ap [(gl.length:Int)]).length<=400200024 by
   have:=K9 (Ch ⟨by omega,by omega⟩:∀ z∈ [(gl.length:Int)],0<=z/\z<=1099511627776) uc.out
   simp only [List.length_cons,List.length_nil] at this
   omega)
  have uy:=Aa hp5;have cl:=Aa (show WB w5 gx _ _ _ _ _ _ _ from TX gx _ ca.out (fun bh e=>by simp at e) (fun bh e=>by simp at e));have ja:=Aa (ed.out.trans bq);have HK5:=Aa (NQ.out.trans TX);clear z0 z1 z2 z3 z4 z5 z6;obtain⟨z0,z1,z2,z3,z4,z5,z6⟩:=cl.out.cells;clear hp5 bq TX qx ed NQ ca;go_wp2_with fail
  go_loopw [43] (fun i wr=>∃ k:Nat,k<=gl.length/\i= .int .i64 (k:Int)/\Hid (PN wr aa g (p4++Ap ((gl.length:Int) :: (gl.take k).map bn)))/\Hid ((p4++Ap ((gl.length:Int) :: (gl.take k).map bn)).length<=400200024+6 * k)/\Below aa w wr/\Hid (D4 w wr)) (fun i _=>gl.length - (intOf i).toNat)
  case atStart=>exact⟨0,by omega,rfl,uy,EX,ja.out,HK5⟩
  case round=>
   obtain⟨k,hk,rfl,vy,BU,EO,DH⟩:=hrel;clear uy HK5 EX cl ja z0 z1 z2 z3 z4 z5 z6;obtain⟨pk,CE⟩:∃ q,q=p4++Ap ((gl.length:Int) :: (gl.take k).map bn):=⟨_,rfl⟩;have JV:=Aa CE;rw [<-CE] at vy BU;clear CE;by_cases nf:k < gl.length
   ·have z1:(k:Int) < gl.length:=by omega
    have zk:(0:Int)<=k:=by omega
    obtain⟨b2,o2,rfl,ER,x8⟩:=M3.cell (RD.below HG.out EO) (by omega);have e0:=x8 k nf;obtain⟨y,hy⟩:∃ q,q=gl[k]:=⟨_,rfl⟩;rw [<-hy] at e0
    have qw:=Aa (show pk++Ap [bn y]=p4++Ap ((gl.length:Int) :: (gl.take (k+1)).map bn) by
     rw [List.take_succ_eq_append_getElem nf,<-hy,JV.out,List.append_assoc,<-Au,List.map_append]
     rfl)
    have BV:=Aa (show (pk++Ap [bn y]).length<=400200024+6 * (k+1) by
     have:=K9 (Ch ⟨(Ln y).1,by have:=(Ln y).2;omega⟩:∀ z∈ [bn y],0<=z/\z<=1099511627776) BU.out
     simp only [List.length_cons,List.length_nil] at this
     omega)
    have hP:=Aa (fun (q:Nat) (z:Int) (hq:q=wr.heap.size) (hz:z=bn y)=>B6 aa g 1 q pk [z] #[.int .i64 z] rfl wr hq vy.out (Ch ⟨by rw [hz];exact (Ln y).1,by rw [hz];have:=(Ln y).2;omega⟩) (by have:=BU.out;simp only [List.length_cons,List.length_nil];omega));clear x8 hy vy;cases y
    ·go_wp2_with fail;refine (Ag hP _ 0 rfl rfl).mono ?_;rintro e w6 ⟨rfl,CG,bf,j8⟩;have ux:=Aa CG;have dx:=Aa (EO.trans bf);have FE:=Aa (DH.out.trans j8);clear CG bf j8 hP;go_wp2_with fail;go_roundw
     case rel=>
      refine⟨k+1,by omega,by go_num,?_,?_,dx.out,FE⟩
      ·rw [<-qw.out];exact ux
      ·rw [<-qw.out];exact BV
     case measure=>simp [intOf];omega
    ·go_wp2_with fail;refine (Ag hP _ 1 rfl rfl).mono ?_;rintro e w6 ⟨rfl,CG,bf,j8⟩;have ux:=Aa CG;have dx:=Aa (EO.trans bf);have FE:=Aa (DH.out.trans j8);clear CG bf j8 hP;go_wp2_with fail;go_roundw
     case rel=>
      refine⟨k+1,by omega,by go_num,?_,?_,dx.out,FE⟩
      ·rw [<-qw.out];exact ux
      ·rw [<-qw.out];exact BV
     case measure=>simp [intOf];omega
   ·obtain rfl:k=gl.length:=by omega
    have z1:¬ (gl.length:Int) < gl.length:=by omega
    have pr:=Aa (show pk=pre++Ap N by
     rw [JV.out,Hwp.out,List.take_of_length_le (Nat.le_refl _),Hp4e.out,Hp3e.out,Hp2e.out]
     simp only [Au,List.append_assoc,Ff])
    rw [pr.out] at vy;go_wp2_with fail;exact bodyPost_end (v:= .tuple #[]) (by simp [results,Tryz.results51,go_sem]) rfl ⟨rfl,vy.out,EO,DH.out⟩
end Go.Proofs.YtmkpfdcnikgokaaGreat
