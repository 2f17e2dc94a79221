/-
  Texts of this claim, put together: RefPut, RefClock. What each theorem asks stands in its statement.
-/
import Derived.Test.YtmkpfdcnikgokaaGreatMd25
import Derived.Test.YtmkpfdcnikgokaaGreatMd30
import Derived.Test.YtmkpfdcnikgokaaGreatMd31
set_option linter.unusedVariables false
set_option linter.unusedSimpArgs false
set_option maxRecDepth 100000
set_option maxHeartbeats 25600000
namespace Go.Proofs.YtmkpfdcnikgokaaGreat
open Go.RowKit
def B2 (T:TypeId) (w:World) (g:Nat) (a b:Value):Prop:=w.heap[g]?=some (.cells #[a,b] T (0,0))
theorem B2.new (T:TypeId) (w:World) (a b:Value):∃ w2,w.alloc (.cells #[a,b] T)=w2/\B2 T w2 w.heap.size a b/\w.heap.size < w2.heap.size/\Below w.heap.size w w2:=
 ⟨_,rfl,heap_alloc_new _ _,by simp,(Below.refl w.heap.size w).alloc (Nat.le_refl _) _⟩
theorem B2.cells {T:TypeId} {w:World} {g:Nat} {a b:Value} (h:B2 T w g a b):w.cell? ⟨g,0,none⟩=some a/\w.cell? ⟨g,1,none⟩=some b:=
 ⟨by rw [cell_of_row _ _ _ _ _ _ h];rfl,by rw [cell_of_row _ _ _ _ _ _ h];rfl⟩
theorem B2.kept {T:TypeId} {w w':World} {g:Nat} {a b:Value} (h:B2 T w g a b) (hT:T≠5) (hk:Dm w w'):B2 T w' g a b:=
 hk g _ h fun bh e=>by
  simp only [Obj.cells.injEq] at e;exact hT e.2.1
theorem J1 (aa:Nat) (v:Value) (pre:List UInt8) (z:Int) (w:World) (hr:Ik w aa v pre) (ao:aa<=w.heap.size) (h0:0<=z) (h1:z<=1099511627776) (ay:pre.length<=1000000000):
 Calls Tryz.prog 94 #[v,.int .i64 z] w (Gu aa w (pre++nb z.toNat)):=by
 obtain⟨i0,cr,cb,cu,cq⟩:=info_parts Dq;obtain⟨A,c,rfl,ah⟩:=hr;have yt:=Aa ah;have P:=Aa (Co z w h0 h1);have hl:=Gw (n:=z.toNat) (by omega);clear ah;go_enter Tryz.func94,Tryz.ntmps94;go_wp2_with fail;refine P.out.mono ?_;rintro e w2 ⟨A2,c2,rfl,cm,ae⟩;have pc:=Ai yt.out ae (Nat.le_refl _);have cd:pre.length+(nb z.toNat).length<=1073741824:=by omega
 clear hl;go_wp2_with (at_builtin;refine Ar _ rfl (.tmp 5) (.tmp 7) 23 rfl aa 5 i0 (.int .u8 0) 1 1 Tryz.underlying23 cr cb cu cq rfl (by decide) _ _ _ rfl pc w2.heap.size A2 _ c2 (Cw (nb z.toNat)) rfl (RD.of_own cm) (Ce _) cd (by decide) (Nat.le_trans ao ae.size) ?_;intro v4 w4 gu aw th;rw [<-Bg,<-List.length_append] at gu;have wk:=Aa gu;have ed:=Aa ((ae.mono ao).trans aw);have NQ:=Aa ((Dm.below ae).trans th);clear gu aw th cd);go_ret;exact Gu.mk (Ik.of wk.out) ed.out NQ.out
def stV (v0:Value) (g:Nat) (t r:Int):List (Option (Nat×Value)):=
 [some (5,v0),some (6,.pointer (some ⟨g,0,none⟩)),some (7,.int .u32 t),some (8,.int .i64 t),none,some (10,.pointer (some ⟨g,1,none⟩)),some (11,.int .u8 r),some (12,.int .i64 r),none,none]
def Zq:List (Option Nat):= [some 5,some 6,some 7,some 8,none,some 10,some 11,some 12,none,none]
theorem Qa:CB Zq 0 4 9 8 13 9 4:=⟨by decide,by decide,by decide,by decide,by decide,rfl,rfl,rfl⟩
theorem Vm (aa:Nat) (v0:Value) (pre:List UInt8) (t r:Int) (w:World) (hr:Ik w aa v0 pre) (ao:aa<=w.heap.size) (ht0:0<=t) (GY:t<=1099511627776) (NT:0<=r) (rh:r<=1099511627776) (ay:pre.length<=900000000):
 Calls Tryz.prog 97 #[v0,.agg #[.int .u32 t,.int .u8 r]] w (Gu aa w (pre++Ap [t,r])):=by
 obtain⟨w1,au,F1,af,ac⟩:=B2.new 46 w (.int .u32 t) (.int .u8 r);have hR:=Aa (hr.below ac);have cy:aa<=w1.heap.size:=Nat.le_trans ao ac.size;have xi:IntKind.i64.wrap t=t:=IntWalk.i64_in _ (by omega);have ku:IntKind.i64.wrap r=r:=IntWalk.i64_in _ (by omega);have hsz1:(pre++nb t.toNat).length<=1000000000:=by
  have:=Gw (n:=t.toNat) (by omega);rw [List.length_append];omega
 have HF:=Aa F1;have HS:=Aa (show pre++nb t.toNat++nb r.toNat=pre++Ap [t,r] by simp [Ap]);clear hr F1;go_enter Tryz.func97,Tryz.ntmps97;go_wp2_with fail;have F1:=HF.out;refine Bc (fun done ρ W=>CH w1 aa (stV v0 w.heap.size t r) 0 4 9 8 13 9 4 v0 (.slice none 0 0) pre (pre++nb t.toNat) (pre++nb t.toNat++nb r.toNat) done ρ W) (by kernel_rfl) 14 rfl (by kernel_rfl) ?_ ?_ ?_
 ·exact CH.start (Below.refl _ _).drew (Dm.refl _) hR.out rfl
 ·refine⟨?_,?_,?_,?_,?_,?_,?_,?_,?_,?_,trivial⟩
  ·
   intro done ρ W hn hf hd h;have qs0:ρ 0=v0:=hf 0 (by kernel_rfl);clear hf;refine Bd rfl fun R9 aj=>?_;go_simp;exact aj _ _ (h.plain Zq rfl Qa 0 5 _ rfl)
  ·
   intro done ρ W hn hf hd h;have qs3:ρ 3= .pointer (some ⟨w.heap.size,0,none⟩):=hf 3 (by kernel_rfl);clear hf;refine Bd rfl fun R9 aj=>?_;go_simp;exact aj _ _ (h.plain Zq rfl Qa 1 6 _ rfl)
  ·
   intro done ρ W hn hf hd h;have TG:=h.get 1 6 _ rfl (hd 1 (by kernel_rfl));obtain⟨d0,d1⟩:=(F1.kept (by decide) h.k).cells;clear hf;refine Bd rfl fun R9 aj=>?_;go_simp;exact aj _ _ (h.plain Zq rfl Qa 2 7 _ rfl)
  ·
   intro done ρ W hn hf hd h;have TF:=h.get 2 7 _ rfl (hd 2 (by kernel_rfl));clear hf;refine Bd rfl fun R9 aj=>?_;go_simp;exact aj _ _ (h.plain Zq rfl Qa 3 8 _ rfl)
  ·
   intro done ρ W hn hf hd h;have TH:=h.get 0 5 _ rfl (hd 0 (by kernel_rfl));have qd3:=h.get 3 8 _ rfl (hd 3 (by kernel_rfl));have h0:=h.c0 hn;have FU:=hd 0 (by kernel_rfl);clear hf;refine Bd rfl fun R9 aj=>?_;go_simp;refine (J1 aa v0 pre t W h0 (Nat.le_trans cy h.b.size) ht0 (by omega) (by omega)).mono ?_;rintro e w' ⟨v',rfl,gf,de,mj⟩;exact⟨v',rfl,aj _ _ (h.call1 Zq rfl Qa hn FU gf de mj)⟩
  ·
   intro done ρ W hn hf hd h;have qs3:ρ 3= .pointer (some ⟨w.heap.size,0,none⟩):=hf 3 (by kernel_rfl);clear hf;refine Bd rfl fun R9 aj=>?_;go_simp;exact aj _ _ (h.plain Zq rfl Qa 5 10 _ rfl)
  ·
   intro done ρ W hn hf hd h;have TE:=h.get 5 10 _ rfl (hd 5 (by kernel_rfl));obtain⟨d0,d1⟩:=(F1.kept (by decide) h.k).cells;clear hf;refine Bd rfl fun R9 aj=>?_;go_simp;exact aj _ _ (h.plain Zq rfl Qa 6 11 _ rfl)
  ·
   intro done ρ W hn hf hd h;have qd6:=h.get 6 11 _ rfl (hd 6 (by kernel_rfl));clear hf;refine Bd rfl fun R9 aj=>?_;go_simp;exact aj _ _ (h.plain Zq rfl Qa 7 12 _ rfl)
  ·
   intro done ρ W hn hf hd h;have qd7:=h.get 7 12 _ rfl (hd 7 (by kernel_rfl));have h1:=hd 4 (by kernel_rfl);have ik:=h.c1 h1 hn;clear hf;refine Bd rfl fun R9 aj=>?_;go_simp;refine (J1 aa _ (pre++nb t.toNat) r W ik (Nat.le_trans cy h.b.size) NT (by omega) hsz1).mono ?_;rintro e w' ⟨v',rfl,gf,de,mj⟩;exact⟨v',rfl,aj _ _ (h.call2 Zq rfl Qa hn h1 gf de mj)⟩
  ·
   intro done ρ W hn hf hd h;have h2:=hd 8 (by kernel_rfl);clear hf;refine Bd rfl fun R9 aj=>?_;go_simp;exact aj _ _ (h.lay Zq rfl Qa h2 rfl)
 ·intro a' w6 cz ay hf h;have bf:Below aa w1 w6:=h.b;have j8:=h.k;have mc:=h.c3 (by kernel_rfl);obtain⟨T,D⟩:=a';have hD:D= []:=cz;subst hD;obtain⟨f,hT,df⟩:∃ f:Nat->Value,T=((List.range 14).map f).toArray/\Ab ⟨T, []⟩=f:=⟨_,Bm T 14 ay,rfl⟩;rw [df] at mc;clear df ay hf h cz;simp only [List.range,List.range.loop,List.map] at hT;subst hT;rw [HS.out] at mc;have LX:=Aa (Gu.mk mc ((ac.mono ao).trans bf) ((Dm.below ac).trans j8));clear mc bf j8 HS hsz1 ay;go_wp2_with fail;go_ret;exact LX.out
def Agf (v:Value) (bb bo n c j:Nat) (R:Int) (sA:Option Addr) (sc:Nat) (s:List Sp):List (Option (Nat×Value)):=
 [some (19,v),some (20,.slice (some ⟨bb,bo,none⟩) n c),some (21,.int .i64 (j:Int)),some (22,.pointer (some ⟨bb,bo+j * 2,none⟩)),some (23,.pointer (some ⟨bb,bo+j * 2,none⟩)),some (24,.int .u8 R),some (25,.int .i64 R),none,some (27,.slice (some ⟨bb,bo,none⟩) n c),some (28,.int .i64 (j:Int)),some (29,.pointer (some ⟨bb,bo+j * 2,none⟩)),some (30,.pointer (some ⟨bb,bo+j * 2+1,none⟩)),some (31,.slice sA s.length sc),some (32,.int .i64 (s.length:Int)),none,none]
def J8:List (Option Nat):= [some 19,some 20,some 21,some 22,some 23,some 24,some 25,none,some 27,some 28,some 29,some 30,some 31,some 32,none,none]
theorem Gz:CB J8 0 7 26 14 33 15 0:=⟨by decide,by decide,by decide,by decide,by decide,rfl,rfl,rfl⟩
def Age (v2:Value) (gs:Nat) (a b was:Int):List (Option (Nat×Value)):=
 [some (52,v2),some (53,.pointer (some ⟨gs,0,none⟩)),some (54,.int .u32 a),some (55,.int .i64 a),some (56,.int .i64 was),some (57,.int .i64 (a - was)),none,some (59,.pointer (some ⟨gs,1,none⟩)),some (60,.int .u32 b),some (61,.pointer (some ⟨gs,0,none⟩)),some (62,.int .u32 a),some (63,.int .u32 (b - a)),some (64,.int .i64 (b - a)),none,none]
def Li:List (Option Nat):= [some 52,some 53,some 54,some 55,some 56,some 57,none,some 59,some 60,some 61,some 62,some 63,some 64,none,none]
theorem H6:CB Li 0 6 58 13 65 14 0:=⟨by decide,by decide,by decide,by decide,by decide,rfl,rfl,rfl⟩
theorem Ea {l:List UInt8} {z:Int} {m k:Nat} (hl:l.length<=m) (h0:0<=z) (h1:z<=1099511627776) (hk:m+6<=k):(l++nb z.toNat).length<=k:=by
 have:=Gw (n:=z.toNat) (by omega);rw [List.length_append];omega
theorem Jm (l:List UInt8) (a b:Int):l++nb a.toNat++nb b.toNat=l++Ap [a,b]:=by
 rw [Bv,Bv,Cf,List.append_nil,List.append_assoc]
theorem O6 (aa:Nat) (v0:Value) (pre:List UInt8) (A:Option Addr) (n c:Nat) (L:List Aq) (w:World) (hp:Ik w aa v0 pre) (ao:aa<=w.heap.size) (hr:RT w aa A L) (hn:L.length=n) (ax:∀ x∈L,M1 x) (hm:Dj (L.map Aq.pt)) (ay:pre.length<=500000000):
 Calls Tryz.prog 95 #[v0,.slice A n c] w (Gu aa w (pre++Ap (Az (L.map Aq.pt)))):=by
 have CI:n<=8:=by
  have:=Mq hm;rw [List.length_map,hn] at this;exact this
 have Hm:=Aa hm;have HR:=Aa hr;have HP:=Aa hp;have Hn:=Aa hn;have js:=Aa ax;clear hm hr hp hn ax;go_enter Tryz.func95,Tryz.ntmps95;go_wp2_with fail;refine (J1 aa v0 pre (n:Int) w HP.out ao (by omega) (by omega) (by omega)).mono ?_;rintro e w2 ⟨vn,rfl,j7,ae,qh⟩;have gm:(pre++nb (n:Int).toNat).length<=500000006:=Ea ay (by omega) (by omega) (by omega);have e2:pre++nb (n:Int).toNat=pre++Ap [(n:Int)]:=by rw [Bv,Cf,List.append_nil]
 rw [e2] at j7 gm;have ov:=Aa j7;have KJ:=Aa qh;have oe:=Aa gm;clear j7 qh gm e2;go_wp2_with fail
 go_loopw [0,5] (fun v i wr=>∃ j:Nat,j<=n/\i= .int .i64 (j:Int)/\Hid (Ik wr aa v (pre++Ap ((n:Int) :: ((L.map Aq.pt).take j).flatMap Ca)))/\Hid ((pre++Ap ((n:Int) :: ((L.map Aq.pt).take j).flatMap Ca)).length<=500000006+15000 * j)/\Below aa w wr/\Hid (Dm w wr)) (fun _ i _=>n - (intOf i).toNat)
 case atStart=>exact⟨0,by omega,rfl,ov,oe,ae,KJ⟩
 case round=>
  obtain⟨j,hj,rfl,uw,EW,hb,HK⟩:=hrel;clear ov KJ oe HP;obtain⟨pj,CF⟩:∃ q,q=pre++Ap ((n:Int) :: ((L.map Aq.pt).take j).flatMap Ca):=⟨_,rfl⟩;have JW:=Aa CF;rw [<-CF] at uw EW;clear CF;by_cases VS:j < n
  ·have z0:(j:Int) < n:=by omega
   have zj:(0:Int)<=j:=by omega
   have ap:j < L.length:=by rw [Hn.out];exact VS
   obtain⟨bb,bo,rfl,FW,fg⟩:=RT.cell (HR.out.below hb) (by omega);obtain⟨d0,d1⟩:=fg j ap;obtain⟨x,hx⟩:∃ x,L[j]=x:=⟨_,rfl⟩;rw [hx] at d0 d1;obtain⟨R,sA,sc,s⟩:=x;simp only at d0 d1;have ba:(⟨R,sA,sc,s⟩:Aq)∈L:=by rw [<-hx];exact List.getElem_mem ap
   obtain⟨q1,q2,q3,q4⟩:=js.out _ ba;simp only at q1 q2 q3 q4;have cp:=Ey _ _ Hm.out (Aq.pt ⟨R,sA,sc,s⟩) (List.mem_map_of_mem ba);have GZ:s.length<=1024:=cp.1.1;have Hch:=Aa (show Cc 1 s from cp.1.2);have og:=Aa (HR.out.2 _ ba);have FV:IntKind.i64.wrap R=R:=IntWalk.i64_in _ (by omega)
   have jx:Hid (((n:Int) :: ((L.map Aq.pt).take (j+1)).flatMap Ca)=((n:Int) :: ((L.map Aq.pt).take j).flatMap Ca)++ [R,(s.length:Int)]++B3 0 s):=Aa (by
    rw [List.take_succ_eq_append_getElem (by rw [List.length_map];exact ap),List.flatMap_append,List.getElem_map,hx]
    simp [Ca,Aq.pt])
   have NX:=EW.out;have hl6:pj.length<=1000000000:=by omega
   have hl7:(pj++nb R.toNat).length<=1000000000:=Ea NX q1 (by omega) (by omega)
   have uc:Hid ((pj++Ap [R,(s.length:Int)]).length<=500000018+15000 * j):=Aa (by
    rw [<-Jm]
    exact Ea (Ea (k:=500000012+15000 * j) NX q1 (by omega) (by omega)) (by omega) (by omega) (by omega))
   have k8:aa<=wr.heap.size:=Nat.le_trans ao hb.size;have HK0:=HK;have Hjx:=Aa hx;clear fg hx ba q3 cp NX;go_wp2_with fail;refine Bc (fun done ρ W=>CH wr aa (Agf u0 bb bo n c j R sA sc s) 0 7 26 14 33 15 0 u0 u0 pj (pj++nb R.toNat) (pj++nb R.toNat++nb (s.length:Int).toNat) done ρ W) (by kernel_rfl) 70 rfl (by kernel_rfl) ?_ ?_ ?_
   ·exact CH.start (Below.refl _ _).drew (Dm.refl _) uw.out rfl
   ·refine⟨?_,?_,?_,?_,?_,?_,?_,?_,?_,?_,?_,?_,?_,?_,?_,?_,trivial⟩
    ·
     intro done ρ W hn hf hd h;have q0:=h.first hn;clear hf;refine Bd rfl fun R9 aj=>?_;go_simp;exact aj _ _ (h.plain J8 rfl Gz 0 19 _ rfl)
    ·
     intro done ρ W hn hf hd h;have TD:ρ 1= .slice (some ⟨bb,bo,none⟩) n c:=hf 1 (by kernel_rfl);clear hf;refine Bd rfl fun R9 aj=>?_;go_simp;exact aj _ _ (h.plain J8 rfl Gz 1 20 _ rfl)
    ·
     intro done ρ W hn hf hd h;have qs5:ρ 5= .int .i64 (j:Int):=hf 5 (by kernel_rfl);clear hf;refine Bd rfl fun R9 aj=>?_;go_simp;exact aj _ _ (h.plain J8 rfl Gz 2 21 _ rfl)
    ·
     intro done ρ W hn hf hd h;have TG:=h.get 1 20 _ rfl (hd 1 (by kernel_rfl));have TF:=h.get 2 21 _ rfl (hd 2 (by kernel_rfl));clear hf;refine Bd rfl fun R9 aj=>?_;go_simp;exact aj _ _ (h.plain J8 rfl Gz 3 22 _ rfl)
    ·
     intro done ρ W hn hf hd h;have qd3:=h.get 3 22 _ rfl (hd 3 (by kernel_rfl));clear hf;refine Bd rfl fun R9 aj=>?_;go_simp;exact aj _ _ (h.plain J8 rfl Gz 4 23 _ rfl)
    ·
     intro done ρ W hn hf hd h;have XP:=h.get 4 23 _ rfl (hd 4 (by kernel_rfl));have d0:=Eo h.b FW d0;have d1:=Eo h.b FW d1;clear hf;refine Bd rfl fun R9 aj=>?_;go_simp;exact aj _ _ (h.plain J8 rfl Gz 5 24 _ rfl)
    ·
     intro done ρ W hn hf hd h;have TE:=h.get 5 24 _ rfl (hd 5 (by kernel_rfl));clear hf;refine Bd rfl fun R9 aj=>?_;go_simp;exact aj _ _ (h.plain J8 rfl Gz 6 25 _ rfl)
    ·
     intro done ρ W hn hf hd h;have TH:=h.get 0 19 _ rfl (hd 0 (by kernel_rfl));have qd6:=h.get 6 25 _ rfl (hd 6 (by kernel_rfl));have h0:=h.c0 hn;have FU:=hd 0 (by kernel_rfl);clear hf;refine Bd rfl fun R9 aj=>?_;go_simp;refine (J1 aa u0 pj R W h0 (Nat.le_trans k8 h.b.size) q1 (by omega) hl6).mono ?_;rintro e w' ⟨v',rfl,gf,de,mj⟩;exact⟨v',rfl,aj _ _ (h.call1 J8 rfl Gz hn FU gf de mj)⟩
    ·
     intro done ρ W hn hf hd h;have TD:ρ 1= .slice (some ⟨bb,bo,none⟩) n c:=hf 1 (by kernel_rfl);clear hf;refine Bd rfl fun R9 aj=>?_;go_simp;exact aj _ _ (h.plain J8 rfl Gz 8 27 _ rfl)
    ·
     intro done ρ W hn hf hd h;have qs5:ρ 5= .int .i64 (j:Int):=hf 5 (by kernel_rfl);clear hf;refine Bd rfl fun R9 aj=>?_;go_simp;exact aj _ _ (h.plain J8 rfl Gz 9 28 _ rfl)
    ·
     intro done ρ W hn hf hd h;have qd8:=h.get 8 27 _ rfl (hd 8 (by kernel_rfl));have qd9:=h.get 9 28 _ rfl (hd 9 (by kernel_rfl));clear hf;refine Bd rfl fun R9 aj=>?_;go_simp;exact aj _ _ (h.plain J8 rfl Gz 10 29 _ rfl)
    ·
     intro done ρ W hn hf hd h;have qd10:=h.get 10 29 _ rfl (hd 10 (by kernel_rfl));clear hf;refine Bd rfl fun R9 aj=>?_;go_simp;exact aj _ _ (h.plain J8 rfl Gz 11 30 _ rfl)
    ·
     intro done ρ W hn hf hd h;have qd11:=h.get 11 30 _ rfl (hd 11 (by kernel_rfl));have d0:=Eo h.b FW d0;have d1:=Eo h.b FW d1;clear hf;refine Bd rfl fun R9 aj=>?_;go_simp;exact aj _ _ (h.plain J8 rfl Gz 12 31 _ rfl)
    ·
     intro done ρ W hn hf hd h;have qd12:=h.get 12 31 _ rfl (hd 12 (by kernel_rfl));clear hf;refine Bd rfl fun R9 aj=>?_;go_simp;exact aj _ _ (h.plain J8 rfl Gz 13 32 _ rfl)
    ·
     intro done ρ W hn hf hd h;have qd13:=h.get 13 32 _ rfl (hd 13 (by kernel_rfl));have h1:=hd 7 (by kernel_rfl);have ik:=h.c1 h1 hn;clear hf;refine Bd rfl fun R9 aj=>?_;go_simp;refine (J1 aa _ (pj++nb R.toNat) (s.length:Int) W ik (Nat.le_trans k8 h.b.size) (by omega) (by omega) hl7).mono ?_;rintro e w' ⟨v',rfl,gf,de,mj⟩;exact⟨v',rfl,aj _ _ (h.call2 J8 rfl Gz hn h1 gf de mj)⟩
    ·
     intro done ρ W hn hf hd h;have h2:=hd 14 (by kernel_rfl);clear hf;refine Bd rfl fun R9 aj=>?_;go_simp;exact aj _ _ (h.lay J8 rfl Gz h2 rfl)
   ·intro a' w6 cz ay hf h;have bf:Below aa wr w6:=h.b;have j8:=h.k;have mc:=h.c3 (by kernel_rfl);have h1:Ab a' 1= .slice (some ⟨bb,bo,none⟩) n c:=hf 1 (by kernel_rfl);have h2:Ab a' 2=undef:=hf 2 (by kernel_rfl);have h3:Ab a' 3=undef:=hf 3 (by kernel_rfl);have h4:Ab a' 4= .slice none 0 0:=hf 4 (by kernel_rfl);have h5:Ab a' 5= .int .i64 (j:Int):=hf 5 (by kernel_rfl);have h9:Ab a' 9=v0:=hf 9 (by kernel_rfl);have kb:Ab a' 10= .slice (some ⟨bb,bo,none⟩) n c:=hf 10 (by kernel_rfl);have ky:Ab a' 11= .int .i64 (n:Int):=hf 11 (by kernel_rfl);have jr:Ab a' 12=vn:=hf 12 (by kernel_rfl);have CR:Ab a' 69=undef:=hf 69 (by kernel_rfl);obtain⟨T,D⟩:=a';have hD:D= []:=cz;subst hD;obtain⟨f1,hT,df⟩:∃ f:Nat->Value,T=((List.range 70).map f).toArray/\Ab ⟨T, []⟩=f:=⟨_,Bm T 70 ay,rfl⟩;rw [df] at mc h1 h2 h3 h4 h5 h9 kb ky jr CR;clear df ay hf h cz;simp only [List.range,List.range.loop,List.map] at hT;subst hT;rw [h1,h2,h3,h4,h5,h9,kb,ky,jr,CR];clear h1 h2 h3 h4 h5 h9 kb ky jr CR;rw [Jm] at mc;have qx:=Aa mc;have ed:=Aa (hb.trans bf);have NQ:=Aa (HK0.out.trans j8);clear mc bf j8 k8 uw HK HK0 d0 d1 hl6 hl7 FW;go_wp2_with fail
    go_loopw [0,6,7] (fun v2 q i wq=>∃ k:Nat,k<=s.length/\i= .int .i64 (k:Int)/\q= .int .i64 (Lr 0 (s.take k))/\Hid (Ik wq aa v2 (pj++Ap ([R,(s.length:Int)]++B3 0 (s.take k))))/\Hid ((pj++Ap ([R,(s.length:Int)]++B3 0 (s.take k))).length<=500000018+15000 * j+12 * k)/\Below aa w wq/\Hid (Dm w wq)) (fun _ _ i _=>s.length - (intOf i).toNat)
    case atStart=>exact⟨0,by omega,rfl,rfl,qx,uc,ed.out,NQ⟩
    case round=>
     obtain⟨k,hk,rfl,rfl,vy,BU,EO,DH⟩:=hrel;clear qx NQ uc ed;obtain⟨pk,CE⟩:∃ q,q=pj++Ap ([R,(s.length:Int)]++B3 0 (s.take k)):=⟨_,rfl⟩;have JV:=Aa CE;rw [<-CE] at vy BU;clear CE;obtain⟨was,yr⟩:∃ q,q=Lr 0 (s.take k):=⟨_,rfl⟩;have WS:=Aa yr;rw [<-yr];have hBq:=Aa (RT.cell (HR.out.below EO) (by have:=Hn.out;omega));obtain⟨bb',bo',ll,FW,fg⟩:=hBq.out;obtain⟨rfl,rfl⟩:bb=bb'/\bo=bo':=by
      simp only [Option.some.injEq,Addr.mk.injEq] at ll;exact⟨ll.1,ll.2.1⟩
     obtain⟨d0,d1⟩:=fg j ap;rw [Hjx.out] at d0 d1;simp only at d0 d1;clear fg ll hBq;by_cases nf:k < s.length
     ·have z1:(k:Int) < s.length:=by omega
      have zk:(0:Int)<=k:=by omega
      obtain⟨b2,o2,rfl,ER,x8⟩:=RS.cell (RD.below og.out EO) (by omega);obtain⟨e0,e1⟩:=x8 k nf;obtain⟨wa0,YQ⟩:=Na s 0 1 k nf (by omega) (by omega) Hch.out;obtain⟨ch1,ch2,ch3⟩:=Jb s 1 k nf Hch.out;rw [<-yr] at wa0 YQ;obtain⟨a,ha⟩:∃ q,q=s[k].1:=⟨_,rfl⟩;obtain⟨b,ez⟩:∃ q,q=s[k].2:=⟨_,rfl⟩;rw [<-ha] at e0 YQ ch1 ch3;rw [<-ez] at e1 ch1 ch2;have QT:=Aa (show s[k]=(a,b) by rw [ha,ez]);obtain⟨ws,EG,Fs,hss,YD⟩:=B2.new 129 wr (.int .u32 a) (.int .u32 b);obtain⟨t0,t1⟩:=Fs.cells;have u1:IntKind.i64.wrap a=a:=IntWalk.i64_in _ (by omega);have u2:IntKind.i64.wrap b=b:=IntWalk.i64_in _ (by omega);have u3:IntKind.i64.wrap (a - was)=a - was:=IntWalk.i64_in _ (by omega);have u4:IntKind.u32.wrap (b - a)=b - a:=IntWalk.u32_in _ (by omega);have u5:IntKind.i64.wrap (b - a)=b - a:=IntWalk.i64_in _ (by omega);obtain⟨gs,kt⟩:∃ q,q=wr.heap.size:=⟨_,rfl⟩;have ml:=Aa kt;have Hws:=Aa EG;rw [<-kt] at Fs;have HFs:=Aa Fs;have MU:aa<=wr.heap.size:=Nat.le_trans ao EO.size;have HPs:=Aa (vy.out.below YD);have VJ:=Aa (EO.trans (YD.mono MU));have OI:=Aa (DH.out.trans (Dm.below YD));have EE:aa<=ws.heap.size:=Nat.le_trans MU YD.size;have VU:=BU.out;have hl8:pk.length<=1000000000:=by omega
      have si:(pk++nb (a - was).toNat).length<=1000000000:=Ea VU (by omega) (by omega) (by omega)
      have qw:=Aa (show pk++Ap [a - was,b - a]=pj++Ap ([R,(s.length:Int)]++B3 0 (s.take (k+1))) by
       rw [List.take_succ_eq_append_getElem nf,QT.out,Kt,<-WS.out,JV.out,List.append_assoc,<-Au,List.append_assoc])
      have Hl8:=Aa (show (pj++Ap ([R,(s.length:Int)]++B3 0 (s.take (k+1)))).length<=500000018+15000 * j+12 * (k+1) by
       rw [<-qw.out,<-Jm]
       exact Ea (Ea (k:=500000018+15000 * j+12 * k+6) VU (by omega) (by omega) (by omega)) (by omega) (by omega) (by omega))
      have Hwn:=Aa (show Lr 0 (s.take (k+1))=b by rw [List.take_succ_eq_append_getElem nf,QT.out,Nb]);clear x8 ha ez Fs YD kt EG yr vy DH VU;go_wp2_with fail;rw [Hws.out,<-ml.out];clear e0 e1 t0 t1 d0 d1;refine Bc (fun done ρ W=>CH ws aa (Age u0 gs a b was) 0 6 58 13 65 14 0 u0 u0 pk (pk++nb (a - was).toNat) (pk++nb (a - was).toNat++nb (b - a).toNat) done ρ W) (by kernel_rfl) 70 rfl (by kernel_rfl) ?_ ?_ ?_
      ·exact CH.start (Below.refl _ _).drew (Dm.refl _) HPs.out rfl
      ·refine⟨?_,?_,?_,?_,?_,?_,?_,?_,?_,?_,?_,?_,?_,?_,?_,trivial⟩
       ·
        intro done ρ W hn hf hd h;have q0:=h.first hn;clear hf;refine Bd rfl fun R9 aj=>?_;go_simp;exact aj _ _ (h.plain Li rfl H6 0 52 _ rfl)
       ·
        intro done ρ W hn hf hd h;have qs8:ρ 8= .pointer (some ⟨gs,0,none⟩):=hf 8 (by kernel_rfl);clear hf;refine Bd rfl fun R9 aj=>?_;go_simp;exact aj _ _ (h.plain Li rfl H6 1 53 _ rfl)
       ·
        intro done ρ W hn hf hd h;have TG:=h.get 1 53 _ rfl (hd 1 (by kernel_rfl));obtain⟨t0,t1⟩:=(HFs.out.kept (by decide) h.k).cells;clear hf;refine Bd rfl fun R9 aj=>?_;go_simp;exact aj _ _ (h.plain Li rfl H6 2 54 _ rfl)
       ·
        intro done ρ W hn hf hd h;have TF:=h.get 2 54 _ rfl (hd 2 (by kernel_rfl));clear hf;refine Bd rfl fun R9 aj=>?_;go_simp;exact aj _ _ (h.plain Li rfl H6 3 55 _ rfl)
       ·
        intro done ρ W hn hf hd h;have qs6:ρ 6= .int .i64 was:=hf 6 (by kernel_rfl);clear hf;refine Bd rfl fun R9 aj=>?_;go_simp;exact aj _ _ (h.plain Li rfl H6 4 56 _ rfl)
       ·
        intro done ρ W hn hf hd h;have qd3:=h.get 3 55 _ rfl (hd 3 (by kernel_rfl));have XP:=h.get 4 56 _ rfl (hd 4 (by kernel_rfl));clear hf;refine Bd rfl fun R9 aj=>?_;go_simp;exact aj _ _ (h.plain Li rfl H6 5 57 _ rfl)
       ·
        intro done ρ W hn hf hd h;have TH:=h.get 0 52 _ rfl (hd 0 (by kernel_rfl));have TE:=h.get 5 57 _ rfl (hd 5 (by kernel_rfl));have h0:=h.c0 hn;have FU:=hd 0 (by kernel_rfl);clear hf;refine Bd rfl fun R9 aj=>?_;go_simp;refine (J1 aa u0 pk (a - was) W h0 (Nat.le_trans EE h.b.size) (by omega) (by omega) hl8).mono ?_;rintro e w' ⟨v',rfl,gf,de,mj⟩;exact⟨v',rfl,aj _ _ (h.call1 Li rfl H6 hn FU gf de mj)⟩
       ·
        intro done ρ W hn hf hd h;have qs8:ρ 8= .pointer (some ⟨gs,0,none⟩):=hf 8 (by kernel_rfl);clear hf;refine Bd rfl fun R9 aj=>?_;go_simp;exact aj _ _ (h.plain Li rfl H6 7 59 _ rfl)
       ·
        intro done ρ W hn hf hd h;have qd7:=h.get 7 59 _ rfl (hd 7 (by kernel_rfl));obtain⟨t0,t1⟩:=(HFs.out.kept (by decide) h.k).cells;clear hf;refine Bd rfl fun R9 aj=>?_;go_simp;exact aj _ _ (h.plain Li rfl H6 8 60 _ rfl)
       ·
        intro done ρ W hn hf hd h;have qs8:ρ 8= .pointer (some ⟨gs,0,none⟩):=hf 8 (by kernel_rfl);clear hf;refine Bd rfl fun R9 aj=>?_;go_simp;exact aj _ _ (h.plain Li rfl H6 9 61 _ rfl)
       ·
        intro done ρ W hn hf hd h;have qd9:=h.get 9 61 _ rfl (hd 9 (by kernel_rfl));obtain⟨t0,t1⟩:=(HFs.out.kept (by decide) h.k).cells;clear hf;refine Bd rfl fun R9 aj=>?_;go_simp;exact aj _ _ (h.plain Li rfl H6 10 62 _ rfl)
       ·
        intro done ρ W hn hf hd h;have qd8:=h.get 8 60 _ rfl (hd 8 (by kernel_rfl));have qd10:=h.get 10 62 _ rfl (hd 10 (by kernel_rfl));clear hf;refine Bd rfl fun R9 aj=>?_;go_simp;exact aj _ _ (h.plain Li rfl H6 11 63 _ rfl)
       ·
        intro done ρ W hn hf hd h;have qd11:=h.get 11 63 _ rfl (hd 11 (by kernel_rfl));clear hf;refine Bd rfl fun R9 aj=>?_;go_simp;exact aj _ _ (h.plain Li rfl H6 12 64 _ rfl)
       ·
        intro done ρ W hn hf hd h;have qd12:=h.get 12 64 _ rfl (hd 12 (by kernel_rfl));have h1:=hd 6 (by kernel_rfl);have ik:=h.c1 h1 hn;clear hf;refine Bd rfl fun R9 aj=>?_;go_simp;refine (J1 aa _ (pk++nb (a - was).toNat) (b - a) W ik (Nat.le_trans EE h.b.size) (by omega) (by omega) si).mono ?_;rintro e w' ⟨v',rfl,gf,de,mj⟩;exact⟨v',rfl,aj _ _ (h.call2 Li rfl H6 hn h1 gf de mj)⟩
       ·
        intro done ρ W hn hf hd h;have h2:=hd 13 (by kernel_rfl);clear hf;refine Bd rfl fun R9 aj=>?_;go_simp;exact aj _ _ (h.lay Li rfl H6 h2 rfl)
      ·intro a' w6 cz ay hf h;have bf:Below aa ws w6:=h.b;have j8:=h.k;have mc:=h.c3 (by kernel_rfl);have h1:Ab a' 1= .slice (some ⟨bb,bo,none⟩) n c:=hf 1 (by kernel_rfl);have h2:Ab a' 2=undef:=hf 2 (by kernel_rfl);have h3:Ab a' 3=undef:=hf 3 (by kernel_rfl);have h4:Ab a' 4= .slice none 0 0:=hf 4 (by kernel_rfl);have h5:Ab a' 5= .int .i64 (j:Int):=hf 5 (by kernel_rfl);have h7:Ab a' 7= .int .i64 (k:Int):=hf 7 (by kernel_rfl);have h8:Ab a' 8= .pointer (some ⟨gs,0,none⟩):=hf 8 (by kernel_rfl);have h9:Ab a' 9=v0:=hf 9 (by kernel_rfl);have kb:Ab a' 10= .slice (some ⟨bb,bo,none⟩) n c:=hf 10 (by kernel_rfl);have ky:Ab a' 11= .int .i64 (n:Int):=hf 11 (by kernel_rfl);have jr:Ab a' 12=vn:=hf 12 (by kernel_rfl);have kw:Ab a' 13=f1 13:=hf 13 (by kernel_rfl);have jd:Ab a' 14=f1 14:=hf 14 (by kernel_rfl);have rl:Ab a' 15=f1 15:=hf 15 (by kernel_rfl);have nk:Ab a' 16=f1 16:=hf 16 (by kernel_rfl);have rk:Ab a' 17=f1 17:=hf 17 (by kernel_rfl);have rj:Ab a' 18=f1 18:=hf 18 (by kernel_rfl);have pe:Ab a' 19=f1 19:=hf 19 (by kernel_rfl);have ou:Ab a' 20=f1 20:=hf 20 (by kernel_rfl);have nj:Ab a' 21=f1 21:=hf 21 (by kernel_rfl);have pd:Ab a' 22=f1 22:=hf 22 (by kernel_rfl);have ri:Ab a' 23=f1 23:=hf 23 (by kernel_rfl);have uq:Ab a' 24=f1 24:=hf 24 (by kernel_rfl);have uo:Ab a' 25=f1 25:=hf 25 (by kernel_rfl);have un:Ab a' 26=f1 26:=hf 26 (by kernel_rfl);have yn:Ab a' 27=f1 27:=hf 27 (by kernel_rfl);have ym:Ab a' 28=f1 28:=hf 28 (by kernel_rfl);have yk:Ab a' 29=f1 29:=hf 29 (by kernel_rfl);have yj:Ab a' 30=f1 30:=hf 30 (by kernel_rfl);have yi:Ab a' 31=f1 31:=hf 31 (by kernel_rfl);have yh:Ab a' 32=f1 32:=hf 32 (by kernel_rfl);have yg:Ab a' 33=f1 33:=hf 33 (by kernel_rfl);have CR:Ab a' 69=undef:=hf 69 (by kernel_rfl);obtain⟨T,D⟩:=a';have hD:D= []:=cz;subst hD;obtain⟨f2,hT,df⟩:∃ f:Nat->Value,T=((List.range 70).map f).toArray/\Ab ⟨T, []⟩=f:=⟨_,Bm T 70 ay,rfl⟩;rw [df] at mc h1 h2 h3 h4 h5 h7 h8 h9 kb ky jr kw jd rl nk rk rj pe ou nj pd ri uq uo un yn ym yk yj yi yh yg CR;clear df ay hf h cz;simp only [List.range,List.range.loop,List.map] at hT;subst hT;rw [h1,h2,h3,h4,h5,h7,h8,h9,kb,ky,jr,kw,jd,rl,nk,rk,rj,pe,ou,nj,pd,ri,uq,uo,un,yn,ym,yk,yj,yi,yh,yg,CR];clear h1 h2 h3 h4 h5 h7 h8 h9 kb ky jr kw jd rl nk rk rj pe ou nj pd ri uq uo un yn ym yk yj yi yh yg CR;rw [Jm,qw.out] at mc;have p8:=Aa mc;have dx:=Aa (VJ.out.trans bf);have FE:=Aa (OI.out.trans j8);obtain⟨y0,y1⟩:=(HFs.out.kept (by decide) j8).cells;clear mc bf j8 EE;go_wp2_with fail;go_roundw
       case rel=>exact⟨k+1,by omega,by go_num,by rw [Hwn.out],p8,Hl8,dx.out,FE⟩
       case measure=>simp [intOf];omega
     ·obtain rfl:k=s.length:=by omega
      have z1:¬ (s.length:Int) < s.length:=by omega
      have pr:=Aa (show pk=pre++Ap ((n:Int) :: ((L.map Aq.pt).take (j+1)).flatMap Ca) by
       rw [JV.out,jx.out,JW.out,List.take_of_length_le (Nat.le_refl _),List.append_assoc,<-Au,List.append_assoc])
      go_wp2_with fail;go_roundw
      case rel=>
       refine⟨j+1,by omega,by go_num,?_,?_,EO,DH⟩
       ·rw [<-pr.out];exact vy
       ·rw [<-pr.out];exact Aa (by have:=BU.out;omega)
      case measure=>simp [intOf];omega
  ·obtain rfl:j=n:=by omega
   have z0:¬ (j:Int) < j:=by omega
   have pr:=Aa (show pj=pre++Ap (Az (L.map Aq.pt)) by
    rw [JW.out,List.take_of_length_le (by rw [List.length_map];exact Nat.le_of_eq Hn.out)]
    unfold Az
    rw [List.length_map,Hn.out])
   rw [pr.out] at uw;go_wp2_with fail;go_ret;exact Gu.mk uw.out hb HK.out
end Go.Proofs.YtmkpfdcnikgokaaGreat
