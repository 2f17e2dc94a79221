/-
  Texts of this claim, put together: CodeWrite, PastQ, CodeNext. What each theorem asks stands in its statement.
-/
import Derived.IntWalk
import Derived.Test.YtmkpfdcnikgokaaGreatMd1
import Derived.Test.YtmkpfdcnikgokaaGreatMd4
set_option linter.unusedVariables false
set_option linter.unusedSimpArgs false
set_option maxRecDepth 100000
set_option maxHeartbeats 25600000
namespace Go.Proofs.YtmkpfdcnikgokaaGreat
open Go.RowKit
def XB (w:World) (g:Nat) (a b c:Value):Prop:=w.heap[g]?=some (.cells #[a,b,c] 120 (0,0))
theorem Fh (w:World) (a b c:Value):∃ w2,w.alloc (.cells #[a,b,c] 120)=w2/\XB w2 w.heap.size a b c/\w.heap.size < w2.heap.size/\Below w.heap.size w w2:=
 ⟨_,rfl,heap_alloc_new _ _,by simp,Bf _ _⟩
theorem XB.cells {w:World} {g:Nat} {a b c:Value} (h:XB w g a b c):w.cell? ⟨g,0,none⟩=some a/\w.cell? ⟨g,1,none⟩=some b/\w.cell? ⟨g,2,none⟩=some c:=by
 refine⟨?_,?_,?_⟩ <;> (rw [cell_of_row _ _ _ _ _ _ h];rfl)
theorem XB.below {w w':World} {g:Nat} {a b c:Value} (h:XB w g a b c) (hb:Below w.heap.size w w'):XB w' g a b c:=(hb.block g (Array.getElem?_eq_some_iff.1 h).1).trans h
theorem XB.kept {w w':World} {g:Nat} {a b c:Value} (h:XB w g a b c) (hk:Dm w w'):XB w' g a b c:=hk g _ h (fun bh e=>by simp at e)
theorem FB.kept {w w':World} {g:Nat} {k t r s z:Value} (h:FB w g k t r s z) (hk:Dm w w'):FB w' g k t r s z:=hk g _ h (fun bh e=>by simp at e)
theorem Af0 {x:Rn} (h:J6 x) (ho:Gl x) {was:Int} (h0:0<=was) (h1:was < x.1):∀ a∈ [x.1 - was,x.2.1,x.2.2],0<=a/\a<=1099511627776:=by
 intro a ha;obtain⟨e1,e2,e3,e4,e5,e6⟩:=h;unfold Gl at ho;simp only [List.mem_cons,List.not_mem_nil,or_false] at ha;omega
theorem Mw (p:List Rn) (x:Rn) (was:Int):As was (p++ [x])=As was p++ [x.1 - B4 was p,x.2.1,x.2.2]:=by
 rw [Kz];rfl
theorem Nc (p:List Rn) (x:Rn) (was:Int):B4 was (p++ [x])=x.1+x.2.2 - 1:=by
 rw [Ir];rfl
theorem Nj:∀ (p:List Rn) (was:Int) (k:Nat),Jy was p->∀ h:k < p.length,B4 was (p.take k) < p[k].1/\(0<=was->0<=B4 was (p.take k))/\(was<=1073741824->B4 was (p.take k)<=1073741824)
 | [],_,_,_,h=>by simp at h
 | x :: p,was,0,hg,_=>by
   obtain⟨h1,-⟩:=hg;exact⟨by simp [B4];omega,fun h=>h,fun h=>h⟩
 | x :: p,was,k+1,hg,h=>by
   obtain⟨h1,h2,h3,h4,h5,h6,h7,h8⟩:=hg;obtain⟨q1,q2,q3⟩:=Nj p (x.1+x.2.2 - 1) k h8 (by simpa using h);exact⟨by simpa [B4] using q1,fun _=>by simpa [B4] using q2 (by omega),fun _=>by simpa [B4] using q3 (by omega)⟩
theorem T7:∀ (p:List Rn) (was:Int) (j:Nat),Jy was p->Jy was (p.take j)
 | [],_,_,_=>by simp [Jy]
 | x :: p,was,0,_=>by simp [Jy]
 | x :: p,was,j+1,h=>by
   obtain⟨h1,h2,h3,h4,h5,h6,h7,h8⟩:=h;exact⟨h1,h2,h3,h4,h5,h6,h7,T7 p _ j h8⟩
theorem T3:∀ (p:List Rn) (was:Int),(As was p).length=3 * p.length
 | [],_=>rfl
 | x :: p,was=>by simp [As,T3 p];omega
def X6 (k t r:Int) (p:List Rn) (z:Int):List UInt8:=if Dz k t r p z then Je k t r p z else []
theorem Sg {k:Int} {p:List Rn} (hk:0<=k/\k<=4) (hp:E9 p) (ho:∀ x∈p,Gl x) (j:Nat):(Ap ([k,(p.length:Int)]++As 0 (p.take j))).length<=6 * 194:=by
 have h1:=hp.2.1;refine Nat.le_trans (Bu fun a ha=>?_) ?_
 ·rcases List.mem_append.1 ha with h | h
  ·simp only [List.mem_cons,List.not_mem_nil,or_false] at h;omega
  ·have hg:Jy 0 (p.take j):=by
    have:=Kg hp ho;exact T7 p 0 j this
   have:=Nk _ _ hg a h;omega
 ·rw [List.length_append,T3,List.length_take];simp only [List.length_cons,List.length_nil];omega
theorem W6 (k t r z:Int) (A:Option Addr) (n c:Nat) (p:List Rn) (w:World) (hr:RR w w.heap.size A p) (hn:p.length=n) (hl:n < 1073741824) (ax:∀ x∈p,Gl x) (k0:0<=k) (hi:X5 (t,r)):
 Calls Tryz.prog 85 #[Gq k t r A n c z] w fun e w'=>∃ v,e= .returned (.tuple #[v,.int .i64 (Gt k t r p z)])/\w'.ownsRow w.heap.size 5 1 v (X6 k t r p z).length (Cw (X6 k t r p z))/\Below w.heap.size w w':=by
 obtain⟨w1,au,F1,af,ac⟩:=Cv w (.int .u8 k) (.int .u32 t) (.int .u8 r) (.slice A n c) (.int .i64 z);obtain⟨a0,a1,a2,a3,a4⟩:=F1.cells;have hE:=Aa (Ku k t r z A n c p w1 (hr.below' ac) hn hl ax k0);by_cases hm:Dz k t r p z;rotate_left
 ·rw [show Gt k t r p z=8 from if_neg hm] at hE;have hv:=Aa (And.intro (show Gt k t r p z=8 from if_neg hm) (show X6 k t r p z= [] from if_neg hm));clear hm F1;go_enter Tryz.func85,Tryz.ntmps85;go_wp2_with fail;refine hE.out.mono ?_;rintro e w2 ⟨rfl,ae⟩;go_wp2_with fail;refine bodyPost_ret (v:= .tuple #[.slice none 0 0,.int .i64 8]) (by simp [results,Tryz.results85,go_sem]) rfl ?_;exact⟨_,by rw [hv.out.1],by rw [hv.out.2];exact World.ownsRow_nil _ _ _ _,Ad ac ae⟩
 rw [show Gt k t r p z=0 from if_pos hm] at hE;have hv:=Aa (And.intro (show Gt k t r p z=0 from if_pos hm) (show X6 k t r p z=Je k t r p z from if_pos hm));have Hm:=Aa hm;have Ok:=Aa ax;have hn64:n<=64:=by have:=hm.2.1.2.1;omega
 have Hn:=Aa hn;have th:1<=k/\k<=4:=by
  have:=hm.2.2;unfold Cl at this;omega
 have Hi:=Aa hi;have ls:=Aa (fun j=>Sg (k:=k) (by omega) hm.2.1 ax j);have MH:=Aa (Kg hm.2.1 ax);have az:=Aa F1;have hconv:IntKind.i64.wrap k=k:=IntWalk.i64_in _ (by omega);clear hm ax hn hi F1;go_enter Tryz.func85,Tryz.ntmps85;go_wp2_with fail;refine hE.out.mono ?_;rintro e w2 ⟨rfl,ae⟩;have al:=Ad ac ae;have db:=Aa (az.out.below ae);clear a0 a1 a2 a3 a4;obtain⟨a0,a1,a2,a3,a4⟩:=db.out.cells;go_wp2_with fail;refine (K7 _ [] w.heap.size w2.heap.size 2 [k,(n:Int)] _ (World.ownsRow_nil _ _ _ _) ?_ (heap_alloc_new _ _) ?_ ?_).mono ?_
 ·simp;have:=al.size;omega
 ·intro a ha;simp only [List.mem_cons,List.not_mem_nil,or_false] at ha;omega
 ·simp
 rintro e w3 ⟨v3,rfl,dm,ag,ui⟩;have du:Below w.heap.size w w3:=(al.alloc al.size _).trans ag;have bz:=Aa (db.out.below (Bf _ _) |>.kept ui);clear a0 a1 a2 a3 a4 ag ui;obtain⟨a0,a1,a2,a3,a4⟩:=bz.out.cells;simp only [List.nil_append] at dm;go_wp2_with fail
 go_loopw [5,6,25] (fun u v i wr=>∃ j:Nat,j<=n/\i= .int .i64 (j:Int)/\v= .int .i64 (B4 0 (p.take j))/\wr.ownsRow w.heap.size 5 1 u (Ap ([k,(n:Int)]++As 0 (p.take j))).length (Cw (Ap ([k,(n:Int)]++As 0 (p.take j))))/\Hid (FB wr w.heap.size (.int .u8 k) (.int .u32 t) (.int .u8 r) (.slice A n c) (.int .i64 z))/\Below w.heap.size w wr) (fun _ _ i _=>n - (intOf i).toNat)
 case atStart=>exact⟨0,by omega,rfl,rfl,by simpa [As] using dm,bz,du⟩
 case round=>
  obtain⟨j,hj,rfl,rfl,ah,hF,hb⟩:=hrel;clear a0 a1 a2 a3 a4 bz db;by_cases ai:j < n
  ·have rv:j < p.length:=by have:=Hn.out;omega
   obtain⟨bA,oA,rfl,hB,hC⟩:=RR.cell (RD.below hr hb) (by omega);obtain⟨d0,d1,d2⟩:=hC j rv;obtain⟨t1,GY⟩:∃ x,p[j].1=x:=⟨_,rfl⟩;obtain⟨r1,rh⟩:∃ x,p[j].2.1=x:=⟨_,rfl⟩;obtain⟨m1,EK⟩:∃ x,p[j].2.2=x:=⟨_,rfl⟩;obtain⟨g1,g2,g3⟩:=Nj p 0 j MH.out rv;replace g2:=g2 (Int.le_refl _);replace g3:=g3 (by decide);obtain⟨e1,e2,e3,e4,e5,e6⟩:=Eh Hm.out.2.1.2.2.1 p[j] (List.getElem_mem rv);have JP:=Ok.out p[j] (List.getElem_mem rv);unfold Gl at JP;have hnx:As 0 (p.take (j+1))=As 0 (p.take j)++ [t1 - B4 0 (p.take j),r1,m1]:=by rw [List.take_succ_eq_append_getElem rv,Mw,GY,rh,EK]
   have EG:B4 0 (p.take (j+1))=t1+m1 - 1:=by rw [List.take_succ_eq_append_getElem rv,Nc,GY,EK]
   have qw:=Aa (And.intro hnx EG);rw [GY] at d0 g1 e1 e2 e6 JP;rw [rh] at d1 e3 JP;rw [EK] at d2 e4 e5 e6 JP;have HP:=ls.out j;rw [Hn.out] at HP;obtain⟨ws,vb⟩:∃ x,B4 0 (p.take j)=x:=⟨_,rfl⟩;rw [vb] at g1 g2 g3 qw |-;obtain⟨q1,q2,q3,q4,q5,q6⟩:=JP;have z0:(j:Int) < n:=by omega
   have xi:IntKind.i64.wrap t1=t1:=IntWalk.i64_in _ (by omega);have ku:IntKind.i64.wrap r1=r1:=IntWalk.i64_in _ (by omega);have BQ:IntKind.i64.wrap (t1 - ws)=t1 - ws:=IntWalk.i64_in _ (by omega);have hc4:IntKind.i64.wrap (t1+m1)=t1+m1:=IntWalk.i64_in _ (by omega);have hc5:IntKind.i64.wrap (t1+m1 - 1)=t1+m1 - 1:=IntWalk.i64_in _ (by omega);obtain⟨wx,AB,FX,EI,el⟩:=Fh wr (.int .u32 t1) (.int .u8 r1) (.int .i64 m1);obtain⟨x0,x1,x2⟩:=FX.cells;have IG:=Aa FX;have qt:=Aa HP;clear GY rh EK hnx EG vb HP FX hC;go_wp2_with fail;refine (K7 _ (Ap ([k,(n:Int)]++As 0 (p.take j))) w.heap.size wx.heap.size 3 [t1 - ws,r1,m1] _ (World.ownsRow.alloc (Ai ah el (Nat.le_refl _)) _) ?_ (heap_alloc_new _ _) ?_ ?_).mono ?_
   ·have:=hb.size;have:=el.size;simp;omega
   ·intro a ha;simp only [List.mem_cons,List.not_mem_nil,or_false] at ha;omega
   ·have:=qt.out;simp only [List.length_cons,List.length_nil];omega
   rintro e w5 ⟨v5,rfl,ey,bq,TX⟩;have jg:Below w.heap.size w w5:=((hb.trans (el.mono hb.size)).alloc (Nat.le_trans hb.size el.size) _).trans bq;have hF5:=Aa (((hF.out.below el).below (Bf _ _)).kept TX);have hX5:=(IG.out.below (Bf wx _)).kept TX;clear x0 x1 x2 bq TX AB;obtain⟨x0,x1,x2⟩:=hX5.cells;rw [<-Au,List.append_assoc] at ey;clear hX5;go_wp2_with fail;go_roundw
   case rel=>
    refine⟨j+1,by omega,by go_num,by rw [qw.out.2],?_,hF5,jg⟩;rw [qw.out.1];exact ey
   case measure=>simp [intOf];omega
  ·have hz:¬ (j:Int) < n:=by omega
   have CJ:j=n:=by omega
   have TS:p.take j=p:=List.take_of_length_le (by have:=Hn.out;omega)
   have qt:=Aa (show (Ap ([k,(n:Int)]++As 0 p)).length<=6 * 194 by
    have:=ls.out j
    rwa [TS,Hn.out] at this)
   rw [TS] at ah |-;subst CJ;have FR:=Ja Hm.out.2.1 0;have pm:=Ev Hm.out.2.1;have e8:Je k t r p z=Ap ([k,(j:Int)]++(As 0 p++Bb k t r (B4 0 p) z)):=by
    unfold Je Ji;rw [Hn.out];rfl
   have VM:0<=B4 0 p:=by omega
   have EJ:=Hm.out.2.2;have TY:=Hi.out;obtain⟨mi1,mi2,mi3⟩:=Hm.out.1;unfold X5 at TY;simp only at TY;obtain⟨ws,vb⟩:∃ x,B4 0 p=x:=⟨_,rfl⟩;rw [vb] at FR VM e8 |-;clear vb TS ai;obtain⟨a0,a1,a2,a3,a4⟩:=hF.out.cells;have hkk:k=1\/k=2\/(k=3\/k=4):=by omega
   rcases hkk with rfl | rfl | hkk
   ·have IJ:0<=z/\z<=1114111:=by
     rcases EJ with⟨-,-,h⟩ | ⟨h,-⟩ | ⟨h,-⟩
     ·exact⟨h.1,h.2.1⟩
     ·omega
     ·omega
    have BS:=Aa (show Je 1 t r p z=Ap ([1,(j:Int)]++(As 0 p++ [z])) by rw [e8];rfl);clear e8 FR pm EJ;go_wp2_with fail;refine (K7 _ (Ap ([1,(j:Int)]++As 0 p)) w.heap.size wr.heap.size 1 [z] _ (World.ownsRow.alloc ah _) ?_ (heap_alloc_new _ _) ?_ ?_).mono ?_
    ·have:=hb.size;simp;omega
    ·intro a ha;simp only [List.mem_cons,List.not_mem_nil,or_false] at ha;omega
    ·have:=qt.out;simp only [List.length_cons,List.length_nil];omega
    rintro e w5 ⟨v5,rfl,ey,bq,-⟩;have jg:Below w.heap.size w w5:=(hb.alloc hb.size _).trans bq;rw [<-Au,List.append_assoc] at ey;go_wp2_with fail;refine bodyPost_ret (v:= .tuple #[v5,.int .i64 0]) (by simp [results,Tryz.results85,go_sem]) rfl ?_;exact⟨_,by rw [hv.out.1],by rw [hv.out.2,BS.out];exact ey,jg⟩
   ·have BS:=Aa (show Je 2 t r p z=Ap ([2,(j:Int)]++As 0 p) by rw [e8];simp [Bb]);clear e8 FR pm EJ;go_wp2_with fail;refine bodyPost_ret (v:= .tuple #[_,.int .i64 0]) (by simp [results,Tryz.results85,go_sem];rfl) rfl ?_;exact⟨_,by rw [hv.out.1],by rw [hv.out.2,BS.out];exact ah,hb⟩
   ·have OS:ws < t:=by
     rcases EJ with⟨h,-⟩ | ⟨h,-⟩ | ⟨-,-,h⟩
     ·omega
     ·omega
     ·omega
    have BS:=Aa (show Je k t r p z=Ap ([k,(j:Int)]++(As 0 p++ [t - ws,r])) by rw [e8];unfold Bb;rw [if_neg (by omega),if_neg (by omega)]);have xi:IntKind.i64.wrap t=t:=IntWalk.i64_in _ (by omega);have ku:IntKind.i64.wrap r=r:=IntWalk.i64_in _ (by omega);have BQ:IntKind.i64.wrap (t - ws)=t - ws:=IntWalk.i64_in _ (by omega);obtain⟨i1,i2,i3,i4⟩:=TY;clear e8 FR pm EJ;rcases hkk with rfl | rfl
    ·go_wp2_with fail;refine (K7 _ (Ap ([3,(j:Int)]++As 0 p)) w.heap.size wr.heap.size 2 [t - ws,r] _ (World.ownsRow.alloc ah _) ?_ (heap_alloc_new _ _) ?_ ?_).mono ?_
     ·have:=hb.size;simp;omega
     ·intro a ha;simp only [List.mem_cons,List.not_mem_nil,or_false] at ha;omega
     ·have:=qt.out;simp only [List.length_cons,List.length_nil];omega
     rintro e w5 ⟨v5,rfl,ey,bq,-⟩;have jg:Below w.heap.size w w5:=(hb.alloc hb.size _).trans bq;rw [<-Au,List.append_assoc] at ey;go_wp2_with fail;refine bodyPost_ret (v:= .tuple #[v5,.int .i64 0]) (by simp [results,Tryz.results85,go_sem]) rfl ?_;exact⟨_,by rw [hv.out.1],by rw [hv.out.2,BS.out];exact ey,jg⟩
    ·go_wp2_with fail;refine (K7 _ (Ap ([4,(j:Int)]++As 0 p)) w.heap.size wr.heap.size 2 [t - ws,r] _ (World.ownsRow.alloc ah _) ?_ (heap_alloc_new _ _) ?_ ?_).mono ?_
     ·have:=hb.size;simp;omega
     ·intro a ha;simp only [List.mem_cons,List.not_mem_nil,or_false] at ha;omega
     ·have:=qt.out;simp only [List.length_cons,List.length_nil];omega
     rintro e w5 ⟨v5,rfl,ey,bq,-⟩;have jg:Below w.heap.size w w5:=(hb.alloc hb.size _).trans bq;rw [<-Au,List.append_assoc] at ey;go_wp2_with fail;refine bodyPost_ret (v:= .tuple #[v5,.int .i64 0]) (by simp [results,Tryz.results85,go_sem]) rfl ?_;exact⟨_,by rw [hv.out.1],by rw [hv.out.2,BS.out];exact ey,jg⟩
structure WQ (P:Program) (ops:Array Oper) (C:World->Prop) (Q:Act->Prop) (l:List Oper) (a:Act):Prop where
 out:wpQuiet P ops C Q l a
theorem WQ.step {P:Program} {ops:Array Oper} {C:World->Prop} {Q:Act->Prop} {a:Act} {o:Oper} {rest:List Oper}
 (h:∀ K:Act->Prop,(∀ a,WQ P ops C Q rest a->K a)->if Region.wanted o (yielded ops a.tmps) then o.quiet P a C K else K (a.put o.dst undef)):WQ P ops C Q (o :: rest) a:=
 ⟨wpQuiet_step fun K hK=>h K fun a ha=>hK a ha.out⟩
theorem WQ.nil {P:Program} {ops:Array Oper} {C:World->Prop} {Q:Act->Prop} {a:Act} (h:Q a):WQ P ops C Q [] a:=⟨wpQuiet_nil h⟩
theorem Aj {P:Program} {id:Nat} {Q:Exit->Act->World->Prop} {a:Act} {w:World} {l:List Oper} (hm:P.follows .mixedOrders=true) (hB:Region.lexB .any l.toArray=true)
 (h:WQ P l.toArray (fun w'=>∃ u,w'=Bs w u) (fun a'=>∀ u,Q .normal a' (Bs w u)) l a):(Code.region id l.toArray true).wp P Q a w:=by
 refine Ei hm hB ?_;have:=h.out;simpa only [forall_exists_index,forall_eq_apply_imp_iff] using this
theorem RB.sub {w:World} {B b o:Nat} {l:List UInt8} (h:RB w B (some ⟨b,o,none⟩) l) (i j:Nat) (hj:j<=l.length):RB w B (some ⟨b,o+i,none⟩) ((l.take j).drop i):=by
 refine⟨by rw [Ob,Nat.mul_one],fun hn=>?_⟩;have hl:0 < l.length:=by rw [List.length_drop,List.length_take] at hn;omega
 obtain⟨b',o',e,hb,hc⟩:=h.2 hl;cases e;refine⟨b,o+i,rfl,hb,fun k u hu=>?_⟩;rw [<-Tq,<-Pb,List.getElem?_drop,List.getElem?_take] at hu;split at hu
 ·rw [Nat.add_assoc];exact hc _ _ hu
 ·cases hu
def Ah (g:Nat) (w w':World):Prop:=Below g w w'/\∀ k,k≠g->k < w.heap.size->w'.heap[k]?=w.heap[k]?
theorem Ah.refl (g:Nat) (w:World):Ah g w w:=⟨Below.refl _ _,fun _ _ _=>rfl⟩
theorem Ah.trans {g:Nat} {a b c:World} (h:Ah g a b) (k:Ah g b c):Ah g a c:=
 ⟨h.1.trans k.1,fun x hx hl=>(k.2 x hx (Nat.lt_of_lt_of_le hl h.1.size)).trans (h.2 x hx hl)⟩
theorem Ah.below {g:Nat} {a b:World} (h:Below a.heap.size a b) (hg:g<=a.heap.size):Ah g a b:=⟨h.mono hg,fun x _ hl=>h.block x hl⟩
theorem Ah.set (g off:Nat) (w:World) (v:Value):Ah g w (w.setCell ⟨g,off,none⟩ v):=⟨(Below.refl g w).setCell (p:=⟨g,off,none⟩) (Nat.le_refl _) _,fun _ hx _=>heap_setCell_other _ _ _ _ hx⟩
theorem FB.only {w w':World} {g g':Nat} {k t r s z:Value} (h:FB w g k t r s z) (ho:Ah g' w w') (ak:g≠g'):FB w' g k t r s z:=(ho.2 g ak h.lt).trans h
def Fr (w:World) (g:Nat) (A:Option Addr) (n c ub:Nat) (bad:Bool):Prop:=w.heap[g]?=some (.cells #[.slice A n c,.int .i64 (ub:Int),.bool bad] 178 (0,0))
theorem Fr.lt {w:World} {g n c ub:Nat} {A:Option Addr} {bad:Bool} (h:Fr w g A n c ub bad):g < w.heap.size:=(Array.getElem?_eq_some_iff.1 h).1
theorem Fr.cells {w:World} {g n c ub:Nat} {A:Option Addr} {bad:Bool} (h:Fr w g A n c ub bad):w.cell? ⟨g,0,none⟩=some (.slice A n c)/\w.cell? ⟨g,1,none⟩=some (.int .i64 (ub:Int))/\w.cell? ⟨g,2,none⟩=some (.bool bad):=by
 refine⟨?_,?_,?_⟩ <;> (rw [cell_of_row _ _ _ _ _ _ h];rfl)
theorem Fr.below {w w':World} {g n c ub:Nat} {A:Option Addr} {bad:Bool} (h:Fr w g A n c ub bad) (hb:Below w.heap.size w w'):Fr w' g A n c ub bad:=(hb.block g h.lt).trans h
theorem Fr.set1 {w:World} {g n c ub:Nat} {A:Option Addr} {bad:Bool} (h:Fr w g A n c ub bad) (a2:Nat):Fr (w.setCell ⟨g,1,none⟩ (.int .i64 (a2:Int))) g A n c a2 bad:=heap_setCell_same _ _ _ _ _ _ h
theorem Fr.set2 {w:World} {g n c ub:Nat} {A:Option Addr} {bad:Bool} (h:Fr w g A n c ub bad) (b2:Bool):Fr (w.setCell ⟨g,2,none⟩ (.bool b2)) g A n c ub b2:=heap_setCell_same _ _ _ _ _ _ h
theorem Abd (A:Option Addr) (n c g ub:Nat) (lo hi:Int) (w:World) (h:Fr w g A n c ub true):
 Calls Tryz.prog 135 #[.pointer (some ⟨g,0,none⟩),.int .i64 lo,.int .i64 hi] w fun e w'=>e= .returned (.int .i64 lo)/\w'=w:=by
 obtain⟨c0,c1,c2⟩:=h.cells;go_enter Tryz.func135,Tryz.ntmps135;go_wp2_with fail;go_ret;exact⟨rfl,rfl⟩
theorem Pk (A:Option Addr) (n c:Nat) (l:List UInt8) (w u:World) (hr:RB w w.heap.size A l) (hn:l.length=n) (hl:n < 1073741824):
 Calls Tryz.prog 99 #[.slice A n c] (Bs w u) fun e w'=>e= .returned (Fp (Ew l))/\Below (Bs w u).heap.size (Bs w u) w':=by
 subst hn;refine (Sr A c l (Bs w u) ((RD.below hr (Af w u)).more (Af w u).size) hl).mono ?_;rintro e w' ⟨he,rfl⟩;exact⟨he,Below.refl _ _⟩
theorem Abb (b0 o0:Nat) (b:List UInt8) (n c g a:Nat) (lo hi:Int) (w:World) (h:Fr w g (some ⟨b0,o0,none⟩) n c a false) (hr:RB w w.heap.size (some ⟨b0,o0,none⟩) b) (hn:b.length=n) (hl:n < 1073741824) (ha:a<=n) (hc:n<=c) (px:c≠a):
 Calls Tryz.prog 135 #[.pointer (some ⟨g,0,none⟩),.int .i64 lo,.int .i64 hi] w fun e w'=>∃ x a' bd,e= .returned (.int .i64 x)/\Fr w' g (some ⟨b0,o0,none⟩) n c a' bd/\Ah g w w'/\a'<=n/\
  (∀ y q,Eb b a lo hi=some (y,q)->x=y/\a'=q/\bd=false)/\(Eb b a lo hi=none->x=lo/\bd=true):=by
 obtain⟨c0,c1,c2⟩:=h.cells;have ai:=h.lt;have xe:RB w w.heap.size (some ⟨b0,o0+a,none⟩) (b.drop a):=by
  have:=hr.sub a b.length (Nat.le_refl _);rwa [List.take_length] at this
 have G:=Aa (fun u=>Pk (some ⟨b0,o0+a,none⟩) (n - a) (c - a) (b.drop a) w u xe (by rw [List.length_drop,hn]) (by omega));have hR:=Aa h;have z1:(0:Int)<=a:=by omega
 have z2:(a:Int)<=n:=by omega
 have z3:(n:Int)<=c:=by omega
 have z4:(a:Int)<=c:=by omega
 clear hr xe h
 cases hg:Ew (b.drop a) with
 | none=>
   rw [hg] at G;have hx:Eb b a lo hi=none:=by unfold Eb;rw [hg]
   have Hx:=Aa hx;have Ha:=Aa ha;unfold Fp at G;clear hg hx hn;go_enter Tryz.func135,Tryz.ntmps135;go_wp2_with fail;refine Aj (by kernel_rfl) (by kernel_rfl) ?_
   repeat (
    refine WQ.step (fun K hK=>?_)
    go_simp
    first
     | (refine hK _ ?_;clear hK K)
     | (apply Exists.intro
        refine⟨fun _=>?_,hK _ ?_⟩
        (go_at_call 99;with_reducible exact Al (Ag G _))
        clear hK K))
   refine WQ.nil ?_;intro u;have ac:=Af w u;have ik:=hR.out.below ac;have pc:=Ah.below ac (Nat.le_of_lt ai);generalize Bs w u=W at ac ik pc |-;clear c0 c1 c2 ac;obtain⟨c0,c1,c2⟩:=ik.cells;have f1:=frozen_of_row W g 1 _ _ ik;have f2:=frozen_of_row W g 2 _ _ ik;have sw:=ik.set1 a;have dy:=pc.trans (Ah.set g 1 W (.int .i64 ((a:Nat):Int)));have su:=sw.set2 true;have gj:=dy.trans (Ah.set g 2 _ (.bool true));have uv:=Aa su;have im:=Aa gj;clear ik pc sw dy su gj;go_wp2_with fail;refine bodyPost_ret (v:= .int .i64 lo) (by simp [results,Tryz.results135,go_sem]) rfl ?_;exact⟨_,a,true,rfl,uv.out,im.out,Ha.out,fun y q e=>(by rw [Hx.out] at e;cases e),fun _=>⟨rfl,rfl⟩⟩
 | some q=>
   obtain⟨v,s⟩:=q;obtain⟨v1,v2,-,-⟩:=D6 hg;rw [List.length_drop,hn] at v2;rw [hg] at G;unfold Fp at G;have zw:IntKind.i64.wrap ((a:Int)+(s:Int))=(a:Int)+(s:Int):=IntWalk.i64_in _ (by omega);have hcast:((a+s:Nat):Int)=(a:Int)+(s:Int):=by omega
   have Ha:=Aa (show a+s<=n by omega);by_cases h1:(v:Int) < lo
   ·have Hx:=Aa (show Eb b a lo hi=none by unfold Eb;rw [hg];exact if_pos (.inl h1));clear hg hn;go_enter Tryz.func135,Tryz.ntmps135;go_wp2_with fail;refine Aj (by kernel_rfl) (by kernel_rfl) ?_
    repeat (
     refine WQ.step (fun K hK=>?_)
     go_simp
     first
      | (refine hK _ ?_;clear hK K)
      | (apply Exists.intro
         refine⟨fun _=>?_,hK _ ?_⟩
         (go_at_call 99;with_reducible exact Al (Ag G _))
         clear hK K))
    refine WQ.nil ?_;intro u;have ac:=Af w u;have ik:=hR.out.below ac;have pc:=Ah.below ac (Nat.le_of_lt ai);generalize Bs w u=W at ac ik pc |-;clear c0 c1 c2 ac;obtain⟨c0,c1,c2⟩:=ik.cells;have f1:=frozen_of_row W g 1 _ _ ik;have f2:=frozen_of_row W g 2 _ _ ik;have sw:=ik.set1 (a+s);have dy:=pc.trans (Ah.set g 1 W (.int .i64 (((a+s):Nat):Int)));have su:=sw.set2 true;have gj:=dy.trans (Ah.set g 2 _ (.bool true));have uv:=Aa su;have im:=Aa gj;clear ik pc sw dy su gj;go_wp2_with fail;refine bodyPost_ret (v:= .int .i64 lo) (by simp [results,Tryz.results135,go_sem]) rfl ?_;exact⟨_,(a+s),true,rfl,uv.out,im.out,Ha.out,fun y q e=>(by rw [Hx.out] at e;cases e),fun _=>⟨rfl,rfl⟩⟩
   by_cases h2:hi < (v:Int)
   ·have Hx:=Aa (show Eb b a lo hi=none by unfold Eb;rw [hg];exact if_pos (.inr h2));clear hg hn;go_enter Tryz.func135,Tryz.ntmps135;go_wp2_with fail;refine Aj (by kernel_rfl) (by kernel_rfl) ?_
    repeat (
     refine WQ.step (fun K hK=>?_)
     go_simp
     first
      | (refine hK _ ?_;clear hK K)
      | (apply Exists.intro
         refine⟨fun _=>?_,hK _ ?_⟩
         (go_at_call 99;with_reducible exact Al (Ag G _))
         clear hK K))
    refine WQ.nil ?_;intro u;have ac:=Af w u;have ik:=hR.out.below ac;have pc:=Ah.below ac (Nat.le_of_lt ai);generalize Bs w u=W at ac ik pc |-;clear c0 c1 c2 ac;obtain⟨c0,c1,c2⟩:=ik.cells;have f1:=frozen_of_row W g 1 _ _ ik;have f2:=frozen_of_row W g 2 _ _ ik;have sw:=ik.set1 (a+s);have dy:=pc.trans (Ah.set g 1 W (.int .i64 (((a+s):Nat):Int)));have su:=sw.set2 true;have gj:=dy.trans (Ah.set g 2 _ (.bool true));have uv:=Aa su;have im:=Aa gj;clear ik pc sw dy su gj;go_wp2_with fail;refine bodyPost_ret (v:= .int .i64 lo) (by simp [results,Tryz.results135,go_sem]) rfl ?_;exact⟨_,(a+s),true,rfl,uv.out,im.out,Ha.out,fun y q e=>(by rw [Hx.out] at e;cases e),fun _=>⟨rfl,rfl⟩⟩
   have Hx:=Aa (show Eb b a lo hi=some ((v:Int),a+s) by unfold Eb;rw [hg];exact if_neg (by omega));clear hg hn;go_enter Tryz.func135,Tryz.ntmps135;go_wp2_with fail;refine Aj (by kernel_rfl) (by kernel_rfl) ?_
   repeat (
    refine WQ.step (fun K hK=>?_)
    go_simp
    first
     | (refine hK _ ?_;clear hK K)
     | (apply Exists.intro
        refine⟨fun _=>?_,hK _ ?_⟩
        (go_at_call 99;with_reducible exact Al (Ag G _))
        clear hK K))
   refine WQ.nil ?_;intro u;have ac:=Af w u;have ik:=hR.out.below ac;have pc:=Ah.below ac (Nat.le_of_lt ai);generalize Bs w u=W at ac ik pc |-;clear c0 c1 c2 ac;obtain⟨c0,c1,c2⟩:=ik.cells;have f1:=frozen_of_row W g 1 _ _ ik;have f2:=frozen_of_row W g 2 _ _ ik;have sw:=ik.set1 (a+s);have dy:=pc.trans (Ah.set g 1 W (.int .i64 (((a+s):Nat):Int)));have su:=sw.set2 false;have gj:=dy.trans (Ah.set g 2 _ (.bool false));have uv:=Aa su;have im:=Aa gj;clear ik pc sw dy su gj;have Hdd:=Aa (show (decide ((v:Int) < lo) || decide (hi < (v:Int)))=false by simp;omega);go_wp2_with fail;refine bodyPost_ret (v:= .int .i64 (v:Int)) (by simp [results,Tryz.results135,go_sem]) rfl ?_;exact⟨_,(a+s),false,rfl,by rw [Hdd.out];exact uv.out,by rw [Hdd.out];exact im.out,Ha.out,fun y q e=>(by rw [Hx.out] at e;simp only [Option.some.injEq,Prod.mk.injEq] at e;exact⟨e.1,e.2,rfl⟩),fun e=>(by rw [Hx.out] at e;cases e)⟩
theorem Abc (A:Option Addr) (b:List UInt8) (n g:Nat) (lo hi:Int) (w:World) (h:Fr w g A n n n false) (hn:b.length=n) (hl:n < 1073741824):
 Calls Tryz.prog 135 #[.pointer (some ⟨g,0,none⟩),.int .i64 lo,.int .i64 hi] w fun e w'=>∃ x a' bd,e= .returned (.int .i64 x)/\Fr w' g A n n a' bd/\Ah g w w'/\a'<=n/\
  (∀ y q,Eb b n lo hi=some (y,q)->x=y/\a'=q/\bd=false)/\(Eb b n lo hi=none->x=lo/\bd=true):=by
 obtain⟨c0,c1,c2⟩:=h.cells;have ai:=h.lt;have G:=Aa (fun u=>Pk A 0 0 [] w u RD.nil_ rfl (by omega));have hR:=Aa h;have z1:(0:Int)<=n:=by omega
 have z2:(n:Int)<=n:=by omega
 have Hx:=Aa (show Eb b n lo hi=none by
  unfold Eb
  rw [List.drop_eq_nil_of_le (by omega)]
  rfl)
 have Ha:=Aa (Nat.le_refl n);have EN:Ew []=none:=rfl;rw [EN] at G;unfold Fp at G;clear h hn EN;go_enter Tryz.func135,Tryz.ntmps135;go_wp2_with fail;refine Aj (by kernel_rfl) (by kernel_rfl) ?_
 repeat (
  refine WQ.step (fun K hK=>?_)
  go_simp
  first
   | (refine hK _ ?_;clear hK K)
   | (apply Exists.intro
      refine⟨fun _=>?_,hK _ ?_⟩
      (go_at_call 99;with_reducible exact Al (Ag G _))
      clear hK K))
 refine WQ.nil ?_;intro u;have ac:=Af w u;have ik:=hR.out.below ac;have pc:=Ah.below ac (Nat.le_of_lt ai);generalize Bs w u=W at ac ik pc |-;clear c0 c1 c2 ac;obtain⟨c0,c1,c2⟩:=ik.cells;have f1:=frozen_of_row W g 1 _ _ ik;have f2:=frozen_of_row W g 2 _ _ ik;have sw:=ik.set1 n;have dy:=pc.trans (Ah.set g 1 W (.int .i64 ((n:Nat):Int)));have su:=sw.set2 true;have gj:=dy.trans (Ah.set g 2 _ (.bool true));have uv:=Aa su;have im:=Aa gj;clear ik pc sw dy su gj;go_wp2_with fail;refine bodyPost_ret (v:= .int .i64 lo) (by simp [results,Tryz.results135,go_sem]) rfl ?_;exact⟨_,n,true,rfl,uv.out,im.out,Ha.out,fun y q e=>(by rw [Hx.out] at e;cases e),fun _=>⟨rfl,rfl⟩⟩
theorem Y1 (q:Addr) (c g:Nat) (lo hi:Int) (w:World) (h:Fr w g (some q) 0 c 0 false) (px:¬ c=0):
 Calls Tryz.prog 135 #[.pointer (some ⟨g,0,none⟩),.int .i64 lo,.int .i64 hi] w fun e w'=>∃ x a' bd,e= .returned (.int .i64 x)/\Fr w' g (some q) 0 c a' bd/\Ah g w w'/\a'<=0/\
  (∀ y q,Eb [] 0 lo hi=some (y,q)->x=y/\a'=q/\bd=false)/\(Eb [] 0 lo hi=none->x=lo/\bd=true):=by
 obtain⟨blk,off,sp⟩:=q;obtain⟨c0,c1,c2⟩:=h.cells;have ai:=h.lt;have G:=Aa (fun u=>Pk (some ⟨blk,off,sp⟩) 0 c [] w u RD.nil_ rfl (by omega));have hR:=Aa h;have z1:(0:Int)<=c:=by omega
 have Hx:=Aa (show Eb [] 0 lo hi=none from rfl);have Ha:=Aa (Nat.le_refl 0);have EN:Ew []=none:=rfl;rw [EN] at G;unfold Fp at G;clear h EN;go_enter Tryz.func135,Tryz.ntmps135;go_wp2_with fail;refine Aj (by kernel_rfl) (by kernel_rfl) ?_
 repeat (
  refine WQ.step (fun K hK=>?_)
  go_simp
  first
   | (refine hK _ ?_;clear hK K)
   | (apply Exists.intro
      refine⟨fun _=>?_,hK _ ?_⟩
      (go_at_call 99;with_reducible exact Al (Ag G _))
      clear hK K))
 refine WQ.nil ?_;intro u;have ac:=Af w u;have ik:=hR.out.below ac;have pc:=Ah.below ac (Nat.le_of_lt ai);generalize Bs w u=W at ac ik pc |-;clear c0 c1 c2 ac;obtain⟨c0,c1,c2⟩:=ik.cells;have f1:=frozen_of_row W g 1 _ _ ik;have f2:=frozen_of_row W g 2 _ _ ik;have sw:=ik.set1 0;have dy:=pc.trans (Ah.set g 1 W (.int .i64 ((0:Nat):Int)));have su:=sw.set2 true;have gj:=dy.trans (Ah.set g 2 _ (.bool true));have uv:=Aa su;have im:=Aa gj;clear ik pc sw dy su gj;go_wp2_with fail;refine bodyPost_ret (v:= .int .i64 lo) (by simp [results,Tryz.results135,go_sem]) rfl ?_;exact⟨_,0,true,rfl,uv.out,im.out,Ha.out,fun y q e=>(by rw [Hx.out] at e;cases e),fun _=>⟨rfl,rfl⟩⟩
theorem Xu (A:Option Addr) (b:List UInt8) (n c g a:Nat) (lo hi:Int) (w:World) (h:Fr w g A n c a false) (hr:RB w w.heap.size A b) (hn:b.length=n) (hl:n < 1073741824) (ha:a<=n) (hc:n<=c) (hA:A=none->c=0):
 Calls Tryz.prog 135 #[.pointer (some ⟨g,0,none⟩),.int .i64 lo,.int .i64 hi] w fun e w'=>∃ x a' bd,e= .returned (.int .i64 x)/\Fr w' g A n c a' bd/\Ah g w w'/\a'<=n/\
  (∀ y q,Eb b a lo hi=some (y,q)->x=y/\a'=q/\bd=false)/\(Eb b a lo hi=none->x=lo/\bd=true):=by
 by_cases px:c=a
 ·obtain rfl:n=c:=by omega
  subst px;exact Abc A b n g lo hi w h hn hl
 ·by_cases hb:0 < b.length
  ·obtain⟨b0,o0,rfl,-⟩:=RB.cell hr hb;exact Abb b0 o0 b n c g a lo hi w h hr hn hl ha hc px
  ·cases A with
   | none=>have:=hA rfl;omega
   | some q=>
     obtain rfl:n=0:=by omega
     obtain rfl:a=0:=by omega
     obtain rfl:b= []:=List.eq_nil_of_length_eq_zero hn;exact Y1 q c g lo hi w h px
end Go.Proofs.YtmkpfdcnikgokaaGreat
