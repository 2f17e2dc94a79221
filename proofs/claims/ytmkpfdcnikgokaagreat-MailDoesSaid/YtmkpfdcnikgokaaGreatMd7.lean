/-
  Texts of this claim, put together: Eye, CodeAll, ListMath. What each theorem asks stands in its statement.
-/
import Derived.Test.YtmkpfdcnikgokaaGreatMd3
import Derived.Test.YtmkpfdcnikgokaaGreatMd5
import Derived.Test.YtmkpfdcnikgokaaGreatMd6
set_option linter.unusedVariables false
set_option linter.unusedSimpArgs false
set_option maxRecDepth 100000
set_option maxHeartbeats 25600000
namespace Go.Proofs.YtmkpfdcnikgokaaGreat
open Go.RowKit
def Op (w:World) (g:Nat) (A:Option Addr) (n c:Nat) (bad:Bool):Prop:=w.heap[g]?=some (.cells #[.slice A n c,.bool bad] 94 (0,0))
theorem Op.lt {w:World} {g n c:Nat} {A:Option Addr} {bad:Bool} (h:Op w g A n c bad):g < w.heap.size:=(Array.getElem?_eq_some_iff.1 h).1
theorem Op.cells {w:World} {g n c:Nat} {A:Option Addr} {bad:Bool} (h:Op w g A n c bad):w.cell? ⟨g,0,none⟩=some (.slice A n c)/\w.cell? ⟨g,1,none⟩=some (.bool bad):=by
 refine⟨?_,?_⟩ <;> (rw [cell_of_row _ _ _ _ _ _ h];rfl)
theorem Op.below {w w':World} {g n c:Nat} {A:Option Addr} {bad:Bool} (h:Op w g A n c bad) (hb:Below w.heap.size w w'):Op w' g A n c bad:=(hb.block g h.lt).trans h
theorem Op.set0 {w:World} {g n c n' c':Nat} {A A':Option Addr} {bad:Bool} (h:Op w g A n c bad):Op (w.setCell ⟨g,0,none⟩ (.slice A' n' c')) g A' n' c' bad:=heap_setCell_same _ _ _ _ _ _ h
theorem Op.set1 {w:World} {g n c:Nat} {A:Option Addr} {bad:Bool} (h:Op w g A n c bad) (b2:Bool):Op (w.setCell ⟨g,1,none⟩ (.bool b2)) g A n c b2:=heap_setCell_same _ _ _ _ _ _ h
abbrev ES:=List UInt8×Bool
def An (most:Int) (st:ES):Int×ES:=
 if st.2=true then (0,st) else match Ew st.1 with
  | some (m,s)=>if most < (m:Int) then (0,(st.1,true)) else ((m:Int),(st.1.drop s,false))
  | none=>(0,(st.1,true))
def Gp (w:World) (g:Nat) (A:Option Addr) (l:List UInt8):Prop:=RB w g A l/\∀ q,A=some q->q.block < g/\∃ cs,w.heap[q.block]?=some (.cells cs 5 (0,0))
theorem Gp.below {w w':World} {g:Nat} {A:Option Addr} {l:List UInt8} (h:Gp w g A l) (hb:Below g w w'):Gp w' g A l:=
 ⟨RD.below h.1 hb,fun q hq=>⟨(h.2 q hq).1,by obtain⟨h1,cs,h2⟩:=h.2 q hq;exact⟨cs,(hb.block _ h1).trans h2⟩⟩⟩
theorem Gp.setO {w:World} {g gx:Nat} {A:Option Addr} {l:List UInt8} {T:TypeId} {cs:Array Value} (h:Gp w g A l) (hF:w.heap[gx]?=some (.cells cs T (0,0))) (hT:5≠T) (off:Nat) (u:Value):Gp (w.setCell ⟨gx,off,none⟩ u) g A l:=by
 have ak:∀ q,A=some q->q.block≠gx:=by
  intro q hq e;obtain⟨-,c2,h2⟩:=h.2 q hq;rw [e,hF] at h2;simp only [Option.some.injEq,Obj.cells.injEq] at h2;exact hT h2.2.1.symm
 refine⟨⟨h.1.1,fun hl=>?_⟩,fun q hq=>⟨(h.2 q hq).1,by obtain⟨-,c2,h2⟩:=h.2 q hq;exact⟨c2,(heap_setCell_other _ _ _ _ (ak q hq)).trans h2⟩⟩⟩;obtain⟨b,o,e,hb,hc⟩:=h.1.2 hl;refine⟨b,o,e,hb,fun j x hx=>?_⟩;have:=hc j x hx;unfold World.cell? at this |-;rw [heap_setCell_other _ _ _ _ (by simpa using ak _ e)];exact this
theorem Gp.of_own {w:World} {aa g c:Nat} {A:Option Addr} {l:List UInt8} (h:w.ownsRow aa 5 1 (.slice A l.length c) l.length (Cw l)) (hg:w.heap.size<=g):Gp w g A l:=by
 refine⟨(RD.of_own h).more hg,fun q hq=>?_⟩;subst hq;rcases h.2 with⟨h1,-⟩ | ⟨k,cap,bh,h1,h2,h3,h4⟩
 ·cases h1
 ·simp only [Value.slice.injEq,Option.some.injEq] at h1;obtain⟨rfl,-⟩:=h1;exact⟨Nat.lt_of_lt_of_le (Array.getElem?_eq_some_iff.1 h3).1 hg,bh,h3⟩
def EY (w:World) (g:Nat) (st:ES):Prop:=∃ A c,Op w g A st.1.length c st.2/\Gp w g A st.1/\st.1.length<=c/\st.1.length < 1073741824/\(A=none->c=0)
theorem EY.below {w w':World} {g:Nat} {st:ES} (h:EY w g st) (hb:Below w.heap.size w w'):EY w' g st:=by
 obtain⟨A,c,h1,h2,h3⟩:=h;exact⟨A,c,h1.below hb,Gp.below h2 (hb.mono (Nat.le_of_lt h1.lt)),h3⟩
theorem EY.other {w:World} {g:Nat} {st:ES} (h:EY w g st) {g':Nat} (hg:g < g') (off:Nat) (v:Value):EY (w.setCell ⟨g',off,none⟩ v) g st:=by
 obtain⟨A,c,h1,h2,h3⟩:=h;refine⟨A,c,(heap_setCell_other _ _ _ _ (by simp only;omega)).trans h1,Gp.below h2 ((Below.refl g w).setCell (by simp only;omega) _),h3⟩
theorem EY.setO {w:World} {g gx:Nat} {st:ES} {T:TypeId} {cs:Array Value} (h:EY w g st) (hF:w.heap[gx]?=some (.cells cs T (0,0))) (hT:5≠T) (ak:g≠gx) (off:Nat) (u:Value):EY (w.setCell ⟨gx,off,none⟩ u) g st:=by
 obtain⟨A,c,h1,h2,h3⟩:=h;exact⟨A,c,(heap_setCell_other _ _ _ _ ak).trans h1,h2.setO hF hT off u,h3⟩
theorem EY.lt {w:World} {g:Nat} {st:ES} (h:EY w g st):g < w.heap.size:=by
 obtain⟨A,c,h1,-⟩:=h;exact h1.lt
theorem Mt (most:Int) (st:ES) (h:0<=most):0<=(An most st).1/\(An most st).1<=most:=by
 unfold An;split
 ·simp only;omega
 ·split
  ·split
   ·simp only;omega
   ·simp only;omega
  ·simp only;omega
theorem Adc (g:Nat) (most:Int) (st:ES) (w:World) (h:EY w g st):
 Calls Tryz.prog 57 #[.pointer (some ⟨g,0,none⟩),.int .i64 most] w fun e w'=>e= .returned (.int .i64 (An most st).1)/\EY w' g (An most st).2/\Ah g w w':=by
 obtain⟨A,c,hE,hr,hc,hl,hA⟩:=h;obtain⟨l,bad⟩:=st;simp only at hE hr hc hl;have ai:=hE.lt;obtain⟨c0,c1⟩:=hE.cells;have f1:=frozen_of_row w g 1 _ _ hE
 have G:=Aa (fun W (hW:W=w)=>by
  have:=Sr A c l W (by rw [hW];exact RD.more hr.1 (Nat.le_of_lt ai)) hl
  exact this)
 have E1:=fun b2=>hE.set1 b2;have e1:=fun b2=>(hE.set1 b2).cells
 cases hg:Ew l with
 | none=>
   rw [hg] at G
   have HV:=Aa (show An most (l,bad)=(0,(l,true)) by
    unfold An
    cases bad with
    | true=>rfl
    | false=>simp [hg])
   obtain⟨k0,k1⟩:=e1 true;have HF:=Aa (show EY (w.setCell ⟨g,1,none⟩ (.bool true)) g (l,true) from⟨A,c,E1 true,Gp.below hr ((Below.refl g w).setCell (Nat.le_refl _) _),hc,hl,hA⟩);have HO:=Aa (Ah.set g 1 w (.bool true));unfold Fp at G;clear hg hE hr hA e1 E1;go_enter Tryz.func57,Tryz.ntmps57;go_wp2_with fail;refine (Ag G w rfl).mono ?_;rintro e w2 ⟨rfl,rfl⟩;cases bad
   all_goals
    go_wp2_with fail;go_ret;exact⟨by rw [HV.out];rfl,by rw [HV.out];exact HF.out,HO.out⟩
 | some q=>
   obtain⟨m,s⟩:=q;obtain⟨-,v2,-,-⟩:=D6 hg;have af:1<=s:=by
    obtain⟨-,-,v3,v4⟩:=D6 hg;have:=Lv m;omega
   rw [hg] at G;unfold Fp at G
   cases bad with
   | true=>
     have HV:=Aa (show An most (l,true)=(0,(l,true)) from rfl);obtain⟨k0,k1⟩:=e1 true;have HF:=Aa (show EY (w.setCell ⟨g,1,none⟩ (.bool true)) g (l,true) from⟨A,c,E1 true,Gp.below hr ((Below.refl g w).setCell (Nat.le_refl _) _),hc,hl,hA⟩);have HO:=Aa (Ah.set g 1 w (.bool true));clear hg hE hr hA e1 E1;go_enter Tryz.func57,Tryz.ntmps57;go_wp2_with fail;refine (Ag G w rfl).mono ?_;rintro e w2 ⟨rfl,rfl⟩;go_wp2_with fail;go_ret;exact⟨by rw [HV.out];rfl,by rw [HV.out];exact HF.out,HO.out⟩
   | false=>
     by_cases hm:most < (m:Int)
     ·have HV:=Aa (show An most (l,false)=(0,(l,true)) by unfold An;simp [hg,hm]);obtain⟨k0,k1⟩:=e1 true;have HF:=Aa (show EY (w.setCell ⟨g,1,none⟩ (.bool true)) g (l,true) from⟨A,c,E1 true,Gp.below hr ((Below.refl g w).setCell (Nat.le_refl _) _),hc,hl,hA⟩);have HO:=Aa (Ah.set g 1 w (.bool true));clear hg hE hr hA e1 E1;go_enter Tryz.func57,Tryz.ntmps57;go_wp2_with fail;refine (Ag G w rfl).mono ?_;rintro e w2 ⟨rfl,rfl⟩;go_wp2_with fail;go_ret;exact⟨by rw [HV.out];rfl,by rw [HV.out];exact HF.out,HO.out⟩
     ·have HV:=Aa (show An most (l,false)=((m:Int),(l.drop s,false)) by unfold An;simp [hg,hm]);obtain⟨k0,k1⟩:=e1 false;obtain⟨b0,o0,rfl,py,-⟩:=RB.cell hr.1 (by omega);obtain⟨SA,SC,ma⟩:∃ (SA:Option Addr) (SC:Nat),(c=s/\SA=some ⟨b0,o0,none⟩/\SC=0\/¬ c=s/\SA=some ⟨b0,o0+s,none⟩/\SC=c - s):=by
       by_cases h:c=s
       ·exact⟨_,_,.inl ⟨h,rfl,rfl⟩⟩
       ·exact⟨_,_,.inr ⟨h,rfl,rfl⟩⟩
      have vd:RB w g SA (l.drop s):=by
       rcases ma with⟨h1,-,-⟩ | ⟨-,rfl,-⟩
       ·rw [List.drop_eq_nil_of_le (by omega)];exact RD.nil_
       ·have:=hr.1.sub s l.length (Nat.le_refl _);rwa [List.take_length] at this
      have xe:Gp w g SA (l.drop s):=⟨vd,fun q hq=>by rcases ma with⟨-,h2,-⟩ | ⟨-,h2,-⟩ <;> (rw [h2] at hq;cases hq;have h9:=hr.2 _ rfl;exact h9)⟩;have E2:Op ((w.setCell ⟨g,1,none⟩ (.bool false)).setCell ⟨g,0,none⟩ (.slice SA (l.length - s) SC)) g SA (l.length - s) SC false:=(E1 false).set0;have f2:=frozen_of_row _ g 0 _ _ (E1 false)
      have HF:=Aa (show EY ((w.setCell ⟨g,1,none⟩ (.bool false)).setCell ⟨g,0,none⟩ (.slice SA (l.length - s) SC)) g (l.drop s,false) from⟨SA,SC,by rw [List.length_drop];exact E2,Gp.below xe (((Below.refl g w).setCell (Nat.le_refl _) _).setCell (Nat.le_refl _) _),by
       rw [List.length_drop]
       rcases ma with⟨h1,-,h2⟩ | ⟨h1,-,h2⟩ <;> omega,by rw [List.length_drop];omega,fun h=>by rcases ma with⟨-,h2,-⟩ | ⟨-,h2,-⟩ <;> (rw [h2] at h;cases h)⟩)
      have HO:=Aa ((Ah.set g 1 w (.bool false)).trans (Ah.set g 0 _ (.slice SA (l.length - s) SC)));have zs0:(0:Int)<=s:=by omega
      have zs1:(s:Int)<=l.length:=by omega
      have zs2:(s:Int)<=c:=by omega
      have zs3:(l.length:Int)<=c:=by omega
      have GB:=Aa hl;have hmd:decide (most < (m:Int))=false:=decide_eq_false hm;clear hg hE hr hA e1 E1 E2 xe vd;go_enter Tryz.func57,Tryz.ntmps57;go_wp2_with fail;refine (Ag G w rfl).mono ?_;rintro e w2 ⟨rfl,rfl⟩;rcases ma with⟨px,rfl,rfl⟩ | ⟨px,rfl,rfl⟩
      all_goals
       go_wp2_with fail;go_ret;exact⟨by rw [HV.out];rfl,by rw [HV.out];exact HF.out,HO.out⟩
theorem EY.cell1 {w:World} {g:Nat} {st:ES} (h:EY w g st):w.cell? ⟨g,1,none⟩=some (.bool st.2):=by
 obtain⟨A,c,h1,-⟩:=h;exact h1.cells.2
theorem EY.fr1 {w:World} {g:Nat} {st:ES} (h:EY w g st):w.frozen? ⟨g,1,none⟩=false:=by
 obtain⟨A,c,h1,-⟩:=h;exact frozen_of_row w g 1 _ _ h1
theorem EY.setBad {w:World} {g:Nat} {st:ES} (h:EY w g st) (b:Bool):EY (w.setCell ⟨g,1,none⟩ (.bool b)) g (st.1,b):=by
 obtain⟨A,c,h1,h2,h3⟩:=h;exact⟨A,c,h1.set1 b,Gp.below h2 ((Below.refl g w).setCell (Nat.le_refl _) _),h3⟩
theorem Ah.more {g:Nat} {a b c:World} (h:Ah g a b) (hb:Below a.heap.size b c) (hg:g<=a.heap.size):Ah g a c:=
 ⟨h.1.trans (hb.mono hg),fun x hx hl=>(hb.block x hl).trans (h.2 x hx hl)⟩
theorem Ah.setNew {g:Nat} {a b:World} (h:Ah g a b) {k:Nat} (hk:a.heap.size<=k) (hg:g<=a.heap.size) (off:Nat) (v:Value):Ah g a (b.setCell ⟨k,off,none⟩ v):=
 h.more ((Below.refl _ _).setCell hk _) hg
theorem Fu {w w':World} {aa g size n:Nat} {e:TypeId} {v:Value} {L:List Value} (h:w.ownsRow aa e size v n L) (hg:g < aa) (ho:Ah g w w'):w'.ownsRow aa e size v n L:=by
 refine⟨h.1,?_⟩;rcases h.2 with h0 | ⟨q,cap,bh,h1,h2,h3,h4⟩
 ·exact .inl h0
 ·exact .inr ⟨q,cap,bh,h1,h2,(ho.2 q (by omega) (Array.getElem?_eq_some_iff.1 h3).1).trans h3,h4⟩
theorem PB.only {w w':World} {g g':Nat} {a b:Value} {T:TypeId} (h:PB w g a b T) (ho:Ah g' w w') (ak:g≠g'):PB w' g a b T:=(ho.2 g ak (Array.getElem?_eq_some_iff.1 h).1).trans h
theorem PB.fr {w:World} {g:Nat} {a b:Value} {T:TypeId} (h:PB w g a b T) (off:Nat):w.frozen? ⟨g,off,none⟩=false:=frozen_of_row w g off _ _ h
theorem PB.set1 {w:World} {g:Nat} {a b:Value} {T:TypeId} (h:PB w g a b T) (v:Value):PB (w.setCell ⟨g,1,none⟩ v) g a v T:=heap_setCell_same _ _ _ _ _ _ h
theorem PB.set0 {w:World} {g:Nat} {a b:Value} {T:TypeId} (h:PB w g a b T) (v:Value):PB (w.setCell ⟨g,0,none⟩ v) g v b T:=heap_setCell_same _ _ _ _ _ _ h
theorem Dx (g:Nat) (most:Int) (st:ES) (w:World) (h:EY w g st) (x:Int) (s2:ES) (hx:An most st=(x,s2)) (h0:0<=most):
 Calls Tryz.prog 57 #[.pointer (some ⟨g,0,none⟩),.int .i64 most] w fun e w'=>e= .returned (.int .i64 x)/\EY w' g s2/\Ah g w w'/\0<=x/\x<=most:=by
 have h1:=Mt most st h0;rw [hx] at h1;refine (Adc g most st w h).mono ?_;rintro e w' ⟨he,h2,h3⟩;rw [hx] at he h2;exact⟨he,h2,h3,h1⟩
def Er (st:ES):(Int×Int)×ES:=(((An 1073741824 st).1,(An 7 (An 1073741824 st).2).1),(An 7 (An 1073741824 st).2).2)
theorem Pm (g:Nat) (st:ES) (w:World) (h:EY w g st) (t r:Int) (s2:ES) (hx:Er st=((t,r),s2)):
 Calls Tryz.prog 61 #[.pointer (some ⟨g,0,none⟩)] w fun e w'=>e= .returned (.agg #[.int .u32 t,.int .u8 r])/\EY w' g s2/\Ah g w w'/\0<=t/\t<=1073741824/\0<=r/\r<=7:=by
 unfold Er at hx;obtain⟨x,s1,h1⟩:∃ x s,An 1073741824 st=(x,s):=⟨_,_,rfl⟩;rw [h1] at hx;simp only at hx;obtain⟨y,s3,h2⟩:∃ x s,An 7 s1=(x,s):=⟨_,_,rfl⟩;rw [h2] at hx;simp only [Prod.mk.injEq] at hx;obtain⟨⟨rfl,rfl⟩,rfl⟩:=hx;obtain⟨w1,au,F1,af,ac⟩:=Dr w (.int .u32 0) (.int .u8 0) 46;have ai:=h.lt;have H1:=Aa h1;have H2:=Aa h2;have qd:=Aa (h.below ac);have p9:=Aa (Ah.below ac (Nat.le_of_lt ai));have az:=Aa F1;have dh:=Aa (show w.heap.size≠g by omega);obtain⟨gx,an⟩:∃ q,q=w.heap.size:=⟨_,rfl⟩;have av:=Aa an;have Hg:=Aa (show g < gx by omega);have kj:=Aa (Nat.le_of_lt ai);rw [<-an] at az dh;clear h1 h2 F1 ac af h ai;go_enter Tryz.func61,Tryz.ntmps61;go_wp2_with fail;rw [<-an];clear an au;refine (Dx g 1073741824 st w1 qd.out x s1 H1.out (by decide)).mono ?_;rintro e w2 ⟨rfl,j9,dy,x0,x1⟩;have m7:=Aa j9;have td:=Aa (p9.out.trans dy);have db:=Aa (az.out.only dy dh.out);have hxu:IntKind.u32.wrap x=x:=IntWalk.u32_in _ (by omega);clear j9 dy;go_wp2_with fail;refine (Dx g 7 s1 w2 m7.out y s3 H2.out (by decide)).mono ?_;rintro e w3 ⟨rfl,lm,gj,y0,y1⟩;have hyu:IntKind.u8.wrap y=y:=by simp [IntKind.wrap,IntKind.bits,IntKind.signed];omega
 have bz:=Aa (db.out.only gj dh.out);have im:=Aa (td.out.trans gj);have gd:=Aa lm;obtain⟨c0,c1⟩:=bz.out.cells;have f0:=bz.out.fr 0;have f1:=bz.out.fr 1;clear lm gj;go_wp2_with fail;have F5:PB ((w3.setCell ⟨gx,0,none⟩ (.int .u32 x)).setCell ⟨gx,1,none⟩ (.int .u8 y)) gx (.int .u32 x) (.int .u8 y) 46:=(bz.out.set0 _).set1 _;have E5:EY ((w3.setCell ⟨gx,0,none⟩ (.int .u32 x)).setCell ⟨gx,1,none⟩ (.int .u8 y)) g s3:=(gd.out.other Hg.out 0 _).other Hg.out 1 _;have O5:Ah g w ((w3.setCell ⟨gx,0,none⟩ (.int .u32 x)).setCell ⟨gx,1,none⟩ (.int .u8 y)):=(im.out.setNew (Nat.le_of_eq av.out.symm) kj.out 0 _).setNew (Nat.le_of_eq av.out.symm) kj.out 1 _;generalize (w3.setCell ⟨gx,0,none⟩ (.int .u32 x)).setCell ⟨gx,1,none⟩ (.int .u8 y)=WW at F5 E5 O5 |-;obtain⟨v0,v1⟩:=F5.cells;exact bodyPost_ret (v:= .agg #[.int .u32 x,.int .u8 y]) (by simp [results,Tryz.results61,go_sem,v0,v1]) rfl ⟨rfl,E5,O5,x0,x1,y0,y1⟩
structure Bj where
 k:Int
 t:Int
 r:Int
 A:Option Addr
 c:Nat
 p:List Rn
 z:Int
def Bj.cells (x:Bj):List Value:= [.int .u8 x.k,.int .u32 x.t,.int .u8 x.r,.slice x.A x.p.length x.c,.int .i64 x.z]
def Ec (L:List Bj):List Value:=L.flatMap Bj.cells
theorem Aa9 (L:List Bj):(Ec L).length=L.length * 5:=by
 induction L with
 | nil=>rfl
 | cons x L ih=>simp only [Ec,List.flatMap_cons,List.length_append,List.length_cons] at *;rw [ih];simp [Bj.cells];omega
theorem Ph (L:List Bj) (j:Nat) (h:j < L.length) (i:Nat) (hi:i < 5):(Ec L)[j * 5+i]?=(L[j].cells)[i]?:=by
 induction L generalizing j with
 | nil=>simp at h
 | cons x L ih=>
   have e:Ec (x :: L)=x.cells++Ec L:=rfl;have hl:x.cells.length=5:=rfl;rw [e]
   cases j with
   | zero=>rw [List.getElem?_append_left (by omega)];simp
   | succ j=>
     rw [List.getElem?_append_right (by omega),hl];have:=ih j (by simpa using h);rw [show (j+1) * 5+i - 5=j * 5+i by omega];simpa using this
def RO (w:World) (B:Nat) (A:Option Addr) (L:List Bj):Prop:=RD w B 5 A L.length (Ec L)/\∀ x∈L,RR w B x.A x.p
theorem RO.below {w w':World} {B:Nat} {A:Option Addr} {L:List Bj} (h:RO w B A L) (hb:Below B w w'):RO w' B A L:=⟨RD.below h.1 hb,fun x hx=>RD.below (h.2 x hx) hb⟩
theorem RO.more {w:World} {B B':Nat} {A:Option Addr} {L:List Bj} (h:RO w B A L) (hB:B<=B'):RO w B' A L:=⟨RD.more h.1 hB,fun x hx=>RD.more (h.2 x hx) hB⟩
theorem RO.cell {w:World} {B:Nat} {A:Option Addr} {L:List Bj} (h:RO w B A L) (hl:0 < L.length):∃ b off,A=some ⟨b,off,none⟩/\b < B/\∀ j (hj:j < L.length),
 w.cell? ⟨b,off+j * 5,none⟩=some (.int .u8 L[j].k)/\w.cell? ⟨b,off+j * 5+1,none⟩=some (.int .u32 L[j].t)/\w.cell? ⟨b,off+j * 5+2,none⟩=some (.int .u8 L[j].r)/\w.cell? ⟨b,off+j * 5+3,none⟩=some (.slice L[j].A L[j].p.length L[j].c)/\w.cell? ⟨b,off+j * 5+4,none⟩=some (.int .i64 L[j].z):=by
 obtain⟨b,off,e,hb,hc⟩:=h.1.2 hl;refine⟨b,off,e,hb,fun j hj=>?_⟩;have g:∀ i,i < 5->∀ u,(L[j].cells)[i]?=some u->w.cell? ⟨b,off+j * 5+i,none⟩=some u:=by
  intro i hi u hu;rw [Nat.add_assoc];exact hc _ _ (by rw [Ph L j hj i hi,hu])
 exact⟨g 0 (by decide) _ rfl,g 1 (by decide) _ rfl,g 2 (by decide) _ rfl,g 3 (by decide) _ rfl,g 4 (by decide) _ rfl⟩
def Zs (x:Bj):Prop:=0<=x.k/\X5 (x.t,x.r)/\(∀ y∈x.p,Gl y)/\x.p.length < 1073741824
def Fa (x:Bj):Prop:=Dz x.k x.t x.r x.p x.z
instance (x:Bj):Decidable (Fa x):=by unfold Fa;infer_instance
def J5 (x:Bj):List UInt8:=Je x.k x.t x.r x.p x.z
def B7 (L:List Bj):List UInt8:=Ap [(L.length:Int)]++L.flatMap J5
def X9 (L:List Bj):Int:=if ∀ x∈L,Fa x then 0 else 8
def Vj (L:List Bj):List UInt8:=if ∀ x∈L,Fa x then B7 L else []
theorem Aan {k t r was z:Int} (h:∀ a∈Bb k t r was z,0<=a/\a<=1099511627776):(Ap (Bb k t r was z)).length<=12:=by
 have h1:=Bu h
 have h2:(Bb k t r was z).length<=2:=by unfold Bb;split;·simp
                                        ·split <;> simp
 omega
theorem Sh {x:Bj} (hm:Fa x) (ho:Zs x):(J5 x).length<=1200:=by
 obtain⟨h0,hi,hr,-⟩:=ho;have hk:1<=x.k/\x.k<=4:=by
  have:=hm.2.2;unfold Cl at this;omega
 have h1:=Sg (k:=x.k) (by omega) hm.2.1 hr x.p.length;rw [List.take_length] at h1;have e:J5 x=Ap ([x.k,(x.p.length:Int)]++As 0 x.p)++Ap (Bb x.k x.t x.r (B4 0 x.p) x.z):=by
  rw [<-Au];rfl
 have FR:=Ja hm.2.1 0;have pm:=Ev hm.2.1;obtain⟨mi1,mi2,mi3⟩:=hm.1;unfold X5 at hi;simp only at hi;have h2:(Ap (Bb x.k x.t x.r (B4 0 x.p) x.z)).length<=12:=by
  refine Aan fun a ha=>?_;unfold Bb at ha;rcases hm.2.2 with⟨g1,-,g3⟩ | ⟨g1,-,-⟩ | ⟨g1,-,g3⟩
  ·rw [if_pos g1] at ha;simp only [List.mem_singleton] at ha;subst ha;have:=g3.1;have:=g3.2.1;omega
  ·rw [if_neg (by omega),if_pos g1] at ha;cases ha
  ·rw [if_neg (by omega),if_neg (by omega)] at ha;simp only [List.mem_cons,List.not_mem_nil,or_false] at ha;omega
 rw [e,List.length_append];omega
theorem Fj:∀ (L:List Bj),(∀ x∈L,Fa x/\Zs x)->(L.flatMap J5).length<=1200 * L.length
 | [],_=>by simp
 | x :: L,h=>by
   have h1:=Fj L fun y hy=>h y (List.mem_cons_of_mem _ hy);have h2:=Sh (h x List.mem_cons_self).1 (h x List.mem_cons_self).2;rw [List.flatMap_cons,List.length_append,List.length_cons];omega
theorem Pq (A:Option Addr) (n c:Nat) (L:List Bj) (w:World) (hr:RO w w.heap.size A L) (hn:L.length=n) (hl:n<=1024) (ax:∀ x∈L,Zs x):
 Calls Tryz.prog 50 #[.slice A n c] w fun e w'=>∃ v,e= .returned (.tuple #[v,.int .i64 (X9 L)])/\w'.ownsRow w.heap.size 5 1 v (Vj L).length (Cw (Vj L))/\Below w.heap.size w w':=by
 obtain⟨i0,cr,cb,cu,cq⟩:=info_parts Dq;have js:=Aa ax;have Hn:=Aa hn;have HR:=Aa hr;have si:(n:Int)<=1024:=by omega
 clear ax hn hr;go_enter Tryz.func50,Tryz.ntmps50;go_wp2_with fail;refine (K7 (.slice none 0 0) [] w.heap.size w.heap.size 1 [(n:Int)] _ (World.ownsRow_nil _ _ _ _) (by simp) (heap_alloc_new _ _) (by intro a ha;simp only [List.mem_singleton] at ha;omega) (by simp)).mono ?_;rintro e w1 ⟨v1,rfl,aq,ac,-⟩;simp only [List.nil_append] at aq;have r4:Below w.heap.size w w1:=((Below.refl w.heap.size w).alloc (Nat.le_refl _) _).trans ac;clear ac;go_wp2_with fail
 go_loopw [4,18] (fun u i wr=>∃ j:Nat,j<=n/\i= .int .i64 (j:Int)/\wr.ownsRow w.heap.size 5 1 u (Ap [(n:Int)]++(L.take j).flatMap J5).length (Cw (Ap [(n:Int)]++(L.take j).flatMap J5))/\Hid (∀ x∈L.take j,Fa x)/\Below w.heap.size w wr) (fun _ i _=>n - (intOf i).toNat)
 case atStart=>exact⟨0,by omega,rfl,by simpa using aq,Aa (fun x hx=>by cases hx),r4⟩
 case round=>
  obtain⟨j,hj,rfl,ah,GQ,hb⟩:=hrel;clear aq r4;by_cases ai:j < n
  ·have ap:j < L.length:=by rw [Hn.out];exact ai
   have z0:(j:Int) < n:=by omega
   obtain⟨bb,bo,rfl,hB,hC⟩:=RO.cell (HR.out.below hb) (by omega);obtain⟨d0,d1,d2,d3,d4⟩:=hC j ap;obtain⟨x,hx⟩:∃ x,L[j]=x:=⟨_,rfl⟩;rw [hx] at d0 d1 d2 d3 d4;have ba:x∈L:=by rw [<-hx];exact List.getElem_mem ap
   have jb:=js.out x ba;have IN:RR wr wr.heap.size x.A x.p:=((HR.out.below hb).more hb.size).2 x ba;obtain⟨wx,AB,FX,EI,el⟩:=Cv wr (.int .u8 x.k) (.int .u32 x.t) (.int .u8 x.r) (.slice x.A x.p.length x.c) (.int .i64 x.z);have hP:=Aa (W6 x.k x.t x.r x.z x.A x.p.length x.c x.p wx (IN.below' el) rfl jb.2.2.2 jb.2.2.1 jb.1 jb.2.1);obtain⟨y0,y1,y2,y3,y4⟩:=FX.cells;have tf:=Ai ah el (Nat.le_refl _);have OV:=Ad hb el;have jk:=Aa (show L.take (j+1)=L.take j++ [x] by rw [List.take_succ_eq_append_getElem ap,hx]);have QK:((L.take j).flatMap J5).length<=1200 * 1024:=by
    have:=Fj (L.take j) fun q hq=>⟨GQ.out q hq,js.out q (List.mem_of_mem_take hq)⟩;rw [List.length_take] at this;omega
   have hnb6:(Ap [(n:Int)]).length<=6:=Bu (L:= [(n:Int)]) (by intro a ha;simp only [List.mem_singleton] at ha;omega);have HS:=Aa (And.intro QK hnb6);have HX:=Aa (And.intro ba jb);clear hC hx FX IN ah QK hnb6 ba jb;by_cases hm:Fa x
   ·rw [show Gt x.k x.t x.r x.p x.z=0 from if_pos hm,show X6 x.k x.t x.r x.p x.z=J5 x from if_pos hm] at hP;have Hm:=Aa hm;have cn:=Aa (Sh hm HX.out.2);obtain⟨bx,DS⟩:∃ l,l=J5 x:=⟨_,rfl⟩;obtain⟨pre,nq⟩:∃ l,l=Ap [(n:Int)]++(L.take j).flatMap J5:=⟨_,rfl⟩;have NN:=Aa (And.intro DS nq);rw [<-DS] at hP cn;rw [<-nq] at tf;have ay:pre.length+bx.length<=1073741824:=by
     have h1:=HS.out;have h2:=cn.out;rw [nq,List.length_append];omega
    clear hm DS nq;go_wp2_with fail;refine hP.out.mono ?_;rintro e w2 ⟨v2,rfl,cm,ae⟩;obtain⟨A2,c2,rfl,-,-,-⟩:=Ao cm;have eh:=Ai tf ae (Nat.le_refl _);have rz:=Ad OV ae;clear y0 y1 y2 y3 y4 d0 d1 d2 d3 d4 tf;go_wp2_with (at_builtin;refine Ba _ rfl (.tmp 30) (.tmp 31) 23 rfl w.heap.size 5 i0 (.int .u8 0) 1 1 Tryz.underlying23 cr cb cu cq rfl (by decide) _ _ _ rfl eh w2.heap.size A2 _ c2 (Cw bx) rfl (RD.of_own cm) (Ce _) ay (by decide) rz.size ?_;intro v3 w3 dm ag);go_roundw
    case rel=>
     refine⟨j+1,by omega,by go_num,?_,Aa ?_,rz.trans ag⟩
     ·rw [jk.out,List.flatMap_append,List.flatMap_singleton,<-List.append_assoc,<-NN.out.1,<-NN.out.2,Bg,List.length_append];exact dm
     ·intro q hq;rw [jk.out] at hq;rcases List.mem_append.1 hq with h | h
      ·exact GQ.out q h
      ·simp only [List.mem_singleton] at h;subst h;exact Hm.out
    case measure=>simp [intOf];omega
   ·rw [show Gt x.k x.t x.r x.p x.z=8 from if_neg hm,show X6 x.k x.t x.r x.p x.z= [] from if_neg hm] at hP;have ak:¬ ∀ x∈L,Fa x:=fun h=>hm (h x HX.out.1);have dh:=Aa (And.intro (show X9 L=8 from if_neg ak) (show Vj L= [] from if_neg ak));clear hm ak;go_wp2_with fail;refine hP.out.mono ?_;rintro e w2 ⟨v2,rfl,-,ae⟩;have rz:=Ad OV ae;clear y0 y1 y2 y3 y4 d0 d1 d2 d3 d4 tf;go_wp2_with fail;refine bodyPost_ret (v:= .tuple #[.slice none 0 0,.int .i64 8]) (by simp [results,Tryz.results50,go_sem]) rfl ?_;exact⟨_,by rw [dh.out.1],by rw [dh.out.2];exact World.ownsRow_nil _ _ _ _,rz⟩
  ·have hz:¬ (j:Int) < n:=by omega
   have CJ:j=n:=by omega
   have IL:L.take j=L:=List.take_of_length_le (by rw [Hn.out];omega);rw [IL] at ah GQ;have HA:(Ap [(n:Int)]++L.flatMap J5)=B7 L:=by unfold B7;rw [Hn.out]
   rw [HA] at ah;have tv:=Aa (And.intro (show X9 L=0 from if_pos GQ.out) (show Vj L=B7 L from if_pos GQ.out));obtain⟨bl,kv⟩:∃ l,l=B7 L:=⟨_,rfl⟩;rw [<-kv] at ah tv;have yt:=Aa ah;clear ah HA IL CJ kv GQ;go_wp2_with fail;refine bodyPost_ret (v:= .tuple #[_,.int .i64 0]) (by simp [results,Tryz.results50,go_sem];rfl) rfl ?_;exact⟨_,by rw [tv.out.1],by rw [tv.out.2];exact yt.out,hb⟩
abbrev Lg:=Int×Int×Int×List Rn×Int
instance:DecidableEq Lg:=fun a b=>decidable_of_iff (a.1=b.1/\a.2.1=b.2.1/\a.2.2.1=b.2.2.1/\a.2.2.2.1=b.2.2.2.1/\a.2.2.2.2=b.2.2.2.2) (by
 obtain⟨a0,a1,a2,a3,a4⟩:=a;obtain⟨b0,b1,b2,b3,b4⟩:=b
 simp only [Prod.mk.injEq])
def Bj.op (x:Bj):Lg:=(x.k,x.t,x.r,x.p,x.z)
def Rx (o:Lg):List UInt8:=Je o.1 o.2.1 o.2.2.1 o.2.2.2.1 o.2.2.2.2
def R3 (o:Lg):Prop:=Dz o.1 o.2.1 o.2.2.1 o.2.2.2.1 o.2.2.2.2
def I2 (o:Lg):Prop:=R3 o/\(∀ x∈o.2.2.2.1,Gl x)/\1<=o.1/\o.1<=4/\0<=o.2.2.1
def Te (b:List UInt8):Nat->Nat->List Lg->Option (List Lg×Nat)
 | 0,a,bg=>some (bg,a)
 | m+1,a,bg=>match Bz (b.drop a) with
   | none=>none
   | some (k,t,r,p,z,n)=>Te b m (a+n) (bg++ [(k,t,r,p,z)])
def Cj (b:List UInt8):Option (List Lg×Nat):=(Eb b 0 0 1024).bind fun q=>Te b q.1.toNat q.2 []
def M5:Option (List Lg×Nat)->List Lg×Nat×Int
 | some (l,n)=>(l,n,0)
 | none=>([],0,8)
theorem Rb {p:List Rn} (hp:E9 p) (ho:∀ x∈p,Gl x):0<=(Bw p).2:=by
 have ak:p≠ []:=fun e=>by rw [e] at hp;have:=hp.1;simp at this
 obtain⟨q,x,rfl⟩:∃ q x,p=q++ [x]:=⟨p.dropLast,p.getLast ak,(List.dropLast_concat_getLast ak).symm⟩;rw [Ig q x hp];have:=ho x (by simp);unfold Gl at this;simp only;omega
theorem Abp {b:List UInt8} {k t r:Int} {p:List Rn} {z:Int} {n:Nat} (h:Bz b=some (k,t,r,p,z,n)):0<=r:=by
 simp only [Bz,Option.bind_eq_some_iff] at h;obtain⟨⟨k',a1⟩,hk,⟨m,a2⟩,hm,⟨p',w,a3⟩,hr,⟨k2,t2,r2,p2,z2,n2⟩,ht,h⟩:=h;simp only at hm hr ht h;split at h
 ·rename_i bt
  simp only [Option.some.injEq,Prod.mk.injEq] at h;obtain⟨rfl,rfl,rfl,rfl,rfl,rfl⟩:=h;obtain⟨t1,l1⟩:=Dh (L:= []) hk (by omega) (by simp [Ap]);obtain⟨YR,l2⟩:=Dh hm l1 t1;obtain⟨-,-,-,-,g5,-,-⟩:=Jr m.toNat a2 0 _ p' w a3 (by omega) l2 YR hr;unfold Dc at ht;split at ht
  ·rw [Option.map_eq_some_iff] at ht;obtain⟨⟨z',a4⟩,hz,he⟩:=ht;simp only [Prod.mk.injEq] at he;obtain⟨rfl,rfl,rfl,rfl,rfl,rfl⟩:=he;exact Rb bt.2.1 g5
  ·split at ht
   ·simp only [Option.some.injEq,Prod.mk.injEq] at ht;obtain⟨rfl,rfl,rfl,rfl,rfl,rfl⟩:=ht;exact Rb bt.2.1 g5
   ·simp only [Option.bind_eq_some_iff,Option.map_eq_some_iff] at ht;obtain⟨⟨d,a4⟩,hd,⟨r',a5⟩,gf,he⟩:=ht;simp only [Prod.mk.injEq] at hd gf he;obtain⟨rfl,rfl,rfl,rfl,rfl,rfl⟩:=he;exact (Em gf).1
 ·cases h
theorem Wz {b:List UInt8} {k t r:Int} {p:List Rn} {z:Int} {n:Nat} (h:Bz b=some (k,t,r,p,z,n)):I2 (k,t,r,p,z):=by
 obtain⟨h1,-,-,h4,h5,h6⟩:=Ki h;exact⟨h1,h4,h5,h6,Abp h⟩
theorem Xy {b:List UInt8} {pre:List UInt8}:∀ (m a:Nat) (bg l:List Lg) (n:Nat),Te b m a bg=some (l,n)->a<=b.length->b.take a=pre++bg.flatMap Rx->(∀ o∈bg,I2 o)->
 (∀ o∈l,I2 o)/\l.length=bg.length+m/\n<=b.length/\b.take n=pre++l.flatMap Rx
 | 0,a,bg,l,n,h,ha,ht,hg=>by
   simp only [Te,Option.some.injEq,Prod.mk.injEq] at h;obtain⟨rfl,rfl⟩:=h;exact⟨hg,rfl,ha,ht⟩
 | m+1,a,bg,l,n,h,ha,ht,hg=>by
   unfold Te at h
   cases hp:Bz (b.drop a) with
   | none=>rw [hp] at h;cases h
   | some o=>
     obtain⟨k,t,r,p,z,s⟩:=o;rw [hp] at h;simp only at h;have uj:=Wz hp;obtain⟨-,h2,h3,-⟩:=Ki hp;rw [List.length_drop] at h3
     obtain⟨g1,g2,g3,g4⟩:=Xy m (a+s) (bg++ [(k,t,r,p,z)]) l n h (by omega) (by
      rw [List.take_add,ht,h2,List.flatMap_append,List.flatMap_singleton,List.append_assoc]
      rfl) (fun o ho=>by
      rcases List.mem_append.1 ho with h' | h'
      ·exact hg o h'
      ·simp only [List.mem_singleton] at h'
       subst h'
       exact uj)
     refine⟨g1,?_,g3,g4⟩;rw [g2,List.length_append,List.length_singleton];omega
theorem Fv {b:List UInt8} {l:List Lg} {n:Nat} (h:Cj b=some (l,n)):(∀ o∈l,I2 o)/\l.length<=1024/\n<=b.length/\b.take n=Ap [(l.length:Int)]++l.flatMap Rx:=by
 unfold Cj at h;rw [Option.bind_eq_some_iff] at h;obtain⟨⟨m,a⟩,hm,hg⟩:=h;simp only at hg;obtain⟨h1,h2,h3,-,-,-,-⟩:=Em hm;obtain⟨t1,l1⟩:=Dh (L:= []) hm (by omega) (by simp [Ap]);rw [List.nil_append] at t1;obtain⟨g1,g2,g3,g4⟩:=Xy (pre:=Ap [m]) m.toNat a [] l n hg l1 (by rw [t1];simp) (fun o ho=>by cases ho);have hlm:(l.length:Int)=m:=by
  rw [g2,List.length_nil];omega
 refine⟨g1,by omega,g3,?_⟩;rw [hlm];exact g4
theorem Xz {rest:List UInt8}:∀ (l:List Lg) (pre:List UInt8) (bg:List Lg),(∀ o∈l,I2 o)->Te (pre++l.flatMap Rx++rest) l.length pre.length bg=some (bg++l,(pre++l.flatMap Rx).length)
 | [],pre,bg,_=>by simp [Te]
 | o :: l,pre,bg,h=>by
   obtain⟨k,t,r,p,z⟩:=o;obtain⟨h1,h2,-,-,h5⟩:=h _ List.mem_cons_self;have hd:(pre++((k,t,r,p,z) :: l).flatMap Rx++rest).drop pre.length=Je k t r p z++(l.flatMap Rx++rest):=by
    rw [List.append_assoc,List.drop_left,List.flatMap_cons,List.append_assoc];rfl
   have hf:=T8 (l.flatMap Rx++rest) h1 h2 h5;simp only at hf;rw [List.length_cons];unfold Te;rw [hd,hf];simp only;have ih:=Xz (rest:=rest) l (pre++Je k t r p z) (bg++ [(k,t,r,p,z)]) fun o ho=>h o (List.mem_cons_of_mem _ ho);have e1:pre++Je k t r p z++l.flatMap Rx++rest=pre++((k,t,r,p,z) :: l).flatMap Rx++rest:=by
    rw [List.flatMap_cons,List.append_assoc pre];rfl
   have e2:pre++Je k t r p z++l.flatMap Rx=pre++((k,t,r,p,z) :: l).flatMap Rx:=by
    rw [List.flatMap_cons,List.append_assoc pre];rfl
   rw [e1,e2,List.length_append,List.append_assoc bg] at ih;exact ih
theorem Qz {l:List Lg} (rest:List UInt8) (h:∀ o∈l,I2 o) (hl:l.length<=1024):Cj (Ap [(l.length:Int)]++l.flatMap Rx++rest)=some (l,(Ap [(l.length:Int)]++l.flatMap Rx).length):=by
 have hn:=Gf (b:=Ap [(l.length:Int)]++l.flatMap Rx++rest) (rest:=l.flatMap Rx++rest) (L:= []) (M:= []) (n:=(l.length:Int)) (lo:=0) (hi:=1024) (by simp) (by omega) (by omega) (by omega) (by omega);simp only [Cf,List.length_nil,List.nil_append] at hn;unfold Cj;rw [hn];show Te _ (l.length:Int).toNat (Ap [(l.length:Int)]).length []=_;rw [Int.toNat_natCast,Xz l (Ap [(l.length:Int)]) [] h,List.nil_append]
theorem Acq (L:List Bj):(L.map Bj.op).flatMap Rx=L.flatMap J5:=by
 rw [List.flatMap_map];rfl
theorem La (L:List Bj):B7 L=Ap [((L.map Bj.op).length:Int)]++(L.map Bj.op).flatMap Rx:=by
 unfold B7;rw [Acq,List.length_map]
def OO (w:World) (aa:Nat) (A:Option Addr) (c:Nat) (L:List Bj):Prop:=
 w.ownsRow aa 104 5 (.slice A L.length c) L.length (Ec L)/\∀ x∈L,w.ownsRow aa 120 3 (.slice x.A x.p.length x.c) x.p.length (Ed x.p)
theorem OO.below {w w':World} {aa c:Nat} {A:Option Addr} {L:List Bj} (h:OO w aa A c L) (hb:Below w.heap.size w w'):OO w' aa A c L:=
 ⟨Ai h.1 hb (Nat.le_refl _),fun x hx=>Ai (h.2 x hx) hb (Nat.le_refl _)⟩
theorem OO.ro {w:World} {aa c:Nat} {A:Option Addr} {L:List Bj} (h:OO w aa A c L):RO w w.heap.size A L:=
 ⟨RD.of_own h.1,fun x hx=>RR.of_own (h.2 x hx) rfl⟩
theorem OO.nil (w:World) (aa:Nat):OO w aa none 0 []:=⟨World.ownsRow_nil _ _ _ _,fun x hx=>by cases hx⟩
theorem N0 (L M:List Bj):Ec (L++M)=Ec L++Ec M:=by simp [Ec]
theorem T2 (x:Bj):Ec [x]=x.cells:=by simp [Ec]
theorem Nn (x:Bj):∀ u∈x.cells,u.oneCell'=true:=by
 intro u hu;simp only [Bj.cells,List.mem_cons,List.not_mem_nil,or_false] at hu;rcases hu with rfl | rfl | rfl | rfl | rfl <;> rfl
theorem Sa:(Tryz.prog.info? 104).map (fun i=>(i.zero,i.size,i.bytes))=some (some (.agg #[.int .u8 0,.int .u32 0,.int .u8 0,.slice none 0 0,.int .i64 0]),5,48):=by kernel_rfl
theorem Bq {w:World} {aa B:Nat} {e:TypeId} {size n:Nat} {v:Value} {L:List Value} (h:w.ownsRow aa e size v n L) (hB:B<=aa):w.ownsRow B e size v n L:=by
 refine⟨h.1,?_⟩;rcases h.2 with h0 | ⟨g,cap,bh,h1,h2,h3⟩
 ·exact .inl h0
 ·exact .inr ⟨g,cap,bh,h1,Nat.le_trans hB h2,h3⟩
theorem Ef {w w':World} {aa:Nat} {e e':TypeId} {size n:Nat} {v:Value} {L:List Value} (h:w.ownsRow aa e size v n L) (ak:e≠e') (hk:∀ (b:Nat) (o':Obj),w.heap[b]?=some o'->(∀ bh,o'≠ .cells bh e' (0,0))->w'.heap[b]?=some o'):w'.ownsRow aa e size v n L:=by
 refine⟨h.1,?_⟩;rcases h.2 with h0 | ⟨g,cap,bh,h1,h2,h3,h4⟩
 ·exact .inl h0
 ·exact .inr ⟨g,cap,bh,h1,h2,hk g _ h3 (fun bh e=>by simp only [Obj.cells.injEq] at e;exact ak e.2.1),h4⟩
theorem Z9 (w:World) (x:Bj):RD (w.alloc (.cells #[.int .u8 x.k,.int .u32 x.t,.int .u8 x.r,.slice x.A x.p.length x.c,.int .i64 x.z] 104)) (w.alloc (.cells #[.int .u8 x.k,.int .u32 x.t,.int .u8 x.r,.slice x.A x.p.length x.c,.int .i64 x.z] 104)).heap.size 5 (some ⟨w.heap.size,0,none⟩) 1 x.cells:=by
 refine⟨rfl,fun _=>⟨_,_,rfl,by rw [World.size_alloc];omega,fun j u hu=>?_⟩⟩;rw [Nat.zero_add,World.cell?_alloc_new,<-Array.getElem?_toList];exact hu
theorem Jd (w:World) {ops:Array Oper} {rest:List Oper} {o:Oper} {a:Act} {Q:Exit->Act->World->Prop} (CL:o.guard=none) (s x:Operand)
 (ho:o.op= .call { callee:= .builtin .append,args:=#[s,x],argTypes:=#[48,48] })
 (aa:Nat) (A:Option Addr) (c n:Nat) (L:List Bj) (hn:L.length=n) (hs:a.eval s= .slice A n c) (NL:OO w aa A c L)
 (y:Bj) (hy:w.ownsRow aa 120 3 (.slice y.A y.p.length y.c) y.p.length (Ed y.p)) (B:Option Addr) (hx:a.eval x= .slice B 1 1) (hr:RD w w.heap.size 5 B 1 y.cells)
 (uk:n+1<=1073741824) (ao:aa<=w.heap.size)
 (h:∀ A' c' w',OO w' aa A' c' (L++ [y])->Below aa w w'->(∀ (b:Nat) (o':Obj),w.heap[b]?=some o'->(∀ bh,o'≠ .cells bh 104 (0,0))->w'.heap[b]?=some o')->wpList Tryz.prog ops Q rest (a.put o.dst (.slice A' (n+1) c')) w'):wpList Tryz.prog ops Q (o :: rest) a w:=by
 obtain⟨i0,cr,cb,cu,cq⟩:=info_parts Sa;subst hn;refine Ar w CL s x 48 ho aa 104 i0 (.agg #[.int .u8 0,.int .u32 0,.int .u8 0,.slice none 0 0,.int .i64 0]) 5 48 Tryz.underlying48 cr cb cu cq rfl (by decide) _ L.length (Ec L) hs NL.1 w.heap.size B 1 1 y.cells hx hr (Nn y) uk (by decide) ao fun v' w' h1 h2 h3=>?_;obtain⟨A',c',rfl,-,-,-⟩:=Ao h1;refine h A' c' w' ⟨?_,fun q hq=>?_⟩ h2 h3
 ·rw [N0,T2,List.length_append,List.length_singleton];exact h1
 ·rcases List.mem_append.1 hq with hq | hq
  ·exact Ef (NL.2 q hq) (by decide) h3
  ·simp only [List.mem_singleton] at hq;subst hq;exact Ef hy (by decide) h3
end Go.Proofs.YtmkpfdcnikgokaaGreat
