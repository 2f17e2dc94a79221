/-
  Texts of this claim, put together: RdDefs, RefMath, Rd, RdClock. What each theorem asks stands in its statement.
-/
import Derived.Test.YtmkpfdcnikgokaaGreatMd4
import Derived.Test.YtmkpfdcnikgokaaGreatMd7
import Derived.Test.YtmkpfdcnikgokaaGreatMd8
import Derived.Test.YtmkpfdcnikgokaaGreatMd11
import Derived.Test.YtmkpfdcnikgokaaGreatMd27
set_option linter.unusedVariables false
set_option linter.unusedSimpArgs false
set_option maxRecDepth 100000
set_option maxHeartbeats 25600000
namespace Go.Proofs.YtmkpfdcnikgokaaGreat
open Go.RowKit
def J4 (bg:List Sp):Nat->Int->ES->List Sp×ES
 | 0,_,st=>(bg,st)
 | k+1,was,st=>
   if 1073741824 < was+(An 1073741824 st).1+(An 1073741824 (An 1073741824 st).2).1 then J4 (bg++ [(was+(An 1073741824 st).1,0)]) k 0 ((An 1073741824 (An 1073741824 st).2).2.1,true)
   else J4 (bg++ [(was+(An 1073741824 st).1,was+(An 1073741824 st).1+(An 1073741824 (An 1073741824 st).2).1)]) k (was+(An 1073741824 st).1+(An 1073741824 (An 1073741824 st).2).1) (An 1073741824 (An 1073741824 st).2).2
theorem Q1 {bg:List Sp} {k:Nat} {was a b:Int} {st t1 t2:ES} (ha:An 1073741824 st=(a,t1)) (hb:An 1073741824 t1=(b,t2)):
 J4 bg (k+1) was st=if 1073741824 < was+a+b then J4 (bg++ [(was+a,0)]) k 0 (t2.1,true) else J4 (bg++ [(was+a,was+a+b)]) k (was+a+b) t2:=by
 simp only [J4,ha,hb]
def Qb:Nat->List PT->ES->List PT×ES
 | 0,bg,st=>(bg,st)
 | k+1,bg,st=>Qb k (bg++ [((An 255 st).1,(J4 [] (An 1024 (An 255 st).2).1.toNat 0 (An 1024 (An 255 st).2).2).1)]) (J4 [] (An 1024 (An 255 st).2).1.toNat 0 (An 1024 (An 255 st).2).2).2
theorem Q0 {bg:List PT} {k:Nat} {R m:Int} {st r1 r2 r3:ES} {s:List Sp} (ha:An 255 st=(R,r1)) (hb:An 1024 r1=(m,r2)) (hc:J4 [] m.toNat 0 r2=(s,r3)):
 Qb (k+1) bg st=Qb k (bg++ [(R,s)]) r3:=by
 simp only [Qb,ha,hb,hc]
def On (st:ES):List PT×ES:=Qb (An 8 st).1.toNat [] (An 8 st).2
def Rv (st:ES):(Int×Int)×ES:=(((An 1073741824 st).1,(An 255 (An 1073741824 st).2).1),(An 255 (An 1073741824 st).2).2)
def rdW (st:ES):WP×ES:=
 (⟨(Rv st).1.1,(Rv st).1.2,(An 2 (Rv st).2).1 == 1,(An 2 (Rv st).2).1 == 2,(On (An 2 (Rv st).2).2).1,(On (On (An 2 (Rv st).2).2).2).1,
   (Hw [] (An 128 (On (On (An 2 (Rv st).2).2).2).2).1.toNat (An 128 (On (On (An 2 (Rv st).2).2).2).2).2).1⟩,(Hw [] (An 128 (On (On (An 2 (Rv st).2).2).2).2).1.toNat (An 128 (On (On (An 2 (Rv st).2).2).2).2).2).2)
theorem Tw {st a b c d e:ES} {t r n k:Int} {H S:List PT} (h1:Rv st=((t,r),a)) (h2:An 2 a=(n,b)) (h3:On b=(H,c)) (h4:On c=(S,d)) (h5:An 128 d=(k,e)):
 rdW st=(⟨t,r,n == 1,n == 2,H,S,(Hw [] k.toNat e).1⟩,(Hw [] k.toNat e).2):=by
 simp only [rdW,h1,h2,h3,h4,h5]
def Ls (bg:List WP):Nat->ES->List WP×ES
 | 0,st=>(bg,st)
 | k+1,st=>if st.2=true then (bg,st) else Ls (bg++ [(rdW st).1]) k (rdW st).2
def Xg (st:ES):List Lg×ES:=match Cj st.1 with
 | some (l,n)=>(l,(st.1.drop n,st.2))
 | none=>([],(st.1,true))
def Ma (k:Int) (st:ES):(Int×Int)×ES:=if k=5\/k=6 then Rv st else ((0,0),st)
def Vc (k:Int) (st:ES):Int×ES:=if k=6 then An 128 st else (0,st)
def Tk (k:Int) (st:ES):List PT×ES:=if k=2\/k=3\/k=5 then On st else ([],st)
def M4 (k:Int) (st:ES):List WP×ES:=if k=3 then Ls [] (An 65 st).1.toNat (An 65 st).2 else ([],st)
def Vd (k:Int) (st:ES):List Lg×ES:=if k=1\/k=4\/k=6 then Xg st else ([],st)
def Ee (st:ES):MP×ES:=
 (⟨(An 6 st).1,(Ma (An 6 st).1 (An 6 st).2).1.1,(Ma (An 6 st).1 (An 6 st).2).1.2,(Vc (An 6 st).1 (Ma (An 6 st).1 (An 6 st).2).2).1,
   (Tk (An 6 st).1 (Vc (An 6 st).1 (Ma (An 6 st).1 (An 6 st).2).2).2).1,
   (Vd (An 6 st).1 (M4 (An 6 st).1 (Tk (An 6 st).1 (Vc (An 6 st).1 (Ma (An 6 st).1 (An 6 st).2).2).2).2).2).1,
   (M4 (An 6 st).1 (Tk (An 6 st).1 (Vc (An 6 st).1 (Ma (An 6 st).1 (An 6 st).2).2).2).2).1⟩,
  (Vd (An 6 st).1 (M4 (An 6 st).1 (Tk (An 6 st).1 (Vc (An 6 st).1 (Ma (An 6 st).1 (An 6 st).2).2).2).2).2).2)
theorem Cg {st s1 s2 s3 s4 s5 s6:ES} {k t r ix:Int} {I:List PT} {W:List WP} {O:List Lg} (h1:An 6 st=(k,s1)) (h2:Ma k s1=((t,r),s2)) (h3:Vc k s2=(ix,s3)) (h4:Tk k s3=(I,s4)) (h5:M4 k s4=(W,s5)) (h6:Vd k s5=(O,s6)):
 Ee st=(⟨k,t,r,ix,I,O,W⟩,s6):=by
 simp only [Ee,h1,h2,h3,h4,h5,h6]
theorem Ty:∀ (s:List Sp) (bg:List Sp) (was least:Int) (r:List UInt8),0<=was->was<=least->Cc least s->J4 bg s.length was (Ap (B3 was s)++r,false)=(bg++s,(r,false))
 | [],bg,was,least,r,_,_,_=>by simp [J4,B3,Ap]
 | x :: s,bg,was,least,r,h0,h1,hc=>by
   obtain⟨c1,c2,c3,c4⟩:=hc;have e:Ap (B3 was (x :: s))++r=Ap [x.1 - was]++(Ap [x.2 - x.1]++(Ap (B3 x.2 s)++r)):=by
    simp only [B3,Bv,Cf,List.append_nil,List.append_assoc]
   rw [e,List.length_cons,Q1 (Bh _ (by omega) (by omega) (by omega)) (Bh _ (by omega) (by omega) (by omega)),if_neg (by omega),show was+(x.1 - was)=x.1 by omega,show x.1+(x.2 - x.1)=x.2 by omega,Ty s _ x.2 (x.2+2) r (by omega) (by omega) c4,List.append_assoc];rfl
theorem Tx:∀ (Q bg:List PT) (last:Int) (r:List UInt8),-1<=last->Cz last Q->Qb Q.length bg (Ap (Q.flatMap Ca)++r,false)=(bg++Q,(r,false))
 | [],bg,last,r,_,_=>by simp [Qb,Ap]
 | x :: Q,bg,last,r,h0,hc=>by
   obtain⟨c1,c2,c3,c4,c5⟩:=hc;have e:Ap ((x :: Q).flatMap Ca)++r=Ap [x.1]++(Ap [(x.2.length:Int)]++(Ap (B3 0 x.2)++(Ap (Q.flatMap Ca)++r))):=by
    simp only [List.flatMap_cons,Au,Ca,Bv,Cf,List.append_nil,List.append_assoc]
   have c6:=c4.1;have h:=Ty x.2 [] 0 1 (Ap (Q.flatMap Ca)++r) (by omega) (by omega) c4.2;rw [List.nil_append] at h;rw [e,List.length_cons,Q0 (s:=x.2) (r3:=(Ap (Q.flatMap Ca)++r,false)) (Bh _ (by omega) (by omega) (by omega)) (Bh _ (by omega) (by omega) (by omega)) (by rw [Int.toNat_natCast];exact h),Tx Q _ x.1 r (by omega) c5,List.append_assoc];rfl
theorem Mj {P:List PT} (r:List UInt8) (h:Dj P):On (Ap (Az P)++r,false)=(P,(r,false)):=by
 have h8:=Mq h;unfold On;rw [Az,N7,List.append_assoc,Bh _ (by omega) (by omega) (by omega)];simp only;rw [Int.toNat_natCast,Tx P [] (-1) r (by omega) h,List.nil_append]
theorem Sf {t q:Int} (r:List UInt8) (h0:0<=t) (h1:t<=1073741824) (h2:0<=q) (h3:q<=7):Rv (Ap [t,q]++r,false)=((t,q),(r,false)):=by
 unfold Rv;rw [N7 t,List.append_assoc,Bh _ h0 h1 (by omega)];simp only;rw [Bh _ h2 (by omega) (by omega)]
theorem Acl {x:WP} (r:List UInt8) (h:Zw x):rdW (L8 x++r,false)=(x,(r,false)):=by
 obtain⟨t,q,rd,kn,H,S,G⟩:=x;obtain⟨a,b,c,d,e,f,g,i⟩:=h;simp only at a b c d e f g i;have h0:=O4 rd kn;have e0:L8 ⟨t,q,rd,kn,H,S,G⟩++r=Ap [t,q]++(Ap [U8 rd kn]++(Ap (Az H)++(Ap (Az S)++(Ap [(G.length:Int)]++(Ap (G.map bn)++r))))):=by
  unfold L8 H7 Ff;simp only;rw [Au,Au,Au,N7 _ (List.map _ _),show [t,q,U8 rd kn]= [t,q]++ [U8 rd kn] from rfl,Au];simp only [List.append_assoc]
 rw [e0,Tw (Sf _ a b c d) (Bh _ h0.1 h0.2 (by omega)) (Mj _ f) (Mj _ g) (Bh _ (by omega) (by omega) (by omega)),Int.toNat_natCast,Pp,List.nil_append];cases rd <;> cases kn <;> first | rfl | (exact absurd (e rfl) (by decide))
theorem Tv:∀ (s bg:List WP) (r:List UInt8),(∀ x∈s,Zw x)->Ls bg s.length (s.flatMap L8++r,false)=(bg++s,(r,false))
 | [],bg,r,_=>by simp [Ls]
 | x :: s,bg,r,h=>by
   rw [List.flatMap_cons,List.append_assoc,List.length_cons];simp only [Ls];rw [if_neg (by decide),Acl _ (h x List.mem_cons_self)];simp only;rw [Tv s _ r (fun y hy=>h y (List.mem_cons_of_mem _ hy)),List.append_assoc];rfl
theorem Xr {O:List Lg} (r:List UInt8) (h:∀ o∈O,I2 o) (hl:O.length<=1024):Xg (J2 O++r,false)=(O,(r,false)):=by
 unfold Xg;simp only;rw [J2,Qz r h hl];simp only;rw [List.drop_left]
theorem Yk {x:MP} (r:List UInt8) (h:B8 x) (g:Oy x):Ee (Bi x++r,false)=(x,(r,false)):=by
 have hx:=Gd.1 h.2;have hp:=h.1;have k7:=fun hk=>Io h hk;have KR:=fun hk=>K5 h hk;have BC:=fun hk=>Kf h hk;have vo:=fun hk=>Le h hk;obtain⟨k,t,q,ix,I,O,W⟩:=x;obtain⟨g1,g2,g3,g4⟩:=g;simp only at k7 KR BC vo g1 g2 g3 g4;have hk:(k=1\/k=4)\/k=2\/k=3\/k=5\/k=6:=by
  rcases hp with⟨h | h,-⟩ | ⟨h,-⟩ | ⟨h,-⟩ | ⟨h,-⟩ | ⟨h,-⟩ <;> simp only at h <;> omega
 unfold Rw at hx;simp only at hx;rcases hk with hk | rfl | rfl | rfl | rfl
 ·rw [if_pos hk] at hx;simp only [MP.mk.injEq,true_and,and_true] at hx;obtain⟨rfl,rfl,rfl,rfl,rfl⟩:=hx;have ho:=KR hk;have e:Bi ⟨k,0,0,0, [],O, []⟩++r=Ap [k]++(J2 O++r):=by
   unfold Bi;simp only;rw [if_neg (by omega),if_neg (by omega),if_neg (by omega),if_neg (by omega),List.append_assoc]
  rw [e]
  exact Cg (Bh (most:=6) _ (show 0<=k by omega) (by omega) (by omega)) (if_neg (by omega)) (if_neg (by omega)) (if_neg (by omega)) (if_neg (by omega)) (by
   unfold Vd
   rw [if_pos (by omega)]
   exact Xr r (fun o hO=>Ms (ho.2.2 o hO) (g3 o hO)) (by have:=ho.2.1;omega))
 ·rw [if_neg (by decide),if_pos rfl] at hx;simp only [MP.mk.injEq,true_and,and_true] at hx;obtain⟨rfl,rfl,rfl,rfl,rfl⟩:=hx;have e:Bi ⟨2,0,0,0,I, [], []⟩++r=Ap [2]++(Ap (Az I)++r):=by
   unfold Bi;simp only;rw [if_pos trivial,List.append_assoc]
  rw [e]
  exact Cg (Bh (most:=6) _ (show (0:Int)<=2 by omega) (by omega) (by omega)) (if_neg (by omega)) (if_neg (by omega)) (by
   unfold Tk
   rw [if_pos (by omega)]
   exact Mj r (k7 (.inl rfl)).1) (if_neg (by omega)) (if_neg (by omega))
 ·rw [if_neg (by decide),if_neg (by decide),if_pos rfl] at hx;simp only [MP.mk.injEq,true_and,and_true] at hx;obtain⟨rfl,rfl,rfl,rfl⟩:=hx;have hw:=BC rfl;have h65:=(I7 hw).1;have e:Bi ⟨3,0,0,0,I, [],W⟩++r=Ap [3]++(Ap (Az I)++(Ap [(W.length:Int)]++(W.flatMap L8++r))):=by
   unfold Bi;simp only;rw [if_neg (by decide),if_pos trivial];simp only [List.append_assoc]
  rw [e]
  exact Cg (Bh (most:=6) _ (show (0:Int)<=3 by omega) (by omega) (by omega)) (if_neg (by omega)) (if_neg (by omega)) (by
   unfold Tk
   rw [if_pos (by omega)]
   exact Mj _ (k7 (.inr (.inl rfl))).1) (by
   unfold M4
   rw [if_pos rfl,Bh (most:=65) _ (show (0:Int)<=W.length by omega) (by omega) (by omega)]
   simp only
   rw [Int.toNat_natCast,Tv W [] r (Nd hw g4),List.nil_append]) (if_neg (by omega))
 ·rw [if_neg (by decide),if_neg (by decide),if_neg (by decide),if_pos rfl] at hx;simp only [MP.mk.injEq,true_and,and_true] at hx;obtain⟨rfl,rfl,rfl⟩:=hx;have hs:Fb t q:=by
   rcases hp with⟨h,-⟩ | ⟨h,-⟩ | ⟨h,-⟩ | ⟨-,h,-⟩ | ⟨h,-⟩
   ·simp only at h;omega
   ·simp only at h;omega
   ·simp only at h;omega
   ·exact h
   ·simp only at h;omega
  obtain⟨s1,s2⟩:=R8 hs;have e:Bi ⟨5,t,q,0,I, [], []⟩++r=Ap [5]++(Ap [t,q]++(Ap (Az I)++r)):=by
   unfold Bi;simp only;rw [if_neg (by decide),if_neg (by decide),if_pos trivial];simp only [List.append_assoc]
  rw [e]
  exact Cg (Bh (most:=6) _ (show (0:Int)<=5 by omega) (by omega) (by omega)) (by
   unfold Ma
   rw [if_pos (by omega)]
   exact Sf _ g1 s1 g2 s2) (if_neg (by omega)) (by
   unfold Tk
   rw [if_pos (by omega)]
   exact Mj r (k7 (.inr (.inr rfl))).1) (if_neg (by omega)) (if_neg (by omega))
 ·rw [if_neg (by decide),if_neg (by decide),if_neg (by decide),if_neg (by decide),if_pos rfl] at hx;simp only [MP.mk.injEq,true_and,and_true] at hx;obtain⟨rfl,rfl⟩:=hx;have hs:Fb t q:=by
   rcases hp with⟨h,-⟩ | ⟨h,-⟩ | ⟨h,-⟩ | ⟨h,-⟩ | ⟨-,h,-⟩
   ·simp only at h;omega
   ·simp only at h;omega
   ·simp only at h;omega
   ·simp only at h;omega
   ·exact h
  obtain⟨s1,s2⟩:=R8 hs;obtain⟨x1,x2,ho⟩:=vo rfl;have e:Bi ⟨6,t,q,ix, [],O, []⟩++r=Ap [6]++(Ap [t,q]++(Ap [ix]++(J2 O++r))):=by
   unfold Bi;simp only;rw [if_neg (by decide),if_neg (by decide),if_neg (by decide),if_pos trivial];simp only [Bv,Cf,List.append_nil,List.append_assoc]
  rw [e]
  exact Cg (Bh (most:=6) _ (show (0:Int)<=6 by omega) (by omega) (by omega)) (by
   unfold Ma
   rw [if_pos (by omega)]
   exact Sf _ g1 s1 g2 s2) (by
   unfold Vc
   rw [if_pos rfl]
   exact Bh (most:=128) _ x1 (by omega) (by omega)) (if_neg (by omega)) (if_neg (by omega)) (by
   unfold Vd
   rw [if_pos (by omega)]
   exact Xr r (fun o hO=>Ms (ho.2.2 o hO) (g3 o hO)) (by have:=ho.2.1;omega))
theorem Oj (most:Int) (st:ES):0<=(An most st).1:=by
 unfold An;split
 ·exact Int.le_refl _
 ·split
  ·split
   ·exact Int.le_refl _
   ·simp only;omega
  ·exact Int.le_refl _
theorem Xq:∀ (k:Nat) (bg:List WP) (st:ES),(∀ x∈bg,0<=x.t/\0<=x.r)->∀ x∈(Ls bg k st).1,0<=x.t/\0<=x.r
 | 0,bg,st,h,x,hx=>h x hx
 | k+1,bg,st,h,x,hx=>by
   simp only [Ls] at hx;split at hx
   ·exact h x hx
   ·refine Xq k _ _ (fun y hy=>?_) x hx;rcases List.mem_append.1 hy with hy | hy
    ·exact h y hy
    ·simp only [List.mem_singleton] at hy;subst hy;exact⟨Oj _ _,Oj _ _⟩
theorem Tz (st:ES):∀ o∈(Xg st).1,I2 o:=by
 unfold Xg;split
 ·rename_i l n h
  exact (Fv h).1
 ·exact fun o h=>by cases h
theorem Wj (st:ES):Oy (Ee st).1:=by
 refine⟨?_,?_,fun o ho=>?_,fun y hy=>?_⟩
 ·show 0<=(Ma _ _).1.1;unfold Ma;split
  ·exact Oj _ _
  ·exact Int.le_refl _
 ·show 0<=(Ma _ _).1.2;unfold Ma;split
  ·exact Oj _ _
  ·exact Int.le_refl _
 ·change o∈(Vd _ _).1 at ho;unfold Vd at ho;split at ho
  ·have:=Tz _ o ho;exact⟨this.2.1,this.2.2.2.2⟩
  ·cases ho
 ·change y∈(M4 _ _).1 at hy;unfold M4 at hy;split at hy
  ·exact Xq _ _ _ (fun x hx=>by cases hx) y hy
  ·cases hy
def Jh (b:List UInt8):Option MP:=if (Ee (b,false)).2.2=false/\(Ee (b,false)).2.1.length=0/\B8 (Ee (b,false)).1/\Bi (Ee (b,false)).1=b then some (Ee (b,false)).1 else none
theorem Q3 (b:List UInt8):Jh b=G1 b:=by
 unfold Jh;split
 ·rename_i h
  have:=Abr h.2.2.1 (Wj (b,false));rw [h.2.2.2] at this;exact this.symm
 ·rename_i h
  cases hg:G1 b with
  | none=>rfl
  | some x=>
    obtain⟨e,hm,g⟩:=Abq hg;have h1:=Yk [] hm g;rw [List.append_nil,<-e] at h1;exact (h (by rw [h1];exact⟨rfl,rfl,hm,e.symm⟩)).elim
def Ti (w:World) (g:Nat) (A:Option Addr) (n c:Nat) (bad:Bool):Prop:=w.heap[g]?=some (.cells #[.slice A n c,.bool bad] 150 (0,0))
theorem Ti.lt {w:World} {g n c:Nat} {A:Option Addr} {bad:Bool} (h:Ti w g A n c bad):g < w.heap.size:=(Array.getElem?_eq_some_iff.1 h).1
theorem Ti.cells {w:World} {g n c:Nat} {A:Option Addr} {bad:Bool} (h:Ti w g A n c bad):w.cell? ⟨g,0,none⟩=some (.slice A n c)/\w.cell? ⟨g,1,none⟩=some (.bool bad):=by
 refine⟨?_,?_⟩ <;> (rw [cell_of_row _ _ _ _ _ _ h];rfl)
theorem Ti.below {w w':World} {g n c:Nat} {A:Option Addr} {bad:Bool} (h:Ti w g A n c bad) (hb:Below w.heap.size w w'):Ti w' g A n c bad:=(hb.block g h.lt).trans h
theorem Ti.set0 {w:World} {g n c n' c':Nat} {A A':Option Addr} {bad:Bool} (h:Ti w g A n c bad):Ti (w.setCell ⟨g,0,none⟩ (.slice A' n' c')) g A' n' c' bad:=heap_setCell_same _ _ _ _ _ _ h
theorem Ti.set1 {w:World} {g n c:Nat} {A:Option Addr} {bad:Bool} (h:Ti w g A n c bad) (b2:Bool):Ti (w.setCell ⟨g,1,none⟩ (.bool b2)) g A n c b2:=heap_setCell_same _ _ _ _ _ _ h
def RY (w:World) (g:Nat) (st:ES):Prop:=∃ A c,Ti w g A st.1.length c st.2/\Gp w g A st.1/\st.1.length<=c/\st.1.length < 1073741824/\(A=none->c=0)
theorem RY.below {w w':World} {g:Nat} {st:ES} (h:RY w g st) (hb:Below w.heap.size w w'):RY w' g st:=by
 obtain⟨A,c,h1,h2,h3⟩:=h;exact⟨A,c,h1.below hb,Gp.below h2 (hb.mono (Nat.le_of_lt h1.lt)),h3⟩
theorem RY.other {w:World} {g:Nat} {st:ES} (h:RY w g st) {g':Nat} (hg:g < g') (off:Nat) (v:Value):RY (w.setCell ⟨g',off,none⟩ v) g st:=by
 obtain⟨A,c,h1,h2,h3⟩:=h;refine⟨A,c,(heap_setCell_other _ _ _ _ (by simp only;omega)).trans h1,Gp.below h2 ((Below.refl g w).setCell (by simp only;omega) _),h3⟩
theorem RY.lt {w:World} {g:Nat} {st:ES} (h:RY w g st):g < w.heap.size:=by
 obtain⟨A,c,h1,-⟩:=h;exact h1.lt
theorem Aeo (g:Nat) (most:Int) (st:ES) (w:World) (h:RY w g st):
 Calls Tryz.prog 137 #[.pointer (some ⟨g,0,none⟩),.int .i64 most] w fun e w'=>e= .returned (.int .i64 (An most st).1)/\RY w' g (An most st).2/\Ah g w w':=by
 obtain⟨A,c,hE,hr,hc,hl,hA⟩:=h;obtain⟨l,bad⟩:=st;simp only at hE hr hc hl;have ai:=hE.lt;obtain⟨c0,c1⟩:=hE.cells;have f1:=frozen_of_row w g 1 _ _ hE
 have G:=Aa (fun W (hW:W=w)=>by
  have:=Jq A c l W (by rw [hW];exact RD.more hr.1 (Nat.le_of_lt ai)) hl
  exact this)
 have E1:=fun b2=>hE.set1 b2;have e1:=fun b2=>(hE.set1 b2).cells
 cases hg:Ew l with
 | none=>
   rw [hg] at G
   have HV:=Aa (show An most (l,bad)=(0,(l,true)) by
    unfold An
    cases bad with
    | true=>rfl
    | false=>simp [hg])
   obtain⟨k0,k1⟩:=e1 true;have HF:=Aa (show RY (w.setCell ⟨g,1,none⟩ (.bool true)) g (l,true) from⟨A,c,E1 true,Gp.below hr ((Below.refl g w).setCell (Nat.le_refl _) _),hc,hl,hA⟩);have HO:=Aa (Ah.set g 1 w (.bool true));unfold Fp at G;clear hg hE hr hA e1 E1;go_enter Tryz.func137,Tryz.ntmps137;go_wp2_with fail;refine (Ag G w rfl).mono ?_;rintro e w2 ⟨rfl,rfl⟩;cases bad
   all_goals
    go_wp2_with fail;go_ret;exact⟨by rw [HV.out];rfl,by rw [HV.out];exact HF.out,HO.out⟩
 | some q=>
   obtain⟨m,s⟩:=q;obtain⟨-,v2,-,-⟩:=D6 hg;have af:1<=s:=by
    obtain⟨-,-,v3,v4⟩:=D6 hg;have:=Lv m;omega
   rw [hg] at G;unfold Fp at G
   cases bad with
   | true=>
     have HV:=Aa (show An most (l,true)=(0,(l,true)) from rfl);obtain⟨k0,k1⟩:=e1 true;have HF:=Aa (show RY (w.setCell ⟨g,1,none⟩ (.bool true)) g (l,true) from⟨A,c,E1 true,Gp.below hr ((Below.refl g w).setCell (Nat.le_refl _) _),hc,hl,hA⟩);have HO:=Aa (Ah.set g 1 w (.bool true));clear hg hE hr hA e1 E1;go_enter Tryz.func137,Tryz.ntmps137;go_wp2_with fail;refine (Ag G w rfl).mono ?_;rintro e w2 ⟨rfl,rfl⟩;go_wp2_with fail;go_ret;exact⟨by rw [HV.out];rfl,by rw [HV.out];exact HF.out,HO.out⟩
   | false=>
     by_cases hm:most < (m:Int)
     ·have HV:=Aa (show An most (l,false)=(0,(l,true)) by unfold An;simp [hg,hm]);obtain⟨k0,k1⟩:=e1 true;have HF:=Aa (show RY (w.setCell ⟨g,1,none⟩ (.bool true)) g (l,true) from⟨A,c,E1 true,Gp.below hr ((Below.refl g w).setCell (Nat.le_refl _) _),hc,hl,hA⟩);have HO:=Aa (Ah.set g 1 w (.bool true));clear hg hE hr hA e1 E1;go_enter Tryz.func137,Tryz.ntmps137;go_wp2_with fail;refine (Ag G w rfl).mono ?_;rintro e w2 ⟨rfl,rfl⟩;go_wp2_with fail;go_ret;exact⟨by rw [HV.out];rfl,by rw [HV.out];exact HF.out,HO.out⟩
     ·have HV:=Aa (show An most (l,false)=((m:Int),(l.drop s,false)) by unfold An;simp [hg,hm]);have f0:=frozen_of_row w g 0 _ _ hE;obtain⟨b0,o0,rfl,py,-⟩:=RB.cell hr.1 (by omega);obtain⟨SA,SC,ma⟩:∃ (SA:Option Addr) (SC:Nat),(c=s/\SA=some ⟨b0,o0,none⟩/\SC=0\/¬ c=s/\SA=some ⟨b0,o0+s,none⟩/\SC=c - s):=by
       by_cases h:c=s
       ·exact⟨_,_,.inl ⟨h,rfl,rfl⟩⟩
       ·exact⟨_,_,.inr ⟨h,rfl,rfl⟩⟩
      have vd:RB w g SA (l.drop s):=by
       rcases ma with⟨h1,-,-⟩ | ⟨-,rfl,-⟩
       ·rw [List.drop_eq_nil_of_le (by omega)];exact RD.nil_
       ·have:=hr.1.sub s l.length (Nat.le_refl _);rwa [List.take_length] at this
      have xe:Gp w g SA (l.drop s):=⟨vd,fun q hq=>by rcases ma with⟨-,h2,-⟩ | ⟨-,h2,-⟩ <;> (rw [h2] at hq;cases hq;have h9:=hr.2 _ rfl;exact h9)⟩;have E2:Ti (w.setCell ⟨g,0,none⟩ (.slice SA (l.length - s) SC)) g SA (l.length - s) SC false:=hE.set0
      have HF:=Aa (show RY (w.setCell ⟨g,0,none⟩ (.slice SA (l.length - s) SC)) g (l.drop s,false) from⟨SA,SC,by rw [List.length_drop];exact E2,Gp.below xe ((Below.refl g w).setCell (Nat.le_refl _) _),by
       rw [List.length_drop]
       rcases ma with⟨h1,-,h2⟩ | ⟨h1,-,h2⟩ <;> omega,by rw [List.length_drop];omega,fun h=>by rcases ma with⟨-,h2,-⟩ | ⟨-,h2,-⟩ <;> (rw [h2] at h;cases h)⟩)
      have HO:=Aa (Ah.set g 0 w (.slice SA (l.length - s) SC));have zs0:(0:Int)<=s:=by omega
      have zs1:(s:Int)<=l.length:=by omega
      have zs2:(s:Int)<=c:=by omega
      have zs3:(l.length:Int)<=c:=by omega
      have GB:=Aa hl;have hmd:decide (most < (m:Int))=false:=decide_eq_false hm;clear hg hE hr hA e1 E1 E2 xe vd;go_enter Tryz.func137,Tryz.ntmps137;go_wp2_with fail;refine (Ag G w rfl).mono ?_;rintro e w2 ⟨rfl,rfl⟩;rcases ma with⟨px,rfl,rfl⟩ | ⟨px,rfl,rfl⟩
      all_goals
       go_wp2_with fail;go_ret;exact⟨by rw [HV.out];rfl,by rw [HV.out];exact HF.out,HO.out⟩
theorem RY.cell1 {w:World} {g:Nat} {st:ES} (h:RY w g st):w.cell? ⟨g,1,none⟩=some (.bool st.2):=by
 obtain⟨A,c,h1,-⟩:=h;exact h1.cells.2
theorem RY.fr1 {w:World} {g:Nat} {st:ES} (h:RY w g st):w.frozen? ⟨g,1,none⟩=false:=by
 obtain⟨A,c,h1,-⟩:=h;exact frozen_of_row w g 1 _ _ h1
theorem RY.setBad {w:World} {g:Nat} {st:ES} (h:RY w g st) (b:Bool):RY (w.setCell ⟨g,1,none⟩ (.bool b)) g (st.1,b):=by
 obtain⟨A,c,h1,h2,h3⟩:=h;exact⟨A,c,h1.set1 b,Gp.below h2 ((Below.refl g w).setCell (Nat.le_refl _) _),h3⟩
theorem Fd (g:Nat) (most:Int) (st:ES) (w:World) (h:RY w g st) (x:Int) (s2:ES) (hx:An most st=(x,s2)) (h0:0<=most):
 Calls Tryz.prog 137 #[.pointer (some ⟨g,0,none⟩),.int .i64 most] w fun e w'=>e= .returned (.int .i64 x)/\RY w' g s2/\Ah g w w'/\0<=x/\x<=most:=by
 have h1:=Mt most st h0;rw [hx] at h1;refine (Aeo g most st w h).mono ?_;rintro e w' ⟨he,h2,h3⟩;rw [hx] at he h2;exact⟨he,h2,h3,h1⟩
theorem Se (g:Nat) (st:ES) (w:World) (h:RY w g st) (t r:Int) (s2:ES) (hx:Rv st=((t,r),s2)):
 Calls Tryz.prog 138 #[.pointer (some ⟨g,0,none⟩)] w fun e w'=>e= .returned (.agg #[.int .u32 t,.int .u8 r])/\RY w' g s2/\Ah g w w'/\0<=t/\t<=1073741824/\0<=r/\r<=255:=by
 unfold Rv at hx;obtain⟨x,s1,h1⟩:∃ x s,An 1073741824 st=(x,s):=⟨_,_,rfl⟩;rw [h1] at hx;simp only at hx;obtain⟨y,s3,h2⟩:∃ x s,An 255 s1=(x,s):=⟨_,_,rfl⟩;rw [h2] at hx;simp only [Prod.mk.injEq] at hx;obtain⟨⟨rfl,rfl⟩,rfl⟩:=hx;obtain⟨w1,au,F1,af,ac⟩:=Dr w (.int .u32 0) (.int .u8 0) 46;have ai:=h.lt;have H1:=Aa h1;have H2:=Aa h2;have qd:=Aa (h.below ac);have p9:=Aa (Ah.below ac (Nat.le_of_lt ai));have az:=Aa F1;have dh:=Aa (show w.heap.size≠g by omega);obtain⟨gx,an⟩:∃ q,q=w.heap.size:=⟨_,rfl⟩;have av:=Aa an;have Hg:=Aa (show g < gx by omega);have kj:=Aa (Nat.le_of_lt ai);rw [<-an] at az dh;clear h1 h2 F1 ac af h ai;go_enter Tryz.func138,Tryz.ntmps138;go_wp2_with fail;rw [<-an];clear an au;refine (Fd g 1073741824 st w1 qd.out x s1 H1.out (by decide)).mono ?_;rintro e w2 ⟨rfl,j9,dy,x0,x1⟩;have m7:=Aa j9;have td:=Aa (p9.out.trans dy);have db:=Aa (az.out.only dy dh.out);have hxu:IntKind.u32.wrap x=x:=IntWalk.u32_in _ (by omega);clear j9 dy;go_wp2_with fail;refine (Fd g 255 s1 w2 m7.out y s3 H2.out (by decide)).mono ?_;rintro e w3 ⟨rfl,lm,gj,y0,y1⟩;have hyu:IntKind.u8.wrap y=y:=by simp [IntKind.wrap,IntKind.bits,IntKind.signed];omega
 have bz:=Aa (db.out.only gj dh.out);have im:=Aa (td.out.trans gj);have gd:=Aa lm;obtain⟨c0,c1⟩:=bz.out.cells;have f0:=bz.out.fr 0;have f1:=bz.out.fr 1;clear lm gj;go_wp2_with fail;have F5:PB ((w3.setCell ⟨gx,0,none⟩ (.int .u32 x)).setCell ⟨gx,1,none⟩ (.int .u8 y)) gx (.int .u32 x) (.int .u8 y) 46:=(bz.out.set0 _).set1 _;have E5:RY ((w3.setCell ⟨gx,0,none⟩ (.int .u32 x)).setCell ⟨gx,1,none⟩ (.int .u8 y)) g s3:=(gd.out.other Hg.out 0 _).other Hg.out 1 _;have O5:Ah g w ((w3.setCell ⟨gx,0,none⟩ (.int .u32 x)).setCell ⟨gx,1,none⟩ (.int .u8 y)):=(im.out.setNew (Nat.le_of_eq av.out.symm) kj.out 0 _).setNew (Nat.le_of_eq av.out.symm) kj.out 1 _;generalize (w3.setCell ⟨gx,0,none⟩ (.int .u32 x)).setCell ⟨gx,1,none⟩ (.int .u8 y)=WW at F5 E5 O5 |-;obtain⟨v0,v1⟩:=F5.cells;exact bodyPost_ret (v:= .agg #[.int .u32 x,.int .u8 y]) (by simp [results,Tryz.results138,go_sem,v0,v1]) rfl ⟨rfl,E5,O5,x0,x1,y0,y1⟩
theorem RY.belowB {w w':World} {g B:Nat} {st:ES} (h:RY w g st) (hb:Below B w w') (hg:g < B):RY w' g st:=by
 obtain⟨A,c,h1,h2,h3⟩:=h;exact⟨A,c,(hb.block g hg).trans h1,Gp.below h2 (hb.mono (Nat.le_of_lt hg)),h3⟩
theorem Mi (g:Nat) (st:ES) (w:World) (h:RY w g st) (P:List PT) (s9:ES) (hx:On st=(P,s9)):
 Calls Tryz.prog 139 #[.pointer (some ⟨g,0,none⟩)] w fun e w'=>∃ A c L,e= .returned (.slice A (List.length (α:=Aq) L) c)/\L.map Aq.pt=P/\Da w' w.heap.size A c L/\(∀ x∈L,M1 x)/\L.length<=8/\RY w' g s9/\Ah g w w':=by
 obtain⟨i0,cr,cb,cu,cq⟩:=info_parts R7;have ai:=h.lt;have kj:=Aa ai;have fs:=Aa (Nat.le_of_lt ai);unfold On at hx;obtain⟨n,s1,h1⟩:∃ x s,An 8 st=(x,s):=⟨_,_,rfl⟩;rw [h1] at hx;simp only at hx;have H1:=Aa h1;have HX:=Aa hx;have HE:=Aa h;clear h1 hx h ai;go_enter Tryz.func139,Tryz.ntmps139;go_wp2_with fail;refine (Fd g 8 st w HE.out n s1 H1.out (by decide)).mono ?_;rintro e w2 ⟨rfl,j9,dy,x0,x1⟩;have m7:=Aa j9;have td:=Aa dy;obtain⟨N,rfl⟩:∃ N:Nat,n=N:=⟨n.toNat,by omega⟩;have DF:=HX;rw [Int.toNat_natCast] at DF;clear j9 dy HX HE;go_wp2_with fail
 go_loopw [3,5] (fun v i wr=>∃ (j:Nat) (A:Option Addr) (c:Nat) (L:List Aq) (sj:ES),j<=N/\i= .int .i64 (j:Int)/\v= .slice A j c/\Hid (L.length=j)/\Hid (Qb (N - j) (L.map Aq.pt) sj=(P,s9))/\Hid (Da wr w.heap.size A c L)/\Hid (∀ x∈L,M1 x)/\Hid (RY wr g sj)/\Hid (Ah g w wr)) (fun _ i _=>N - (intOf i).toNat)
 case atStart=>exact⟨0,none,0, [],s1,by omega,rfl,rfl,Aa rfl,DF,Aa (Da.nil _ _),Aa (fun x hx=>by cases hx),m7,td⟩
 case round=>
  obtain⟨j,A,c,L,sj,hj,rfl,rfl,AQ,HP,HT,HK,mz,tc⟩:=hrel;clear DF m7 td;by_cases ai:j < N
  ·have z0:(j:Int) < N:=by omega
   have BY:=HP;rw [show N - j=(N - (j+1))+1 by omega] at BY;obtain⟨R,r1,hR⟩:∃ x s,An 255 sj=(x,s):=⟨_,_,rfl⟩;obtain⟨m,r2,hm⟩:∃ x s,An 1024 r1=(x,s):=⟨_,_,rfl⟩;have HR:=Aa hR;have Hm:=Aa hm;clear HP hR hm;go_wp2_with fail;refine (Fd g 255 sj wr mz.out R r1 HR.out (by decide)).mono ?_;rintro e w3 ⟨rfl,lm,gj,R0,R1⟩;have gd:=Aa lm;have im:=Aa (tc.out.trans gj);have YJ:=Aa (HT.out.at kj.out gj);have hRu:IntKind.u8.wrap R=R:=by simp [IntKind.wrap,IntKind.bits,IntKind.signed];omega
   obtain⟨w4,eo,F4,NC,aw⟩:=Dr w3 (.int .u8 R) (.slice none 0 0) 123;have DR:=gd.out.lt;obtain⟨gx,an⟩:∃ q,q=w3.heap.size:=⟨_,rfl⟩;have av:=Aa an;have Hg:=Aa (show g < gx by rw [an];exact DR);have me:=Aa (show w.heap.size<=gx by rw [an];exact im.out.1.size);have mf:=Aa (gd.out.below aw);have wk:=Aa (Ah.below aw (Nat.le_of_lt DR));have ca:Hid (PB w4 gx (.int .u8 R) (.slice none 0 0) 123):=Aa (by rw [an];exact F4);have JU:=Aa eo;clear HT tc mz lm gj F4 aw DR an eo;go_wp2_with fail;rw [JU.out,<-av.out];clear JU;refine (Fd g 1024 r1 w4 mf.out m r2 Hm.out (by decide)).mono ?_;rintro e w5 ⟨rfl,hE5,qf,m0,m1⟩;have jt:=Aa hE5;have jm:=Aa (wk.out.trans qf);have cl:=Aa (ca.out.only qf (by have:=Hg.out;omega));obtain⟨M,rfl⟩:∃ M:Nat,m=M:=⟨m.toNat,by omega⟩;clear hE5 qf mf wk ca;go_wp2_with fail
   go_loopw [8,9] (fun v i wr=>∃ (k:Nat) (was:Int) (A2:Option Addr) (c2:Nat) (l:List Sp) (sk:ES),k<=M/\i= .int .i64 (k:Int)/\v= .int .i64 was/\0<=was/\was<=1073741824/\Hid (l.length=k)/\Hid (J4 l (M - k) was sk=J4 [] M 0 r2)/\Hid (PB wr gx (.int .u8 R) (.slice A2 (List.length (α:=Sp) l) c2) 123)/\Hid (wr.ownsRow gx 129 2 (.slice A2 (List.length (α:=Sp) l) c2) l.length (Lp l))/\Hid (∀ x∈l,Zr x)/\Hid (RY wr g sk)/\Hid (Ah g w3 wr)) (fun _ i _=>M - (intOf i).toNat)
   case atStart=>exact⟨0,0,none,0, [],r2,by omega,rfl,rfl,by decide,by decide,Aa rfl,Aa rfl,cl,Aa (World.ownsRow_nil _ _ _ _),Aa (fun x hx=>by cases hx),jt,jm⟩
   case round=>
    obtain⟨k,was,A2,c2,l,sk,hk,rfl,rfl,ZX,dq,GB,HS,HF,ta,OI,OK,KH⟩:=hrel;clear jt jm cl;by_cases nf:k < M
    ·have z1:(k:Int) < M:=by omega
     have OG:=HS;rw [show M - k=(M - (k+1))+1 by omega] at OG;obtain⟨a,t1,ha⟩:∃ x s,An 1073741824 sk=(x,s):=⟨_,_,rfl⟩;obtain⟨b,t2,hb⟩:∃ x s,An 1073741824 t1=(x,s):=⟨_,_,rfl⟩;rw [Q1 ha hb] at OG;have OF:=Aa OG.out;have Ha:=Aa ha;have Hb:=Aa hb;clear HS OG ha hb;go_wp2_with fail;refine (Fd g 1073741824 sk _ OK.out a t1 Ha.out (by decide)).mono ?_;rintro e w6 ⟨rfl,EQ,uh,a0,a1⟩;have iz:=Aa EQ;have fa:=Aa (KH.out.trans uh);have bj:=Aa (HF.out.only uh (by have:=Hg.out;omega));have p8:=Aa (Fu ta.out Hg.out uh);have ha64:IntKind.i64.wrap (was+a)=was+a:=IntWalk.i64_in _ (by omega);clear EQ uh OK KH HF ta;go_wp2_with fail;refine (Fd g 1073741824 t1 w6 iz.out b t2 Hb.out (by decide)).mono ?_;rintro e w7 ⟨rfl,hE7,mi,b0,b1⟩;have kz:=Aa hE7;have kp:=Aa (fa.out.trans mi);have dg:=Aa (bj.out.only mi (by have:=Hg.out;omega));have oh:=Aa (Fu p8.out Hg.out mi);have hb64:IntKind.i64.wrap (was+a+b)=was+a+b:=IntWalk.i64_in _ (by omega);clear hE7 mi iz fa bj p8;by_cases jv:(1073741824:Int) < was+a+b
     ·have sz:=Aa (show J4 (l++ [(was+a,0)]) (M - (k+1)) 0 (t2.1,true)=J4 [] M 0 r2 by rw [<-OF.out,if_pos jv]);have f1:=kz.out.fr1;have c1:=kz.out.cell1;obtain⟨TA,KP⟩:∃ q,w7.setCell ⟨g,1,none⟩ (.bool true)=q:=⟨_,rfl⟩;have HE7b:=Aa (show RY TA g (t2.1,true) by rw [<-KP];exact kz.out.setBad true);have HO7b:=Aa (show Ah g w3 TA by rw [<-KP];exact kp.out.trans (Ah.set g 1 w7 (.bool true)));have HF7b:=Aa (show PB TA gx (.int .u8 R) (.slice A2 l.length c2) 123 by rw [<-KP];exact dg.out.only (Ah.set g 1 w7 (.bool true)) (by have:=Hg.out;omega));have HR7b:=Aa (show TA.ownsRow gx 129 2 (.slice A2 l.length c2) l.length (Lp l) by rw [<-KP];exact Fu oh.out Hg.out (Ah.set g 1 w7 (.bool true)));clear kz kp dg oh;obtain⟨w8,ug,F8,AC,dj⟩:=Dr TA (.int .u32 (was+a)) (.int .u32 (0)) 129;have jf:RD w8 w8.heap.size 2 (some ⟨TA.heap.size,0,none⟩) 1 [.int .u32 (was+a),.int .u32 (0)]:=by rw [<-ug];exact O7 _ _ _ _
      have dp:=Aa (HF7b.out.below dj);have pa:=Ai HR7b.out dj (Nat.le_refl _);have qy:=Aa (HE7b.out.below dj);have jj:=Aa (HO7b.out.trans (Ah.below dj (Nat.le_of_lt HE7b.out.lt)));obtain⟨y0,y1⟩:=HF7b.out.cells;have hau:IntKind.u32.wrap (was+a)=was+a:=IntWalk.u32_in _ (by omega);have fw:IntKind.u32.wrap (0)=0:=IntWalk.u32_in _ (by omega);have KV:gx<=w8.heap.size:=by
       have:=jj.out.1.size;have:=(Array.getElem?_eq_some_iff.1 dp.out).1;omega
      have ay:l.length+1<=1073741824:=by have:=GB.out;omega
      have EU:=Aa ug;clear OF F8 ug AC dj;go_wp2_with (at_builtin;refine Ar _ rfl (.tmp 43) (.tmp 49) 121 rfl gx 129 i0 (.agg #[.int .u32 0,.int .u32 0]) 2 8 Tryz.underlying121 cr cb cu cq rfl (by decide) _ l.length (Lp l) rfl (by rw [EU.out];exact pa) w8.heap.size (some ⟨TA.heap.size,0,none⟩) 1 1 [.int .u32 (was+a),.int .u32 (0)] rfl (by rw [EU.out];exact jf) (Mg [(was+a,0)]) ay (by decide) (by rw [EU.out];exact KV) ?_;rw [EU.out];intro v9 w9 ev ez mx;obtain⟨A9,c9,rfl,-,-,-⟩:=Ao ev;have eg:=Aa (mx gx _ dp.out (fun bh e=>by simp at e));clear y0 y1 c1 f1 KP;obtain⟨y0,y1⟩:=PB.cells eg.out;have q1:=PB.fr eg.out 1);go_roundw
      case rel=>
       refine⟨k+1,0,A9,c9,l++ [(was+a,0)],(t2.1,true),by omega,by go_num,rfl,by omega,by omega,Aa ?_,sz,Aa ?_,Aa ?_,Aa ?_,Aa ?_,Aa ?_⟩
       ·rw [List.length_append,GB.out];rfl
       ·rw [List.length_append,List.length_singleton];exact PB.set1 eg.out _
       ·rw [List.length_append,List.length_singleton,<-Pd];exact Pf ev eg.out (by decide) 1 _
       ·intro x hx;rcases List.mem_append.1 hx with h | h
        ·exact OI.out x h
        ·simp only [List.mem_singleton] at h;subst h;exact⟨by simp only;omega,by simp only;omega,by simp only;omega,by simp only;omega⟩
       ·exact (qy.out.belowB ez Hg.out).other Hg.out 1 _
       ·exact (jj.out.more (by rw [<-av.out];exact ez) (by have:=Hg.out;rw [<-av.out];omega)).setNew (Nat.le_of_eq av.out.symm) (by have:=Hg.out;rw [<-av.out];omega) 1 _
      case measure=>simp [intOf];omega
     ·have sz:=Aa (show J4 (l++ [(was+a,was+a+b)]) (M - (k+1)) (was+a+b) t2=J4 [] M 0 r2 by rw [<-OF.out,if_neg jv]);obtain⟨w8,ug,F8,AC,dj⟩:=Dr w7 (.int .u32 (was+a)) (.int .u32 (was+a+b)) 129;have jf:RD w8 w8.heap.size 2 (some ⟨w7.heap.size,0,none⟩) 1 [.int .u32 (was+a),.int .u32 (was+a+b)]:=by rw [<-ug];exact O7 _ _ _ _
      have dp:=Aa (dg.out.below dj);have pa:=Ai oh.out dj (Nat.le_refl _);have qy:=Aa (kz.out.below dj);have jj:=Aa (kp.out.trans (Ah.below dj (Nat.le_of_lt kz.out.lt)));obtain⟨y0,y1⟩:=dg.out.cells;have hau:IntKind.u32.wrap (was+a)=was+a:=IntWalk.u32_in _ (by omega);have fw:IntKind.u32.wrap (was+a+b)=was+a+b:=IntWalk.u32_in _ (by omega);have KV:gx<=w8.heap.size:=by
       have:=jj.out.1.size;have:=(Array.getElem?_eq_some_iff.1 dp.out).1;omega
      have ay:l.length+1<=1073741824:=by have:=GB.out;omega
      have EU:=Aa ug;clear OF F8 ug AC dj;go_wp2_with (at_builtin;refine Ar _ rfl (.tmp 43) (.tmp 49) 121 rfl gx 129 i0 (.agg #[.int .u32 0,.int .u32 0]) 2 8 Tryz.underlying121 cr cb cu cq rfl (by decide) _ l.length (Lp l) rfl (by rw [EU.out];exact pa) w8.heap.size (some ⟨w7.heap.size,0,none⟩) 1 1 [.int .u32 (was+a),.int .u32 (was+a+b)] rfl (by rw [EU.out];exact jf) (Mg [(was+a,was+a+b)]) ay (by decide) (by rw [EU.out];exact KV) ?_;rw [EU.out];intro v9 w9 ev ez mx;obtain⟨A9,c9,rfl,-,-,-⟩:=Ao ev;have eg:=Aa (mx gx _ dp.out (fun bh e=>by simp at e));clear y0 y1;obtain⟨y0,y1⟩:=PB.cells eg.out;have q1:=PB.fr eg.out 1);go_roundw
      case rel=>
       refine⟨k+1,was+a+b,A9,c9,l++ [(was+a,was+a+b)],t2,by omega,by go_num,rfl,by omega,by omega,Aa ?_,sz,Aa ?_,Aa ?_,Aa ?_,Aa ?_,Aa ?_⟩
       ·rw [List.length_append,GB.out];rfl
       ·rw [List.length_append,List.length_singleton];exact PB.set1 eg.out _
       ·rw [List.length_append,List.length_singleton,<-Pd];exact Pf ev eg.out (by decide) 1 _
       ·intro x hx;rcases List.mem_append.1 hx with h | h
        ·exact OI.out x h
        ·simp only [List.mem_singleton] at h;subst h;exact⟨by simp only;omega,by simp only;omega,by simp only;omega,by simp only;omega⟩
       ·exact (qy.out.belowB ez Hg.out).other Hg.out 1 _
       ·exact (jj.out.more (by rw [<-av.out];exact ez) (by have:=Hg.out;rw [<-av.out];omega)).setNew (Nat.le_of_eq av.out.symm) (by have:=Hg.out;rw [<-av.out];omega) 1 _
      case measure=>simp [intOf];omega
    ·have z1:¬ (k:Int) < M:=by omega
     obtain rfl:k=M:=by omega
     have qj:=Aa (show Qb (N - (j+1)) ((L++ [(⟨R,A2,c2,l⟩:Aq)]).map Aq.pt) sk=(P,s9) by
      have h1:=HS.out
      rw [Nat.sub_self] at h1
      have h2:=BY.out
      rw [Q0 (s:=l) (r3:=sk) HR.out Hm.out (by rw [Int.toNat_natCast];exact h1.symm)] at h2
      rw [List.map_append]
      exact h2)
     obtain⟨y0,y1⟩:=HF.out.cells;have HTr:=Aa (YJ.out.at kj.out KH.out);have jj:=Aa (im.out.trans KH.out);have zv:=Aa (Bq ta.out me.out);clear HS BY YJ im KH ta;have el:w.heap.size<=wr.heap.size:=jj.out.1.size;have jf:=O7 wr (.int .u8 R) (.slice A2 l.length c2) 123;have HEx:=Aa (OK.out.below (Bf wr (.cells #[.int .u8 R,.slice A2 l.length c2] 123)));have OH:=Aa (jj.out.trans (Ah.below (Bf wr (.cells #[.int .u8 R,.slice A2 l.length c2] 123)) (Nat.le_of_lt OK.out.lt)));have DZ:=Aa (show M1 ⟨R,A2,c2,l⟩ from⟨R0,by show R < 256;omega,OI.out,by have:=GB.out;show l.length < _;omega⟩);go_wp2_with (at_builtin;refine Jc _ rfl (.tmp 52) (.tmp 54) rfl w.heap.size A c j L AQ.out rfl (HTr.out.below (Bf _ _)) ⟨R,A2,c2,l⟩ (Ai zv.out (Bf _ _) (Nat.le_refl _)) (some ⟨wr.heap.size,0,none⟩) rfl jf (by omega) (Nat.le_trans el (Bf wr _).size) ?_;intro A3 c3 w9 hT9 ez);go_roundw
     case rel=>
      refine⟨j+1,A3,c3,L++ [⟨R,A2,c2,l⟩],sk,by omega,by go_num,rfl,Aa ?_,qj,Aa hT9,Aa ?_,Aa (HEx.out.belowB ez kj.out),Aa (OH.out.more ez fs.out)⟩
      ·rw [List.length_append,AQ.out];rfl
      ·intro x hx;rcases List.mem_append.1 hx with h | h
       ·exact HK.out x h
       ·simp only [List.mem_singleton] at h;subst h;exact DZ.out
     case measure=>simp [intOf];omega
  ·have z0:¬ (j:Int) < N:=by omega
   obtain rfl:j=N:=by omega
   have FD:=Aa (show L.map Aq.pt=P/\sj=s9 by
    have:=HP.out
    rw [Nat.sub_self] at this
    simp only [Qb,Prod.mk.injEq] at this
    exact this)
   clear HP;go_wp2_with fail;go_ret;exact⟨A,c,L,by rw [AQ.out];rfl,FD.out.1,HT.out,HK.out,by rw [AQ.out];omega,by rw [<-FD.out.2];exact mz.out,tc.out⟩
end Go.Proofs.YtmkpfdcnikgokaaGreat
