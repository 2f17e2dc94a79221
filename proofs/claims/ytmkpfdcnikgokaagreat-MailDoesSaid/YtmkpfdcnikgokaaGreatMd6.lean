/-
  Texts of this claim, put together: Spans, Clocks. What each theorem asks stands in its statement.
-/
import Derived.Test.YtmkpfdcnikgokaaGreatMd1
set_option linter.unusedVariables false
set_option linter.unusedSimpArgs false
set_option maxRecDepth 100000
set_option maxHeartbeats 25600000
namespace Go.Proofs.YtmkpfdcnikgokaaGreat
open Go.RowKit
abbrev Sp:=Int×Int
def Lp (l:List Sp):List Value:=l.flatMap fun x=> [.int .u32 x.1,.int .u32 x.2]
theorem V2 (a b:List Sp):Lp (a++b)=Lp a++Lp b:=by simp [Lp]
theorem Xn (l:List Sp):∀ (i:Nat) (h:i < l.length),(Lp l)[i * 2]?=some (.int .u32 l[i].1)/\(Lp l)[i * 2+1]?=some (.int .u32 l[i].2):=by
 induction l with
 | nil=>intro i h;simp at h
 | cons a l ih=>
   intro i h;have e:Lp (a :: l)= .int .u32 a.1 :: .int .u32 a.2 :: Lp l:=rfl;rw [e]
   cases i with
   | zero=>exact⟨rfl,rfl⟩
   | succ i=>
     have:=ih i (by simpa using h);rw [show (i+1) * 2=i * 2+2 by omega];exact this
theorem Mg (l:List Sp):∀ u∈Lp l,u.oneCell'=true:=by
 intro u hu;simp only [Lp,List.mem_flatMap] at hu;obtain⟨a,_,h⟩:=hu;simp at h;rcases h with rfl | rfl <;> rfl
def RS (w:World) (B:Nat) (A:Option Addr) (l:List Sp):Prop:=RD w B 2 A l.length (Lp l)
theorem RS.cell {w:World} {B:Nat} {A:Option Addr} {l:List Sp} (h:RS w B A l) (hl:0 < l.length):
 ∃ b off,A=some ⟨b,off,none⟩/\b < B/\∀ j (hj:j < l.length),w.cell? ⟨b,off+j * 2,none⟩=some (.int .u32 l[j].1)/\w.cell? ⟨b,off+j * 2+1,none⟩=some (.int .u32 l[j].2):=by
 obtain⟨b,off,e,hb,hc⟩:=h.2 hl;refine⟨b,off,e,hb,fun j hj=>⟨hc (j * 2) _ (Xn l j hj).1,?_⟩⟩;have:=hc (j * 2+1) _ (Xn l j hj).2;rwa [<-Nat.add_assoc] at this
def Zr (x:Sp):Prop:=0<=x.1/\x.1 < 4294967296/\0<=x.2/\x.2 < 4294967296
def Cc:Int->List Sp->Prop
 | _, []=>True
 | least,x :: l=>least<=x.1/\x.1<=x.2/\x.2<=1073741824/\Cc (x.2+2) l
instance Zh:∀ (least:Int) (l:List Sp),Decidable (Cc least l)
 | _, []=> .isTrue trivial
 | least,x :: l=>by
   have:=Zh (x.2+2) l;unfold Cc;infer_instance
def Ii (l:List Sp):Prop:=l.length<=1024/\Cc 1 l
instance (l:List Sp):Decidable (Ii l):=by unfold Ii;infer_instance
def Qd (l:List Sp):Int:=if Ii l then 0 else 8
def Dy:List Sp->Int
 | []=>0
 | x :: l=>(x.2 - x.1+1)+Dy l
def Ab7 (l:List Sp):Int:=if Ii l then Dy l else 0
theorem Qs (l:List Sp) (x:Sp):Dy (l++ [x])=Dy l+(x.2 - x.1+1):=by
 induction l with
 | nil=>simp [Dy]
 | cons y l ih=>simp only [List.cons_append,Dy,ih];omega
theorem Ky:∀ (l:List Sp) (least:Int) (j:Nat),Cc least l->Cc least (l.take j)
 | [],_,_,_=>by simp [Cc]
 | x :: l,least,0,_=>by simp [Cc]
 | x :: l,least,j+1,h=>by
   obtain⟨h1,h2,h3,h4⟩:=h;exact⟨h1,h2,h3,Ky l _ j h4⟩
theorem Jb:∀ (l:List Sp) (least:Int) (j:Nat) (h:j < l.length),Cc least l->l[j].1<=l[j].2/\l[j].2<=1073741824/\least<=l[j].1
 | x :: l,least,0,_,hc=>⟨hc.2.1,hc.2.2.1,hc.1⟩
 | x :: l,least,j+1,h,hc=>by
   obtain⟨h1,h2,h3,h4⟩:=hc;have hj:j < l.length:=by simpa using h
   have:=Jb l _ j hj h4;refine⟨by simpa using this.1,by simpa using this.2.1,?_⟩;have h5:x.2+2<=l[j].1:=this.2.2;have e:(x :: l)[j+1].1=l[j].1:=rfl;rw [e];omega
theorem Oc:∀ (l:List Sp) (least:Int),1<=least->Cc least l->0<=Dy l/\(l≠ []->Dy l+least<=1073741825)
 | [],_,_,_=>⟨by simp [Dy],fun h=>(h rfl).elim⟩
 | x :: l,least,hl,h=>by
   obtain⟨h1,h2,h3,h4⟩:=h;obtain⟨g1,g2⟩:=Oc l (x.2+2) (by omega) h4;refine⟨by simp only [Dy];omega,fun _=>?_⟩;simp only [Dy];by_cases hn:l= []
   ·subst hn;simp only [Dy];omega
   ·have:=g2 hn;omega
def PB (w:World) (g:Nat) (a b:Value) (T:TypeId):Prop:=w.heap[g]?=some (.cells #[a,b] T (0,0))
theorem Dr (w:World) (a b:Value) (T:TypeId):∃ w2,w.alloc (.cells #[a,b] T)=w2/\PB w2 w.heap.size a b T/\w.heap.size < w2.heap.size/\Below w.heap.size w w2:=
 ⟨_,rfl,heap_alloc_new _ _,by simp,Bf _ _⟩
theorem PB.cells {w:World} {g:Nat} {a b:Value} {T:TypeId} (h:PB w g a b T):w.cell? ⟨g,0,none⟩=some a/\w.cell? ⟨g,1,none⟩=some b:=by
 refine⟨?_,?_⟩ <;> (rw [cell_of_row _ _ _ _ _ _ h];rfl)
theorem PB.below {w w':World} {g:Nat} {a b:Value} {T:TypeId} (h:PB w g a b T) (hb:Below w.heap.size w w'):PB w' g a b T:=(hb.block g (Array.getElem?_eq_some_iff.1 h).1).trans h
theorem Nv (A:Option Addr) (n c:Nat) (l:List Sp) (w:World) (hr:RS w w.heap.size A l) (hn:l.length=n) (ax:∀ x∈l,Zr x):
 Calls Tryz.prog 171 #[.slice A n c] w fun e w'=>e= .returned (.int .i64 (Qd l))/\Below w.heap.size w w':=by
 by_cases jv:(1024:Int) < n
 ·have HC:=Aa (show Qd l=8 from if_neg (fun h=>by have:=h.1;omega));clear hr hn ax;go_enter Tryz.func171,Tryz.ntmps171;go_wp2_with fail;go_ret;exact⟨by rw [HC.out];rfl,Below.refl _ _⟩
 have js:=Aa ax;have Hn:=Aa hn;have HR:=Aa hr;clear ax hn hr;go_enter Tryz.func171,Tryz.ntmps171;go_wp2_with fail
 go_loopw [3,11] (fun lv i wr=>∃ (j:Nat) (v:Int),j<=n/\i= .int .i64 (j:Int)/\lv= .int .u32 v/\1<=v/\v<=1073741826/\Hid (Cc 1 l↔Cc v (l.drop j))/\Below w.heap.size w wr) (fun _ i _=>n - (intOf i).toNat)
 case atStart=>exact⟨0,1,by omega,rfl,rfl,by omega,by omega,Aa Iff.rfl,Below.refl _ _⟩
 case round=>
  obtain⟨j,v,hj,rfl,rfl,QC,ZY,HC,hb⟩:=hrel;by_cases ai:j < n
  ·have ap:j < l.length:=by rw [Hn.out];exact ai
   have z0:(j:Int) < n:=by omega
   have zj:(0:Int)<=j:=by omega
   obtain⟨bb,bo,rfl,hB,fg⟩:=RS.cell (RD.below HR.out hb) (by omega);obtain⟨d0,d1⟩:=fg j ap;obtain⟨x,hx⟩:∃ x,l[j]=x:=⟨_,rfl⟩;rw [hx] at d0 d1;have jb:=js.out x (by rw [<-hx];exact List.getElem_mem ap);have ti:l.drop j=x :: l.drop (j+1):=by rw [<-hx];exact List.drop_eq_getElem_cons ap
   have m8:=HC;rw [ti] at m8;obtain⟨q1,q2,q3,q4⟩:=jb;obtain⟨x1,jz⟩:∃ a,x.1=a:=⟨_,rfl⟩;obtain⟨x2,l8⟩:∃ a,x.2=a:=⟨_,rfl⟩;have ow:Hid (Cc 1 l↔v<=x1/\x1<=x2/\x2<=1073741824/\Cc (x2+2) (l.drop (j+1))):=Aa (by rw [<-jz,<-l8];exact m8.out);rw [jz] at d0 q1 q2;rw [l8] at d1 q3 q4;obtain⟨wx,AB,FX,EI,el⟩:=Dr wr (.int .u32 x1) (.int .u32 x2) 129;obtain⟨y0,y1⟩:=FX.cells;have lh:=Ad hb el;clear fg hx ti HC m8 FX jz l8;by_cases c1:x1 < v
   ·have HE:=Aa (show Qd l=8 from if_neg (fun h=>by have:=(ow.out.1 h.2).1;omega));go_wp2_with fail;go_ret;exact⟨by rw [HE.out];rfl,lh⟩
   by_cases c2:x2 < x1
   ·have HE:=Aa (show Qd l=8 from if_neg (fun h=>by have:=(ow.out.1 h.2).2.1;omega));go_wp2_with fail;go_ret;exact⟨by rw [HE.out];rfl,lh⟩
   by_cases c3:(1073741824:Int) < x2
   ·have HE:=Aa (show Qd l=8 from if_neg (fun h=>by have:=(ow.out.1 h.2).2.2.1;omega));go_wp2_with fail;go_ret;exact⟨by rw [HE.out];rfl,lh⟩
   ·have zw:IntKind.u32.wrap (x2+2)=x2+2:=IntWalk.u32_in _ (by omega);have KL:=Aa (show Cc 1 l↔Cc (x2+2) (l.drop (j+1)) from⟨fun h=>(ow.out.1 h).2.2.2,fun h=>ow.out.2 ⟨by omega,by omega,by omega,h⟩⟩);go_wp2_with fail;go_roundw
    case rel=>exact⟨j+1,x2+2,by omega,by go_num,rfl,by omega,by omega,KL,lh⟩
    case measure=>simp [intOf];omega
  ·have z0:¬ (j:Int) < n:=by omega
   have HE:=Aa (show Qd l=0 from if_pos ⟨by rw [Hn.out];omega,HC.out.2 (by rw [List.drop_eq_nil_of_le (by rw [Hn.out];omega)];trivial)⟩);go_wp2_with fail;go_ret;exact⟨by rw [HE.out];rfl,hb⟩
theorem Uk (A:Option Addr) (n c:Nat) (l:List Sp) (w:World) (hr:RS w w.heap.size A l) (hn:l.length=n) (ax:∀ x∈l,Zr x):
 Calls Tryz.prog 172 #[.slice A n c] w fun e w'=>e= .returned (.int .i64 (Ab7 l))/\Below w.heap.size w w':=by
 have hP:=Aa (Nv A n c l w hr hn ax);by_cases hm:Ii l;rotate_left
 ·rw [show Qd l=8 from if_neg hm] at hP;have HE:=Aa (show Ab7 l=0 from if_neg hm);clear hm hr hn ax;go_enter Tryz.func172,Tryz.ntmps172;go_wp2_with fail;refine hP.out.mono ?_;rintro e w2 ⟨rfl,ae⟩;go_wp2_with fail;go_ret;exact⟨by rw [HE.out];rfl,ae⟩
 rw [show Qd l=0 from if_pos hm] at hP;have HE:=Aa (show Ab7 l=Dy l from if_pos hm);have HM:=Aa hm.2;have AF:n<=1024:=by rw [<-hn];exact hm.1
 have Hn:=Aa hn;have HR:=Aa hr;clear hm hr hn ax;go_enter Tryz.func172,Tryz.ntmps172;go_wp2_with fail;refine hP.out.mono ?_;rintro e w2 ⟨rfl,ae⟩;go_wp2_with fail
 go_loopw [2,10] (fun s i wr=>∃ j:Nat,j<=n/\i= .int .i64 (j:Int)/\s= .int .i64 (Dy (l.take j))/\Below w.heap.size w wr) (fun _ i _=>n - (intOf i).toNat)
 case atStart=>exact⟨0,by omega,rfl,rfl,ae⟩
 case round=>
  obtain⟨j,hj,rfl,rfl,hb⟩:=hrel;by_cases ai:j < n
  ·have ap:j < l.length:=by rw [Hn.out];exact ai
   have z0:(j:Int) < n:=by omega
   have zj:(0:Int)<=j:=by omega
   obtain⟨bb,bo,rfl,hB,fg⟩:=RS.cell (RD.below HR.out hb) (by omega);obtain⟨d0,d1⟩:=fg j ap;obtain⟨k1,k2,k3⟩:=Jb l 1 j ap HM.out;obtain⟨x,hx⟩:∃ x,l[j]=x:=⟨_,rfl⟩;rw [hx] at d0 d1 k1 k2 k3;have Ht:=Aa (show Dy (l.take (j+1))=Dy (l.take j)+(x.2 - x.1+1) by rw [List.take_succ_eq_append_getElem ap,hx,Qs]);have hs:=Oc (l.take j) 1 (by omega) (Ky l 1 j HM.out);have cd:Dy (l.take j)<=1073741825:=by
    by_cases h:l.take j= []
    ·rw [h];simp [Dy]
    ·have:=hs.2 h;omega
   have af:=hs.1;obtain⟨TT,IX⟩:∃ t,t=Dy (l.take j):=⟨_,rfl⟩;rw [<-IX] at af cd Ht |-;obtain⟨x1,jz⟩:∃ a,x.1=a:=⟨_,rfl⟩;obtain⟨x2,l8⟩:∃ a,x.2=a:=⟨_,rfl⟩;rw [jz] at d0 k1 k3 Ht;rw [l8] at d1 k1 k2 Ht;obtain⟨wx,AB,FX,EI,el⟩:=Dr wr (.int .u32 x1) (.int .u32 x2) 129;obtain⟨y0,y1⟩:=FX.cells;have lh:=Ad hb el;have zw1:IntKind.i64.wrap x1=x1:=IntWalk.i64_in _ (by omega);have zw2:IntKind.i64.wrap x2=x2:=IntWalk.i64_in _ (by omega);have zw3:IntKind.i64.wrap (x2 - x1)=x2 - x1:=IntWalk.i64_in _ (by omega);have zw4:IntKind.i64.wrap (x2 - x1+1)=x2 - x1+1:=IntWalk.i64_in _ (by omega);have zw5:IntKind.i64.wrap (TT+(x2 - x1+1))=TT+(x2 - x1+1):=IntWalk.i64_in _ (by omega);clear fg hx FX jz l8 IX hs;go_wp2_with fail;go_roundw
   case rel=>exact⟨j+1,by omega,by go_num,by rw [Ht.out],lh⟩
   case measure=>simp [intOf];omega
  ·have z0:¬ (j:Int) < n:=by omega
   rw [List.take_of_length_le (by rw [Hn.out];omega)];go_wp2_with fail;go_ret;exact⟨by rw [HE.out];rfl,hb⟩
theorem Uj (A B:Option Addr) (c d n k:Nat) (l m:List Sp) (w:World) (hr:RS w w.heap.size A l) (hs:RS w w.heap.size B m) (hn:l.length=n) (hk:m.length=k) (hl:n < 1073741824):
 Calls Tryz.prog 154 #[.slice A n c,.slice B k d] w fun e w'=>e= .returned (.bool (decide (l=m)))/\Below w.heap.size w w':=by
 subst hn hk;by_cases ak:(l.length:Int)=(m.length:Int)
 ·have tg:l.length=m.length:=by omega
  have E:=Aa tg;have ng:((l.length:Int) == (m.length:Int))=true:=by simpa using ak
  have ot:((l.length:Int) != (m.length:Int))=false:=by simpa using ak
  clear ak;go_enter Tryz.func154,Tryz.ntmps154;clear tg;go_wp2_with fail
  go_loopw [13] (fun i wr=>∃ k:Nat,k<=l.length/\i= .int .i64 (k:Int)/\Hid (l.take k=m.take k)/\Below w.heap.size w wr) (fun i _=>l.length - (intOf i).toNat)
  case atStart=>exact⟨0,by omega,rfl,Aa rfl,Below.refl _ _⟩
  case round=>
   obtain⟨k,hk,rfl,hT,hb⟩:=hrel;by_cases ai:k < l.length
   ·have di:k < m.length:=by have:=E.out;omega
    obtain⟨b0,o0,rfl,py,er⟩:=RS.cell (RD.below hr hb) (by omega);obtain⟨b1,o1,rfl,eb,kh⟩:=RS.cell (RD.below hs hb) (by omega);obtain⟨d0,d1⟩:=er k ai;obtain⟨e0,e1⟩:=kh k di;clear er kh;have z0:(k:Int) < l.length:=by omega
    have z1:(k:Int) < m.length:=by omega
    have z4:(0:Int)<=k:=by omega
    obtain⟨x0,qe⟩:∃ x,x=l[k].1:=⟨_,rfl⟩;obtain⟨x1,jz⟩:∃ x,x=l[k].2:=⟨_,rfl⟩;obtain⟨y0,sg⟩:∃ x,x=m[k].1:=⟨_,rfl⟩;obtain⟨y1,vt⟩:∃ x,x=m[k].2:=⟨_,rfl⟩;rw [<-qe] at d0;rw [<-jz] at d1;rw [<-sg] at e0;rw [<-vt] at e1;have hX:=Aa (show l[k]=(x0,x1) by rw [qe,jz]);have hY:=Aa (show m[k]=(y0,y1) by rw [sg,vt]);clear qe jz sg vt;by_cases jy:x0=y0/\x1=y1
    ·obtain⟨rfl,rfl⟩:=jy;go_wp2_with fail
     go_quiet (fail)
     go_wp2_with fail;go_roundw
     case rel=>
      refine⟨k+1,by omega,by go_num,Aa ?_,Bk hb _⟩;rw [List.take_succ_eq_append_getElem ai,List.take_succ_eq_append_getElem di,hT.out,hX.out,hY.out]
     case measure=>simp [intOf];omega
    ·have fu:(¬ x0=y0)\/(x0=y0/\¬ x1=y1):=by
      by_cases h0:x0=y0
      ·exact .inr ⟨h0,fun h1=>jy ⟨h0,h1⟩⟩
      ·exact .inl h0
     have hf:=Aa (show decide (l=m)=false by
      rw [decide_eq_false_iff_not]
      intro e
      subst e
      have:=hX.out.symm.trans hY.out
      simp only [Prod.mk.injEq] at this
      exact jy this)
     clear jy;rcases fu with h0 | ⟨rfl,h1⟩
     all_goals
      go_wp2_with fail
      go_quiet (fail)
      go_wp2_with fail;go_ret;exact⟨Ae hf.out.symm,Bk hb _⟩
   ·have qv:¬ (k:Int) < l.length:=by omega
    have fin:=Aa (show decide (l=m)=true by
     have h1:=hT.out
     rw [List.take_of_length_le (by omega),List.take_of_length_le (by have:=E.out;omega)] at h1
     exact decide_eq_true h1)
    go_wp2_with fail;go_ret;exact⟨Ae fin.out.symm,hb⟩
 ·have ng:((l.length:Int) == (m.length:Int))=false:=by simpa using ak
  have ot:((l.length:Int) != (m.length:Int))=true:=by simpa using ak
  have fin:=Aa (show decide (l=m)=false by
   rw [decide_eq_false_iff_not]
   intro e
   exact ak (by rw [e]))
  clear ak;go_enter Tryz.func154,Tryz.ntmps154;go_wp2_with fail;go_ret;exact⟨Ae fin.out.symm,Below.refl _ _⟩
theorem V1 (A B:Option Addr) (c d n k:Nat) (l m:List Sp) (w:World) (hr:RS w w.heap.size A l) (hs:RS w w.heap.size B m) (hn:l.length=n) (hk:m.length=k) (hl:n < 1073741824):
 Calls Tryz.prog 116 #[.slice A n c,.slice B k d] w fun e w'=>e= .returned (.bool (decide (l=m)))/\Below w.heap.size w w':=by
 have C:=Aa (Uj A B c d n k l m w hr hs hn hk hl);clear hn hk;go_enter Tryz.func116,Tryz.ntmps116;go_wp2_with fail;refine (Ag C).mono ?_;rintro e w1 ⟨rfl,ac⟩;go_wp2_with fail;go_ret;exact⟨rfl,ac⟩
abbrev PT:=Int×List Sp
structure Aq where
 R:Int
 A:Option Addr
 c:Nat
 s:List Sp
def Aq.pt (x:Aq):PT:=(x.R,x.s)
def Aq.cells (x:Aq):List Value:= [.int .u8 x.R,.slice x.A x.s.length x.c]
abbrev tmv (R:Int) (A:Option Addr) (n c:Nat):Value:= .agg #[.int .u8 R,.slice A n c]
def Td (L:List Aq):List Value:=L.flatMap Aq.cells
theorem V0 (L M:List Aq):Td (L++M)=Td L++Td M:=by simp [Td]
theorem Xm (L:List Aq):∀ (i:Nat) (h:i < L.length),(Td L)[i * 2]?=some (.int .u8 L[i].R)/\(Td L)[i * 2+1]?=some (.slice L[i].A L[i].s.length L[i].c):=by
 induction L with
 | nil=>intro i h;simp at h
 | cons a l ih=>
   intro i h;have e:Td (a :: l)= .int .u8 a.R :: .slice a.A a.s.length a.c :: Td l:=rfl;rw [e]
   cases i with
   | zero=>exact⟨rfl,rfl⟩
   | succ i=>
     have:=ih i (by simpa using h);rw [show (i+1) * 2=i * 2+2 by omega];exact this
theorem Acg (L:List Aq):∀ u∈Td L,u.oneCell'=true:=by
 intro u hu;simp only [Td,List.mem_flatMap] at hu;obtain⟨a,_,h⟩:=hu;simp [Aq.cells] at h;rcases h with rfl | rfl <;> rfl
def RT (w:World) (B:Nat) (A:Option Addr) (L:List Aq):Prop:=RD w B 2 A L.length (Td L)/\∀ x∈L,RS w B x.A x.s
theorem RT.below {w w':World} {B:Nat} {A:Option Addr} {L:List Aq} (h:RT w B A L) (hb:Below B w w'):RT w' B A L:=⟨RD.below h.1 hb,fun x hx=>RD.below (h.2 x hx) hb⟩
theorem RT.more {w:World} {B B':Nat} {A:Option Addr} {L:List Aq} (h:RT w B A L) (hB:B<=B'):RT w B' A L:=⟨RD.more h.1 hB,fun x hx=>RD.more (h.2 x hx) hB⟩
theorem RT.cell {w:World} {B:Nat} {A:Option Addr} {L:List Aq} (h:RT w B A L) (hl:0 < L.length):
 ∃ b off,A=some ⟨b,off,none⟩/\b < B/\∀ j (hj:j < L.length),w.cell? ⟨b,off+j * 2,none⟩=some (.int .u8 L[j].R)/\w.cell? ⟨b,off+j * 2+1,none⟩=some (.slice L[j].A L[j].s.length L[j].c):=by
 obtain⟨b,off,e,hb,hc⟩:=h.1.2 hl;refine⟨b,off,e,hb,fun j hj=>⟨hc (j * 2) _ (Xm L j hj).1,?_⟩⟩;have:=hc (j * 2+1) _ (Xm L j hj).2;rwa [<-Nat.add_assoc] at this
def M1 (x:Aq):Prop:=0<=x.R/\x.R < 256/\(∀ y∈x.s,Zr y)/\x.s.length < 1073741824
def Cz:Int->List PT->Prop
 | _, []=>True
 | last,x :: l=>last < x.1/\x.1 < 8/\1<=x.2.length/\Ii x.2/\Cz x.1 l
instance Zg:∀ (last:Int) (l:List PT),Decidable (Cz last l)
 | _, []=> .isTrue trivial
 | last,x :: l=>by
   have:=Zg x.1 l;unfold Cz;infer_instance
def Dj (P:List PT):Prop:=Cz (-1) P
instance (P:List PT):Decidable (Dj P):=by unfold Dj;infer_instance
def N9 (P:List PT):Int:=if Dj P then 0 else 8
def Gh:List PT->Int
 | []=>0
 | x :: l=>Dy x.2+Gh l
def I0 (P:List PT):Int:=if Dj P then Gh P else 0
theorem Qr (l:List PT) (x:PT):Gh (l++ [x])=Gh l+Dy x.2:=by
 induction l with
 | nil=>simp [Gh]
 | cons y l ih=>simp only [List.cons_append,Gh,ih];omega
theorem Ga:∀ (l:List PT) (last:Int),-1<=last->Cz last l->(l.length:Int)<=7 - last\/l= []
 | [],_,_,_=> .inr rfl
 | x :: l,last,h,hc=>by
   obtain⟨h1,h2,-,-,h5⟩:=hc;left;rw [List.length_cons];rcases Ga l x.1 (by omega) h5 with h | rfl
   ·omega
   ·simp only [List.length_nil];omega
theorem Pc {l:List Sp} (h:Ii l):0<=Dy l/\Dy l<=1073741825:=by
 obtain⟨h1,h2⟩:=Oc l 1 (by omega) h.2;refine⟨h1,?_⟩;by_cases hn:l= []
 ·subst hn;simp [Dy]
 ·have:=h2 hn;omega
theorem Mf:∀ (l:List PT),(∀ x∈l,Ii x.2)->0<=Gh l/\Gh l<=1073741825 * l.length
 | [],_=>by simp [Gh]
 | x :: l,h=>by
   have h1:=Mf l fun y hy=>h y (List.mem_cons_of_mem _ hy);have h2:=Pc (h x List.mem_cons_self);simp only [Gh,List.length_cons];omega
theorem Ey:∀ (l:List PT) (last:Int),Cz last l->∀ x∈l,Ii x.2/\1<=x.2.length
 | x :: l,last,h,y,hy=>by
   obtain⟨-,-,h3,h4,h5⟩:=h;rcases List.mem_cons.1 hy with rfl | hy
   ·exact⟨h4,h3⟩
   ·exact Ey l _ h5 y hy
theorem Kr (A:Option Addr) (n c:Nat) (L:List Aq) (w:World) (hr:RT w w.heap.size A L) (hn:L.length=n) (ax:∀ x∈L,M1 x) (AF:n < 1073741824):
 Calls Tryz.prog 148 #[.slice A n c] w fun e w'=>e= .returned (.int .i64 (N9 (L.map Aq.pt)))/\Below w.heap.size w w':=by
 have js:=Aa ax;have Hn:=Aa hn;have HR:=Aa hr;clear ax hn hr;go_enter Tryz.func148,Tryz.ntmps148;go_wp2_with fail
 go_loopw [3,8] (fun lv i wr=>∃ (j:Nat) (v:Int),j<=n/\i= .int .i64 (j:Int)/\lv= .int .i64 v/\-1<=v/\v < 256/\Hid (Cz (-1) (L.map Aq.pt)↔Cz v ((L.drop j).map Aq.pt))/\Below w.heap.size w wr) (fun _ i _=>n - (intOf i).toNat)
 case atStart=>exact⟨0,-1,by omega,rfl,rfl,by omega,by omega,Aa Iff.rfl,Below.refl _ _⟩
 case round=>
  obtain⟨j,v,hj,rfl,rfl,QC,ZY,HC,hb⟩:=hrel;by_cases ai:j < n
  ·have ap:j < L.length:=by rw [Hn.out];exact ai
   have z0:(j:Int) < n:=by omega
   have zj:(0:Int)<=j:=by omega
   obtain⟨bb,bo,rfl,hB,fg⟩:=RT.cell (HR.out.below hb) (by omega);obtain⟨d0,d1⟩:=fg j ap;obtain⟨x,hx⟩:∃ x,L[j]=x:=⟨_,rfl⟩;rw [hx] at d0 d1;have ba:x∈L:=by rw [<-hx];exact List.getElem_mem ap
   obtain⟨q1,q2,q3,q4⟩:=js.out x ba;have ti:L.drop j=x :: L.drop (j+1):=by rw [<-hx];exact List.drop_eq_getElem_cons ap
   have m8:=HC;rw [ti] at m8;have ow:Hid (Cz (-1) (L.map Aq.pt)↔v < x.R/\x.R < 8/\1<=x.s.length/\Ii x.s/\Cz x.R ((L.drop (j+1)).map Aq.pt)):=Aa m8.out;obtain⟨wx,AB,FX,EI,el⟩:=Dr wr (.int .u8 x.R) (.slice x.A x.s.length x.c) 123;obtain⟨y0,y1⟩:=FX.cells;have lh:=Ad hb el;have hP:=Aa (Nv x.A x.s.length x.c x.s wx (RD.more (RD.below (((HR.out.below hb).more hb.size).2 x ba) el) el.size) rfl q3);have zc:IntKind.i64.wrap x.R=x.R:=IntWalk.i64_in _ (by omega);have IG:=Aa FX;clear fg hx ti HC m8 FX ba q3;by_cases c1:x.R<=v
   ·have HE:=Aa (show N9 (L.map Aq.pt)=8 from if_neg (fun h=>by have:=(ow.out.1 h).1;omega));go_wp2_with fail;go_ret;exact⟨by rw [HE.out];rfl,lh⟩
   by_cases c2:(8:Int)<=x.R
   ·have HE:=Aa (show N9 (L.map Aq.pt)=8 from if_neg (fun h=>by have:=(ow.out.1 h).2.1;omega));go_wp2_with fail;go_ret;exact⟨by rw [HE.out];rfl,lh⟩
   by_cases c3:(x.s.length:Int) < 1
   ·have HE:=Aa (show N9 (L.map Aq.pt)=8 from if_neg (fun h=>by have:=(ow.out.1 h).2.2.1;omega));go_wp2_with fail;go_ret;exact⟨by rw [HE.out];rfl,lh⟩
   by_cases c4:Ii x.s;rotate_left
   ·have HE:=Aa (show N9 (L.map Aq.pt)=8 from if_neg (fun h=>c4 (ow.out.1 h).2.2.2.1));rw [show Qd x.s=8 from if_neg c4] at hP;clear c4;go_wp2_with fail;refine hP.out.mono ?_;rintro e w2 ⟨rfl,ae⟩;clear y0 y1 d0 d1;go_wp2_with fail;go_ret;exact⟨by rw [HE.out];rfl,Ad lh ae⟩
   ·have KL:=Aa (show Cz (-1) (L.map Aq.pt)↔Cz x.R ((L.drop (j+1)).map Aq.pt) from⟨fun h=>(ow.out.1 h).2.2.2.2,fun h=>ow.out.2 ⟨by omega,by omega,by omega,c4,h⟩⟩);rw [show Qd x.s=0 from if_pos c4] at hP;clear c4;go_wp2_with fail;refine hP.out.mono ?_;rintro e w2 ⟨rfl,ae⟩;clear y0 y1 d0 d1;obtain⟨y0,y1⟩:=(IG.out.below ae).cells;go_wp2_with fail;go_roundw
    case rel=>exact⟨j+1,x.R,by omega,by go_num,rfl,by omega,by omega,KL,Ad lh ae⟩
    case measure=>simp [intOf];omega
  ·have z0:¬ (j:Int) < n:=by omega
   have HE:=Aa (show N9 (L.map Aq.pt)=0 from if_pos (HC.out.2 (by rw [List.drop_eq_nil_of_le (by rw [Hn.out];omega)];trivial)));go_wp2_with fail;go_ret;exact⟨by rw [HE.out];rfl,hb⟩
theorem Nu (A:Option Addr) (n c:Nat) (L:List Aq) (w:World) (hr:RT w w.heap.size A L) (hn:L.length=n) (ax:∀ x∈L,M1 x) (AF:n < 1073741824):
 Calls Tryz.prog 149 #[.slice A n c] w fun e w'=>e= .returned (.int .i64 (I0 (L.map Aq.pt)))/\Below w.heap.size w w':=by
 have hP:=Aa (Kr A n c L w hr hn ax AF);by_cases hm:Dj (L.map Aq.pt);rotate_left
 ·rw [show N9 (L.map Aq.pt)=8 from if_neg hm] at hP;have HE:=Aa (show I0 (L.map Aq.pt)=0 from if_neg hm);clear hm hr hn ax;go_enter Tryz.func149,Tryz.ntmps149;go_wp2_with fail;refine hP.out.mono ?_;rintro e w2 ⟨rfl,ae⟩;go_wp2_with fail;go_ret;exact⟨by rw [HE.out];rfl,ae⟩
 rw [show N9 (L.map Aq.pt)=0 from if_pos hm] at hP;have HE:=Aa (show I0 (L.map Aq.pt)=Gh (L.map Aq.pt) from if_pos hm);have HM:=Aa (Ey _ _ hm);have CI:n<=8:=by
  have h1:=Ga _ _ (by omega) hm;rw [List.length_map] at h1;rcases h1 with h | h
  ·omega
  ·have:=congrArg List.length h;rw [List.length_map] at this;simp only [List.length_nil] at this;omega
 have js:=Aa ax;have Hn:=Aa hn;have HR:=Aa hr;clear hm hr hn ax;go_enter Tryz.func149,Tryz.ntmps149;go_wp2_with fail;refine hP.out.mono ?_;rintro e w2 ⟨rfl,ae⟩;go_wp2_with fail
 go_loopw [2,10] (fun s i wr=>∃ j:Nat,j<=n/\i= .int .i64 (j:Int)/\s= .int .i64 (Gh ((L.take j).map Aq.pt))/\Below w.heap.size w wr) (fun _ i _=>n - (intOf i).toNat)
 case atStart=>exact⟨0,by omega,rfl,rfl,ae⟩
 case round=>
  obtain⟨j,hj,rfl,rfl,hb⟩:=hrel;by_cases ai:j < n
  ·have ap:j < L.length:=by rw [Hn.out];exact ai
   have z0:(j:Int) < n:=by omega
   have zj:(0:Int)<=j:=by omega
   obtain⟨bb,bo,rfl,hB,fg⟩:=RT.cell (HR.out.below hb) (by omega);obtain⟨d0,d1⟩:=fg j ap;obtain⟨x,hx⟩:∃ x,L[j]=x:=⟨_,rfl⟩;rw [hx] at d0 d1;have ba:x∈L:=by rw [<-hx];exact List.getElem_mem ap
   obtain⟨q1,q2,q3,q4⟩:=js.out x ba;have IS:=(HM.out x.pt (List.mem_map_of_mem ba)).1;have EI:=Pc IS;have hcx:Ab7 x.s=Dy x.s:=if_pos IS;have Ht:=Aa (show Gh ((L.take (j+1)).map Aq.pt)=Gh ((L.take j).map Aq.pt)+Dy x.s by rw [List.take_succ_eq_append_getElem ap,hx,List.map_append];exact Qr _ _)
   have EH:=Mf ((L.take j).map Aq.pt) (fun y hy=>by
    obtain⟨z,hz,rfl⟩:=List.mem_map.1 hy
    exact (HM.out z.pt (List.mem_map_of_mem (List.mem_of_mem_take hz))).1)
   rw [List.length_map,List.length_take] at EH;obtain⟨wx,AB,FX,hsxx,el⟩:=Dr wr (.int .u8 x.R) (.slice x.A x.s.length x.c) 123;obtain⟨y0,y1⟩:=FX.cells;have lh:=Ad hb el;have hP:=Aa (Uk x.A x.s.length x.c x.s wx (RD.more (RD.below (((HR.out.below hb).more hb.size).2 x ba) el) el.size) rfl q3);rw [hcx] at hP;obtain⟨TT,IX⟩:∃ t,t=Gh ((L.take j).map Aq.pt):=⟨_,rfl⟩;rw [<-IX] at EH Ht |-;have hsx':0<=Dy x.s/\Dy x.s<=1073741825:=EI;obtain⟨SS,hSS⟩:∃ s,s=Dy x.s:=⟨_,rfl⟩;rw [<-hSS] at hP Ht hsx';have zw:IntKind.i64.wrap (TT+SS)=TT+SS:=IntWalk.i64_in _ (by omega);clear fg hx FX ba q3 IS EI hcx IX hSS;go_wp2_with fail;refine hP.out.mono ?_;rintro e w3 ⟨rfl,ag⟩;clear y0 y1 d0 d1;go_wp2_with fail;go_roundw
   case rel=>exact⟨j+1,by omega,by go_num,by rw [Ht.out],Ad lh ag⟩
   case measure=>simp [intOf];omega
  ·have z0:¬ (j:Int) < n:=by omega
   rw [List.take_of_length_le (by rw [Hn.out];omega)];go_wp2_with fail;go_ret;exact⟨by rw [HE.out];rfl,hb⟩
theorem Acf (x y:Aq) (n m:Nat) (w:World) (hr:RS w w.heap.size x.A x.s) (hs:RS w w.heap.size y.A y.s) (hn:x.s.length=n) (hm:y.s.length=m) (hl:n < 1073741824):
 Calls Tryz.prog 115 #[tmv x.R x.A n x.c,tmv y.R y.A m y.c] w fun e w'=>e= .returned (.bool (decide (x.pt=y.pt)))/\Below w.heap.size w w':=by
 obtain⟨w1,au,F1,af,ac⟩:=Dr w (.int .u8 x.R) (.slice x.A n x.c) 123;obtain⟨w2,fc,F2,cd,ae⟩:=Dr w1 (.int .u8 y.R) (.slice y.A m y.c) 123;have al:=Ad ac ae;obtain⟨c0,c1⟩:=(F1.below ae).cells;obtain⟨d0,d1⟩:=F2.cells;have P:=Aa (V1 x.A y.A x.c y.c n m x.s y.s w2 (RD.more (RD.below hr al) al.size) (RD.more (RD.below hs al) al.size) hn hm hl)
 have hpt:∀ (b:Bool),decide (x.s=y.s)=b->x.R=y.R->decide (x.pt=y.pt)=b:=fun b h1 h2=>by
  rw [<-h1];simp [Aq.pt,h2]
 by_cases hR:x.R=y.R
 ·have ng:(x.R == y.R)=true:=by simpa using hR
  obtain⟨bv,iu⟩:∃ b,decide (x.s=y.s)=b:=⟨_,rfl⟩;rw [iu] at P;have HE:=Aa (hpt bv iu hR);rw [HE.out];clear hr hs hn hm hpt iu hR F1 F2;go_enter Tryz.func115,Tryz.ntmps115;go_wp2_with fail;refine P.out.mono ?_;rintro e w3 ⟨rfl,ag⟩;go_wp2_with fail;go_ret;exact⟨rfl,Ad al ag⟩
 ·have ng:(x.R == y.R)=false:=by simpa using hR
  have HE:=Aa (show decide (x.pt=y.pt)=false from decide_eq_false fun h=>hR (by have:=congrArg Prod.fst h;exact this));rw [HE.out];clear hr hs hn hm hpt hR F1 F2 P;go_enter Tryz.func115,Tryz.ntmps115;go_wp2_with fail;go_ret;exact⟨rfl,al⟩
end Go.Proofs.YtmkpfdcnikgokaaGreat
