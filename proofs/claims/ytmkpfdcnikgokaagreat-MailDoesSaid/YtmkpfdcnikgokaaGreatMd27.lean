/-
  Texts of this claim, put together: MailMath. What each theorem asks stands in its statement.
-/
import Derived.Test.YtmkpfdcnikgokaaGreatMd21
import Derived.Test.YtmkpfdcnikgokaaGreatMd26
set_option linter.unusedVariables false
set_option linter.unusedSimpArgs false
set_option maxRecDepth 100000
set_option maxHeartbeats 25600000
namespace Go.Proofs.YtmkpfdcnikgokaaGreat
open Go.RowKit
theorem Cp {most x:Int} {l r:List UInt8} {b:Bool} (h:An most (l,b)=(x,(r,false))):b=false/\l=Ap [x]++r/\0<=x/\x<=most/\x<=1099511627776:=by
 unfold An at h;simp only at h;split at h
 ·rename_i hb
  simp only [Prod.mk.injEq] at h;rw [hb] at h;cases h.2.2
 ·rename_i hb
  split at h
  ·rename_i m s hg
   split at h
   ·simp only [Prod.mk.injEq] at h;cases h.2.2
   ·simp only [Prod.mk.injEq] at h;obtain⟨rfl,rfl,-⟩:=h;obtain⟨h1,h2,h3,h4⟩:=D6 hg;refine⟨by simpa using hb,?_,by omega,by omega,by omega⟩;rw [Bv,Cf,List.append_nil,Int.toNat_natCast,h3,List.take_append_drop]
  ·simp only [Prod.mk.injEq] at h;cases h.2.2
theorem Bh {most x:Int} (r:List UInt8) (h0:0<=x) (h1:x<=most) (h2:x<=1099511627776):An most (Ap [x]++r,false)=(x,(r,false)):=by
 unfold An;simp only;rw [if_neg (by decide),Bv,Cf,List.append_nil,Oh x.toNat r (by omega)];simp only;rw [if_neg (by omega),List.drop_left,Int.toNat_of_nonneg h0]
theorem N7 (x:Int) (L:List Int):Ap (x :: L)=Ap [x]++Ap L:=by rw [<-Au];rfl
theorem En (most:Int) (st:ES):∃ x l b,An most st=(x,(l,b)):=⟨_,_,_,rfl⟩
theorem Rm:∀ (k:Nat) (bg:List Sp) (was:Int) (l r:List UInt8) (b:Bool) (q:List Sp),Fe bg k was (l,b)=(some q,(r,false))->b=false/\∃ s:List Sp,s.length=k/\q=bg++s/\l=Ap (B3 was s)++r
 | 0,bg,was,l,r,b,q,h=>by
   simp only [Fe,Prod.mk.injEq,Option.some.injEq] at h;obtain⟨rfl,rfl,rfl⟩:=h;exact⟨rfl, [],rfl,by simp,by simp [B3,Ap]⟩
 | k+1,bg,was,l,r,b,q,h=>by
   obtain⟨x,l1,b1,h1⟩:=En 1073741824 (l,b);obtain⟨y,l2,b2,h2⟩:=En 1073741824 (l1,b1);rw [L6 h1 h2] at h;split at h
   ·simp only [Prod.mk.injEq] at h;cases h.2.2
   ·rename_i hc
    have ae:b2=false:=by
     cases b2
     ·rfl
     ·exact (hc (.inr rfl)).elim
    subst ae;obtain⟨-,s,af,cd,fo⟩:=Rm k _ _ l2 r false q h;obtain⟨rfl,j6,-⟩:=Cp h2;obtain⟨rfl,hl,-⟩:=Cp h1;refine⟨rfl,(was+x,was+x+y) :: s,by simp [af],by rw [cd,List.append_assoc];rfl,?_⟩;rw [hl,j6,fo];simp only [B3];rw [show was+x - was=x by omega,show was+x+y - (was+x)=y by omega];simp only [Bv,Cf,List.append_nil,List.append_assoc]
theorem Ro:∀ (s:List Sp) (bg:List Sp) (was least:Int) (r:List UInt8),0<=was->was<=least->Cc least s->Fe bg s.length was (Ap (B3 was s)++r,false)=(some (bg++s),(r,false))
 | [],bg,was,least,r,_,_,_=>by simp [Fe,B3,Ap]
 | x :: s,bg,was,least,r,h0,h1,hc=>by
   obtain⟨c1,c2,c3,c4⟩:=hc;have e:Ap (B3 was (x :: s))++r=Ap [x.1 - was]++(Ap [x.2 - x.1]++(Ap (B3 x.2 s)++r)):=by
    simp only [B3];rw [N7,N7 _ (B3 _ _)];simp only [List.append_assoc]
   rw [e,List.length_cons,L6 (Bh _ (by omega) (by omega) (by omega)) (Bh _ (by omega) (by omega) (by omega)),if_neg (by
    rintro (h | h)
    ·omega
    ·cases h),show was+(x.1 - was)=x.1 by omega,show x.1+(x.2 - x.1)=x.2 by omega,Ro s _ x.2 (x.2+2) r (by omega) (by omega) c4,List.append_assoc]
   rfl
theorem W1 {bg:List Sp} {k:Nat} {was:Int} {st st':ES}:∀ (_:Fe bg k was st=(none,st')),st'.2=true:=by
 intro h
 induction k generalizing bg was st with
 | zero=>simp only [Fe,Prod.mk.injEq] at h;cases h.1
 | succ k ih=>
   simp only [Fe] at h;split at h
   ·simp only [Prod.mk.injEq] at h;rw [<-h.2]
   ·exact ih h
theorem Rk:∀ (k:Nat) (bg:List PT) (l r:List UInt8) (b:Bool) (P:List PT),Jz k bg (l,b)=(P,(r,false))->b=false/\∃ Q:List PT,Q.length=k/\P=bg++Q/\l=Ap (Q.flatMap Ca)++r
 | 0,bg,l,r,b,P,h=>by
   simp only [Jz,Prod.mk.injEq] at h;obtain⟨rfl,rfl,rfl⟩:=h;exact⟨rfl, [],rfl,by simp,by simp [Ap]⟩
 | k+1,bg,l,r,b,P,h=>by
   obtain⟨x,l1,b1,h1⟩:=En 7 (l,b);obtain⟨m,l2,b2,h2⟩:=En 1024 (l1,b1);rw [L5 h1 h2] at h;obtain⟨o,st3,h3⟩:∃ o s,Fe [] m.toNat 0 (l2,b2)=(o,s):=⟨_,_,rfl⟩;rw [h3] at h
   cases o with
   | none=>
     have:=W1 h3;simp only [O9,Prod.mk.injEq] at h;rw [h.2] at this;cases this
   | some s=>
     obtain⟨l3,b3⟩:=st3;obtain⟨rfl,Q,hQ1,QM,hQ3⟩:=Rk k _ l3 r b3 P h;obtain⟨rfl,s',af,cd,fo⟩:=Rm m.toNat _ _ _ _ _ _ h3;obtain⟨rfl,j6,hm0,-⟩:=Cp h2;obtain⟨rfl,hl,-⟩:=Cp h1;rw [List.nil_append] at cd;subst cd;refine⟨rfl,(x,s) :: Q,by simp [hQ1],by rw [QM,List.append_assoc];rfl,?_⟩;rw [hl,j6,fo,hQ3,List.flatMap_cons,Au];simp only [Ca];rw [show (s.length:Int)=m by omega];simp only [Bv,Cf,List.append_nil,List.append_assoc]
theorem Rl:∀ (Q bg:List PT) (last:Int) (r:List UInt8),-1<=last->Cz last Q->Jz Q.length bg (Ap (Q.flatMap Ca)++r,false)=(bg++Q,(r,false))
 | [],bg,last,r,_,_=>by simp [Jz,Ap]
 | x :: Q,bg,last,r,h0,hc=>by
   obtain⟨c1,c2,c3,c4,c5⟩:=hc;have e:Ap ((x :: Q).flatMap Ca)++r=Ap [x.1]++(Ap [(x.2.length:Int)]++(Ap (B3 0 x.2)++(Ap (Q.flatMap Ca)++r))):=by
    rw [List.flatMap_cons,Au];simp only [Ca];rw [N7 x.1,N7 _ (B3 _ _)];simp only [List.append_assoc]
   have c6:=c4.1;rw [e,List.length_cons,L5 (Bh _ (by omega) (by omega) (by omega)) (Bh _ (by omega) (by omega) (by omega)),Int.toNat_natCast,Ro x.2 [] 0 1 _ (by omega) (by omega) c4.2];simp only [O9,List.nil_append];rw [Rl Q _ x.1 r (by omega) c5,List.append_assoc];rfl
theorem Kk {l r:List UInt8} {b:Bool} {P:List PT} (h:D2 (l,b)=(P,(r,false))):b=false/\l=Ap (Az P)++r:=by
 unfold D2 at h;obtain⟨x,l1,b1,h1⟩:=En 8 (l,b);rw [h1] at h;simp only at h;obtain⟨rfl,Q,hQ1,QM,hQ3⟩:=Rk _ _ _ _ _ _ h;obtain⟨rfl,hl,h0,-⟩:=Cp h1;rw [List.nil_append] at QM;subst QM;refine⟨rfl,?_⟩;rw [hl,hQ3,Az,show (P.length:Int)=x by omega];simp only [Bv,Cf,List.append_nil,List.append_assoc]
theorem Kl {P:List PT} (r:List UInt8) (h:Dj P):D2 (Ap (Az P)++r,false)=(P,(r,false)):=by
 have h8:=Mq h;unfold D2;rw [Az,N7,List.append_assoc,Bh _ (by omega) (by omega) (by omega)];simp only;rw [Int.toNat_natCast,Rl P [] (-1) r (by omega) h,List.nil_append]
theorem Pn {l r:List UInt8} {b:Bool} {t q:Int} (h:Er (l,b)=((t,q),(r,false))):b=false/\l=Ap [t,q]++r/\0<=t/\0<=q:=by
 unfold Er at h;obtain⟨x,l1,b1,h1⟩:=En 1073741824 (l,b);rw [h1] at h;simp only at h;obtain⟨y,l2,b2,h2⟩:=En 7 (l1,b1);rw [h2] at h;simp only [Prod.mk.injEq] at h;obtain⟨⟨rfl,rfl⟩,rfl,rfl⟩:=h;obtain⟨rfl,j6,q0,-⟩:=Cp h2;obtain⟨rfl,hl,t0,-⟩:=Cp h1;refine⟨rfl,?_,t0,q0⟩;rw [hl,j6];simp only [Bv,Cf,List.append_nil,List.append_assoc]
theorem Po {t q:Int} (r:List UInt8) (h0:0<=t) (h1:t<=1073741824) (h2:0<=q) (h3:q<=7):Er (Ap [t,q]++r,false)=((t,q),(r,false)):=by
 unfold Er;rw [N7 t,List.append_assoc,Bh _ h0 h1 (by omega)];simp only;rw [Bh _ h2 h3 (by omega)]
theorem Uc:∀ (k:Nat) (bg:List Bool) (l r:List UInt8) (b:Bool) (q:List Bool),Hw bg k (l,b)=(q,(r,false))->b=false/\∃ s:List Bool,s.length=k/\q=bg++s/\l=Ap (s.map bn)++r
 | 0,bg,l,r,b,q,h=>by
   simp only [Hw,Prod.mk.injEq] at h;obtain⟨rfl,rfl,rfl⟩:=h;exact⟨rfl, [],rfl,by simp,by simp [Ap]⟩
 | k+1,bg,l,r,b,q,h=>by
   obtain⟨x,l1,b1,h1⟩:=En 1 (l,b);rw [Lf h1] at h;obtain⟨rfl,s,af,cd,fo⟩:=Uc k _ l1 r b1 q h;obtain⟨rfl,hl,h0,h9,-⟩:=Cp h1;refine⟨rfl,(x == 1) :: s,by simp [af],by rw [cd,List.append_assoc];rfl,?_⟩;rw [hl,fo,List.map_cons];have:bn (x == 1)=x:=by
    rcases (show x=0\/x=1 by omega) with rfl | rfl <;> rfl
   rw [this];simp only [Bv,Cf,List.append_nil,List.append_assoc]
theorem Pp:∀ (s bg:List Bool) (r:List UInt8),Hw bg s.length (Ap (s.map bn)++r,false)=(bg++s,(r,false))
 | [],bg,r=>by simp [Hw,Ap]
 | x :: s,bg,r=>by
   have h:=Ln x;rw [List.map_cons,N7,List.append_assoc,List.length_cons,Lf (Bh _ h.1 h.2 (by omega)),Pp s _ r,List.append_assoc];cases x <;> rfl
theorem Abu {l r:List UInt8} {b:Bool} {x:WP} (h:Qc (l,b)=(x,(r,false))):b=false/\l=L8 x++r/\0<=x.t/\0<=x.r:=by
 obtain⟨t,q,⟨l1,b1⟩,h1⟩:∃ t r s,Er (l,b)=((t,r),s):=⟨_,_,_,rfl⟩;obtain⟨n,l2,b2,h2⟩:=En 2 (l1,b1);obtain⟨H,⟨l3,b3⟩,h3⟩:∃ x s,D2 (l2,b2)=(x,s):=⟨_,_,rfl⟩;obtain⟨S,⟨l4,b4⟩,h4⟩:∃ x s,D2 (l3,b3)=(x,s):=⟨_,_,rfl⟩;obtain⟨k,l5,b5,h5⟩:=En 128 (l4,b4);rw [Nm h1 h2 h3 h4 h5] at h;obtain⟨G,st6,h6⟩:∃ x s,Hw [] k.toNat (l5,b5)=(x,s):=⟨_,_,rfl⟩;rw [h6] at h;simp only [Prod.mk.injEq] at h;obtain⟨rfl,rfl⟩:=h;obtain⟨rfl,s,af,cd,fo⟩:=Uc _ _ _ _ _ _ h6;obtain⟨rfl,hl4,EM,-⟩:=Cp h5;obtain⟨rfl,zf⟩:=Kk h4;obtain⟨rfl,gm⟩:=Kk h3;obtain⟨rfl,j6,NU,hn2,-⟩:=Cp h2;obtain⟨rfl,hl,ht0,AD⟩:=Pn h1;rw [List.nil_append] at cd;subst cd;refine⟨rfl,?_,ht0,AD⟩;have mu:U8 (n == 1) (n == 2)=n:=by
  rcases (show n=0\/n=1\/n=2 by omega) with rfl | rfl | rfl <;> rfl
 rw [hl,j6,gm,zf,hl4,fo];unfold L8 H7 Ff;simp only;rw [mu,Au,Au,Au,N7 _ (List.map _ _),show (G.length:Int)=k by omega,show [t,q,n]= [t,q]++ [n] from rfl,Au];simp only [List.append_assoc]
def Zw (x:WP):Prop:=0<=x.t/\x.t<=1073741824/\0<=x.r/\x.r<=7/\(x.kn=true->x.rd=false)/\Dj x.H/\Dj x.S/\x.G.length<=128
theorem Abv {x:WP} (r:List UInt8) (h:Zw x):Qc (L8 x++r,false)=(x,(r,false)):=by
 obtain⟨t,q,rd,kn,H,S,G⟩:=x;obtain⟨a,b,c,d,e,f,g,i⟩:=h;simp only at a b c d e f g i;have h0:=O4 rd kn;have e0:L8 ⟨t,q,rd,kn,H,S,G⟩++r=Ap [t,q]++(Ap [U8 rd kn]++(Ap (Az H)++(Ap (Az S)++(Ap [(G.length:Int)]++(Ap (G.map bn)++r))))):=by
  unfold L8 H7 Ff;simp only;rw [Au,Au,Au,N7 _ (List.map _ _),show [t,q,U8 rd kn]= [t,q]++ [U8 rd kn] from rfl,Au];simp only [List.append_assoc]
 rw [e0,Nm (Po _ a b c d) (Bh _ h0.1 h0.2 (by omega)) (Kl _ f) (Kl _ g) (Bh _ (by omega) (by omega) (by omega)),Int.toNat_natCast,Pp,List.nil_append];cases rd <;> cases kn <;> first | rfl | (exact absurd (e rfl) (by decide))
theorem Ri:∀ (k:Nat) (bg:List WP) (l r:List UInt8) (b:Bool) (q:List WP),Gy bg k (l,b)=(q,(r,false))->b=false/\∃ s:List WP,s.length=k/\q=bg++s/\l=s.flatMap L8++r/\∀ x∈s,0<=x.t/\0<=x.r
 | 0,bg,l,r,b,q,h=>by
   simp only [Gy,Prod.mk.injEq] at h;obtain⟨rfl,rfl,rfl⟩:=h;exact⟨rfl, [],rfl,by simp,by simp,fun x hx=>(by cases hx)⟩
 | k+1,bg,l,r,b,q,h=>by
   obtain⟨x,⟨l1,b1⟩,h1⟩:∃ x s,Qc (l,b)=(x,s):=⟨_,_,rfl⟩;simp only [Gy,h1] at h;obtain⟨rfl,s,af,cd,fo,NC⟩:=Ri k _ l1 r b1 q h;obtain⟨rfl,hl,qe⟩:=Abu h1;refine⟨rfl,x :: s,by simp [af],by rw [cd,List.append_assoc];rfl,by rw [hl,fo,List.flatMap_cons,List.append_assoc],fun y hy=>?_⟩;rcases List.mem_cons.1 hy with rfl | hy
   ·exact qe
   ·exact NC y hy
theorem Rj:∀ (s bg:List WP) (r:List UInt8),(∀ x∈s,Zw x)->Gy bg s.length (s.flatMap L8++r,false)=(bg++s,(r,false))
 | [],bg,r,_=>by simp [Gy]
 | x :: s,bg,r,h=>by
   rw [List.flatMap_cons,List.append_assoc,List.length_cons];simp only [Gy];rw [Abv _ (h x List.mem_cons_self)];simp only;rw [Rj s _ r (fun y hy=>h y (List.mem_cons_of_mem _ hy)),List.append_assoc];rfl
theorem Ua {l r:List UInt8} {b:Bool} {O:List Lg} (h:Iz (l,b)=(O,(r,false))):b=false/\l=J2 O++r/\∀ o∈O,I2 o:=by
 unfold Iz at h;simp only at h;split at h
 ·rename_i hb
  simp only [Prod.mk.injEq] at h;rw [hb] at h;cases h.2.2
 ·rename_i hb
  split at h
  ·rename_i q n hg
   simp only [Prod.mk.injEq] at h;obtain⟨rfl,rfl,-⟩:=h;obtain⟨h1,-,h3,h4⟩:=Fv hg;refine⟨by simpa using hb,?_,h1⟩;rw [J2,<-h4,List.take_append_drop]
  ·simp only [Prod.mk.injEq] at h;cases h.2.2
theorem Ub {O:List Lg} (r:List UInt8) (h:∀ o∈O,I2 o) (hl:O.length<=1024):Iz (J2 O++r,false)=(O,(r,false)):=by
 unfold Iz;simp only;rw [if_neg (by decide),J2,Qz r h hl];simp only;rw [List.drop_left]
def Oy (x:MP):Prop:=0<=x.t/\0<=x.r/\(∀ o∈x.O,(∀ y∈o.2.2.2.1,Gl y)/\0<=o.2.2.1)/\∀ y∈x.W,0<=y.t/\0<=y.r
theorem Aba {x:Av} (h:Gm x):Oy x.mp:=by
 obtain⟨⟨a,-,b,-⟩,⟨-,c,d⟩,-⟩:=h;refine⟨a,b,fun o ho=>?_,fun y hy=>?_⟩
 ·obtain⟨z,hz,rfl⟩:=List.mem_map.1 ho;exact⟨(c z hz).2.2.1,(c z hz).2.1.2.2.1⟩
 ·obtain⟨z,hz,rfl⟩:=List.mem_map.1 hy;exact⟨(d z hz).1,(d z hz).2.2.1⟩
theorem Ms {o:Lg} (h:R3 o) (g:(∀ y∈o.2.2.2.1,Gl y)/\0<=o.2.2.1):I2 o:=by
 refine⟨h,g.1,?_,?_,g.2⟩
 ·rcases h.2.2 with⟨h,-⟩ | ⟨h,-⟩ | ⟨h | h,-⟩ <;> omega
 ·rcases h.2.2 with⟨h,-⟩ | ⟨h,-⟩ | ⟨h | h,-⟩ <;> omega
theorem Z3 {x y:WP} (h:WP.en x=WP.en y) (k:WP.hp x=WP.hp y):x=y:=by
 obtain⟨t,r,rd,kn,H,S,G⟩:=x;obtain⟨t',r',mr,ms,H',S',G'⟩:=y;simp only [WP.en,WP.hp,Prod.mk.injEq] at h k;obtain⟨⟨rfl,rfl⟩,⟨rfl,rfl⟩,rfl,rfl⟩:=h;subst k;rfl
theorem Xl:∀ {X Y:List WP},X.map WP.en=Y.map WP.en->X.map WP.hp=Y.map WP.hp->X=Y
 | [], [],_,_=>rfl
 | [],_ :: _,h,_=>by cases h
 | _ :: _, [],h,_=>by cases h
 | x :: X,y :: Y,h,k=>by
   simp only [List.map_cons,List.cons.injEq] at h k;rw [Z3 h.1 k.1,Xl h.2 k.2]
theorem Gd {x y:MP}:Rz x y↔x=y:=by
 refine⟨fun h=>?_,fun h=>by subst h;exact⟨rfl,rfl,rfl,rfl,rfl,rfl,rfl,rfl⟩⟩;obtain⟨k,t,r,ix,I,O,W⟩:=x;obtain⟨k',t',r',vs,I',O',W'⟩:=y;obtain⟨a,b,c,d,e,f,g,i⟩:=h;simp only at a b c d e f g i;subst a b c d e f;rw [Xl g i]
theorem Zl {m r:List UInt8} {x:MP} (h:Cx (m,false)=(x,(r,false))) (hp:L9 x):m=Bi x++r/\Oy x:=by
 obtain⟨k,l1,b1,h1⟩:=En 6 (m,false);unfold Cx at h;simp only [h1] at h;split at h
 ·rename_i hk
  obtain⟨O,⟨l2,b2⟩,h2⟩:∃ x s,Iz (l1,b1)=(x,s):=⟨_,_,rfl⟩;rw [h2] at h;simp only [Prod.mk.injEq] at h;obtain⟨rfl,rfl,rfl⟩:=h;obtain⟨rfl,j6,ho⟩:=Ua h2;obtain⟨-,hm,-⟩:=Cp h1;refine⟨?_,Int.le_refl _,Int.le_refl _,fun o hO=>⟨(ho o hO).2.1,(ho o hO).2.2.2.2⟩,fun y hy=>(by cases hy)⟩;unfold Bi;simp only;rw [if_neg (by omega),if_neg (by omega),if_neg (by omega),if_neg (by omega),hm,j6,List.append_assoc]
 ·split at h
  ·rename_i hk
   obtain⟨P,⟨l2,b2⟩,h2⟩:∃ x s,D2 (l1,b1)=(x,s):=⟨_,_,rfl⟩;rw [h2] at h;simp only [Prod.mk.injEq] at h;obtain⟨rfl,rfl,rfl⟩:=h;obtain⟨rfl,j6⟩:=Kk h2;obtain⟨-,hm,-⟩:=Cp h1;refine⟨?_,Int.le_refl _,Int.le_refl _,fun o hO=>(by cases hO),fun y hy=>(by cases hy)⟩;unfold Bi;simp only;rw [if_pos (by omega),hm,j6,List.append_assoc]
  ·split at h
   ·rename_i hk
    obtain⟨P,⟨l2,b2⟩,h2⟩:∃ x s,D2 (l1,b1)=(x,s):=⟨_,_,rfl⟩;rw [h2] at h;simp only at h;obtain⟨n,l3,b3,h3⟩:=En 65 (l2,b2);rw [h3] at h;simp only at h;obtain⟨W,⟨l4,b4⟩,h4⟩:∃ x s,Gy [] n.toNat (l3,b3)=(x,s):=⟨_,_,rfl⟩;rw [h4] at h;simp only [Prod.mk.injEq] at h;obtain⟨rfl,rfl,rfl⟩:=h;obtain⟨rfl,s,af,cd,fo,NC⟩:=Ri _ _ _ _ _ _ h4;obtain⟨rfl,gm,NU,-⟩:=Cp h3;obtain⟨rfl,j6⟩:=Kk h2;obtain⟨-,hm,-⟩:=Cp h1;rw [List.nil_append] at cd;subst cd;refine⟨?_,Int.le_refl _,Int.le_refl _,fun o hO=>(by cases hO),NC⟩;unfold Bi;simp only;rw [if_neg (by omega),if_pos (by omega),hm,j6,gm,fo,show (W.length:Int)=n by omega];simp only [List.append_assoc]
   ·split at h
    ·rename_i hk
     obtain⟨⟨t,q⟩,⟨l2,b2⟩,h2⟩:∃ x s,Er (l1,b1)=(x,s):=⟨_,_,rfl⟩;rw [h2] at h;simp only at h;obtain⟨P,⟨l3,b3⟩,h3⟩:∃ x s,D2 (l2,b2)=(x,s):=⟨_,_,rfl⟩;rw [h3] at h;simp only [Prod.mk.injEq] at h;obtain⟨rfl,rfl,rfl⟩:=h;obtain⟨rfl,gm⟩:=Kk h3;obtain⟨rfl,j6,t0,q0⟩:=Pn h2;obtain⟨-,hm,-⟩:=Cp h1;refine⟨?_,t0,q0,fun o hO=>(by cases hO),fun y hy=>(by cases hy)⟩;unfold Bi;simp only;rw [if_neg (by omega),if_neg (by omega),if_pos (by omega),hm,j6,gm];simp only [List.append_assoc]
    ·split at h
     ·rename_i hk
      obtain⟨⟨t,q⟩,⟨l2,b2⟩,h2⟩:∃ x s,Er (l1,b1)=(x,s):=⟨_,_,rfl⟩;rw [h2] at h;simp only at h;obtain⟨n,l3,b3,h3⟩:=En 127 (l2,b2);rw [h3] at h;simp only at h;obtain⟨O,⟨l4,b4⟩,h4⟩:∃ x s,Iz (l3,b3)=(x,s):=⟨_,_,rfl⟩;rw [h4] at h;simp only [Prod.mk.injEq] at h;obtain⟨rfl,rfl,rfl⟩:=h;obtain⟨rfl,zf,ho⟩:=Ua h4;obtain⟨rfl,gm,-⟩:=Cp h3;obtain⟨rfl,j6,t0,q0⟩:=Pn h2;obtain⟨-,hm,-⟩:=Cp h1;refine⟨?_,t0,q0,fun o hO=>⟨(ho o hO).2.1,(ho o hO).2.2.2.2⟩,fun y hy=>(by cases hy)⟩;unfold Bi;simp only;rw [if_neg (by omega),if_neg (by omega),if_neg (by omega),if_pos (by omega),hm,j6,gm,zf];simp only [Bv,Cf,List.append_nil,List.append_assoc]
     ·simp only [Prod.mk.injEq] at h;obtain⟨rfl,-⟩:=h
      rename_i a b c d e
      rcases hp with⟨h,-⟩ | ⟨h,-⟩ | ⟨h,-⟩ | ⟨h,-⟩ | ⟨h,-⟩
      ·exact (a h).elim
      ·exact (b h).elim
      ·exact (c h).elim
      ·exact (d h).elim
      ·exact (e h).elim
theorem Nd {E:List WP} (h:Cy E) (g:∀ y∈E,0<=y.t/\0<=y.r):∀ x∈E,Zw x:=by
 intro x hx;obtain⟨h1,h2,h3⟩:=(I7 h).2 x hx;obtain⟨h4,h5⟩:=Jv _ _ h.1.2 x.en (List.mem_map_of_mem hx);obtain⟨g1,g2⟩:=g x hx;change Fb x.t x.r at h4;have h6:x.t<=1073741824/\x.r<=7:=by
  rcases h4 with h | h
  ·omega
  ·have:1<=x.t/\x.t<=1073741824/\x.r < 8:=h;omega
 refine⟨g1,h6.1,g2,h6.2,fun hk=>?_,h1,h2,h3⟩;change (if x.kn=true then x.rd=false/\Dj x.S/\I0 x.S<=1024/\(x.G.length:Int)=(I0 x.S+7) / 8 else x.S.length=0/\x.G.length=0) at h5;rw [if_pos hk] at h5;exact h5.1
theorem R8 {t r:Int} (h:Fb t r):t<=1073741824/\r<=7:=by
 rcases h with h | h
 ·omega
 ·have:1<=t/\t<=1073741824/\r < 8:=h;omega
theorem Zm {x:MP} (r:List UInt8) (h:B8 x) (g:Oy x):Cx (Bi x++r,false)=(x,(r,false)):=by
 have hx:=Gd.1 h.2;have hp:=h.1;have k7:=fun hk=>Io h hk;have KR:=fun hk=>K5 h hk;have BC:=fun hk=>Kf h hk;have vo:=fun hk=>Le h hk;obtain⟨k,t,q,ix,I,O,W⟩:=x;obtain⟨g1,g2,g3,g4⟩:=g;simp only at k7 KR BC vo g1 g2 g3 g4;have hk:(k=1\/k=4)\/k=2\/k=3\/k=5\/k=6:=by
  rcases hp with⟨h | h,-⟩ | ⟨h,-⟩ | ⟨h,-⟩ | ⟨h,-⟩ | ⟨h,-⟩ <;> simp only at h <;> omega
 unfold Rw at hx;simp only at hx;rcases hk with hk | rfl | rfl | rfl | rfl
 ·rw [if_pos hk] at hx;simp only [MP.mk.injEq,true_and,and_true] at hx;obtain⟨rfl,rfl,rfl,rfl,rfl⟩:=hx;have ho:=KR hk;have e:Bi ⟨k,0,0,0, [],O, []⟩++r=Ap [k]++(J2 O++r):=by
   unfold Bi;simp only;rw [if_neg (by omega),if_neg (by omega),if_neg (by omega),if_neg (by omega),List.append_assoc]
  unfold Cx;rw [e];simp only [Bh (most:=6) _ (show 0<=k by omega) (by omega) (by omega),Ub r (fun o hO=>Ms (ho.2.2 o hO) (g3 o hO)) (by have:=ho.2.1;omega)];rw [if_pos hk]
 ·rw [if_neg (by decide),if_pos rfl] at hx;simp only [MP.mk.injEq,true_and,and_true] at hx;obtain⟨rfl,rfl,rfl,rfl,rfl⟩:=hx;have e:Bi ⟨2,0,0,0,I, [], []⟩++r=Ap [2]++(Ap (Az I)++r):=by
   unfold Bi;simp only;rw [if_pos trivial,List.append_assoc]
  unfold Cx;rw [e];simp only [Bh (most:=6) _ (show (0:Int)<=2 by omega) (by omega) (by omega),Kl r (k7 (.inl rfl)).1];rw [if_neg (by decide),if_pos trivial]
 ·rw [if_neg (by decide),if_neg (by decide),if_pos rfl] at hx;simp only [MP.mk.injEq,true_and,and_true] at hx;obtain⟨rfl,rfl,rfl,rfl⟩:=hx;have hw:=BC rfl;have h65:=(I7 hw).1;have e:Bi ⟨3,0,0,0,I, [],W⟩++r=Ap [3]++(Ap (Az I)++(Ap [(W.length:Int)]++(W.flatMap L8++r))):=by
   unfold Bi;simp only;rw [if_neg (by decide),if_pos trivial];simp only [List.append_assoc]
  unfold Cx;rw [e];simp only [Bh (most:=6) _ (show (0:Int)<=3 by omega) (by omega) (by omega),Kl _ (k7 (.inr (.inl rfl))).1,Bh (most:=65) _ (show (0:Int)<=W.length by omega) (by omega) (by omega),Int.toNat_natCast,Rj W [] r (Nd hw g4),List.nil_append];rw [if_neg (by decide),if_neg (by decide),if_pos trivial]
 ·rw [if_neg (by decide),if_neg (by decide),if_neg (by decide),if_pos rfl] at hx;simp only [MP.mk.injEq,true_and,and_true] at hx;obtain⟨rfl,rfl,rfl⟩:=hx;have hs:Fb t q:=by
   rcases hp with⟨h,-⟩ | ⟨h,-⟩ | ⟨h,-⟩ | ⟨-,h,-⟩ | ⟨h,-⟩
   ·simp only at h;omega
   ·simp only at h;omega
   ·simp only at h;omega
   ·exact h
   ·simp only at h;omega
  obtain⟨s1,s2⟩:=R8 hs;have e:Bi ⟨5,t,q,0,I, [], []⟩++r=Ap [5]++(Ap [t,q]++(Ap (Az I)++r)):=by
   unfold Bi;simp only;rw [if_neg (by decide),if_neg (by decide),if_pos trivial];simp only [List.append_assoc]
  unfold Cx;rw [e];simp only [Bh (most:=6) _ (show (0:Int)<=5 by omega) (by omega) (by omega),Po _ g1 s1 g2 s2,Kl _ (k7 (.inr (.inr rfl))).1];rw [if_neg (by decide),if_neg (by decide),if_neg (by decide),if_pos trivial]
 ·rw [if_neg (by decide),if_neg (by decide),if_neg (by decide),if_neg (by decide),if_pos rfl] at hx;simp only [MP.mk.injEq,true_and,and_true] at hx;obtain⟨rfl,rfl⟩:=hx;have hs:Fb t q:=by
   rcases hp with⟨h,-⟩ | ⟨h,-⟩ | ⟨h,-⟩ | ⟨h,-⟩ | ⟨-,h,-⟩
   ·simp only at h;omega
   ·simp only at h;omega
   ·simp only at h;omega
   ·simp only at h;omega
   ·exact h
  obtain⟨s1,s2⟩:=R8 hs;obtain⟨x1,x2,ho⟩:=vo rfl;have e:Bi ⟨6,t,q,ix, [],O, []⟩++r=Ap [6]++(Ap [t,q]++(Ap [ix]++(J2 O++r))):=by
   unfold Bi;simp only;rw [if_neg (by decide),if_neg (by decide),if_neg (by decide),if_pos trivial];simp only [Bv,Cf,List.append_nil,List.append_assoc]
  unfold Cx;rw [e];simp only [Bh (most:=6) _ (show (0:Int)<=6 by omega) (by omega) (by omega),Po _ g1 s1 g2 s2,Bh (most:=127) _ x1 (by omega) (by omega),Ub r (fun o hO=>Ms (ho.2.2 o hO) (g3 o hO)) (by have:=ho.2.1;omega)];rw [if_neg (by decide),if_neg (by decide),if_neg (by decide),if_neg (by decide),if_pos trivial]
theorem Abq {m:List UInt8} {x:MP} (h:G1 m=some x):m=Bi x/\B8 x/\Oy x:=by
 unfold G1 at h;split at h
 ·rename_i hc
  obtain⟨c1,c2,c3⟩:=hc;obtain⟨y,⟨r,b⟩,hb⟩:∃ x s,Cx (m,false)=(x,s):=⟨_,_,rfl⟩;rw [hb] at c1 c2 c3 h;simp only [Option.some.injEq] at c1 c2 c3 h;subst h c1;obtain rfl:=List.length_eq_zero_iff.1 c2;obtain⟨e,g⟩:=Zl hb c3.1;exact⟨by rw [e,List.append_nil],c3,g⟩
 ·cases h
theorem Abr {x:MP} (h:B8 x) (g:Oy x):G1 (Bi x)=some x:=by
 have:=Zm [] h g;rw [List.append_nil] at this;exact Ip this rfl h
end Go.Proofs.YtmkpfdcnikgokaaGreat
