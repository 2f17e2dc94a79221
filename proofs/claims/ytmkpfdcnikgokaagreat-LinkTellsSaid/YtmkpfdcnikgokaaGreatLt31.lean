/-
  Texts of this claim, put together: MailMath, ListRefAll. What each theorem asks stands in its statement.
-/
import Derived.Test.YtmkpfdcnikgokaaGreatLt11
import Derived.Test.YtmkpfdcnikgokaaGreatLt23
import Derived.Test.YtmkpfdcnikgokaaGreatLt28
import Derived.Test.YtmkpfdcnikgokaaGreatLt30
set_option linter.unusedVariables false
set_option linter.unusedSimpArgs false
set_option maxRecDepth 100000
set_option maxHeartbeats 25600000
namespace Go.Proofs.YtmkpfdcnikgokaaGreat
open Go.RowKit
theorem eyeN_inv {most x:Int} {l r:List UInt8} {b:Bool} (h:eyeN most (l,b)=(x,(r,false))):b=false∧l=nbs [x]++r∧0≤x∧x≤most∧x≤1099511627776:=by
 unfold eyeN at h
 simp only at h
 split at h
 ·rename_i hb
  simp only [Prod.mk.injEq] at h
  rw [hb] at h
  cases h.2.2
 ·rename_i hb
  split at h
  ·rename_i m s hg
   split at h
   ·simp only [Prod.mk.injEq] at h
    cases h.2.2
   ·simp only [Prod.mk.injEq] at h
    obtain⟨rfl,rfl,-⟩:=h
    obtain⟨h1,h2,h3,h4⟩:=gget_inv hg
    refine⟨by simpa using hb,?_,by omega,by omega,by omega⟩
    rw [nbs_cons,nbs_nil,List.append_nil,Int.toNat_natCast,h3,List.take_append_drop]
  ·simp only [Prod.mk.injEq] at h
   cases h.2.2
theorem eyeN_fwd {most x:Int} (r:List UInt8) (h0:0≤x) (h1:x≤most) (h2:x≤1099511627776):eyeN most (nbs [x]++r,false)=(x,(r,false)):=by
 unfold eyeN
 simp only
 rw [if_neg (by decide),nbs_cons,nbs_nil,List.append_nil,gget_nb x.toNat r (by omega)]
 simp only
 rw [if_neg (by omega),List.drop_left,Int.toNat_of_nonneg h0]
theorem nbs2 (x:Int) (L:List Int):nbs (x :: L)=nbs [x]++nbs L:=by rw [←nbs_append];rfl
/-- A step that is read: the state is named. -/
theorem eyeN_ex (most:Int) (st:ES):∃ x l b,eyeN most st=(x,(l,b)):=⟨_,_,_,rfl⟩
theorem eyeSp_inv:∀ (k:Nat) (acc:List Sp) (was:Int) (l r:List UInt8) (b:Bool) (q:List Sp),eyeSp acc k was (l,b)=(some q,(r,false))→b=false∧∃ s:List Sp,s.length=k∧q=acc++s∧l=nbs (spNums was s)++r
 | 0,acc,was,l,r,b,q,h=>by
   simp only [eyeSp,Prod.mk.injEq,Option.some.injEq] at h
   obtain⟨rfl,rfl,rfl⟩:=h
   exact⟨rfl, [],rfl,by simp,by simp [spNums,nbs]⟩
 | k+1,acc,was,l,r,b,q,h=>by
   obtain⟨x,l1,b1,h1⟩:=eyeN_ex 1073741824 (l,b)
   obtain⟨y,l2,b2,h2⟩:=eyeN_ex 1073741824 (l1,b1)
   rw [eyeSp_step h1 h2] at h
   split at h
   ·simp only [Prod.mk.injEq] at h
    cases h.2.2
   ·rename_i hc
    have hb2:b2=false:=by
     cases b2
     ·rfl
     ·exact (hc (.inr rfl)).elim
    subst hb2
    obtain⟨-,s,hs1,hs2,hs3⟩:=eyeSp_inv k _ _ l2 r false q h
    obtain⟨rfl,hl1,-⟩:=eyeN_inv h2
    obtain⟨rfl,hl,-⟩:=eyeN_inv h1
    refine⟨rfl,(was+x,was+x+y) :: s,by simp [hs1],by rw [hs2,List.append_assoc];rfl,?_⟩
    rw [hl,hl1,hs3]
    simp only [spNums]
    rw [show was+x - was=x by omega,show was+x+y - (was+x)=y by omega]
    simp only [nbs_cons,nbs_nil,List.append_nil,List.append_assoc]
theorem eyeSp_fwd:∀ (s:List Sp) (acc:List Sp) (was least:Int) (r:List UInt8),0≤was→was≤least→chainS least s→eyeSp acc s.length was (nbs (spNums was s)++r,false)=(some (acc++s),(r,false))
 | [],acc,was,least,r,_,_,_=>by simp [eyeSp,spNums,nbs]
 | x :: s,acc,was,least,r,h0,h1,hc=>by
   obtain⟨c1,c2,c3,c4⟩:=hc
   have e:nbs (spNums was (x :: s))++r=nbs [x.1 - was]++(nbs [x.2 - x.1]++(nbs (spNums x.2 s)++r)):=by
    simp only [spNums]
    rw [nbs2,nbs2 _ (spNums _ _)]
    simp only [List.append_assoc]
   rw [e,List.length_cons,eyeSp_step (eyeN_fwd _ (by omega) (by omega) (by omega)) (eyeN_fwd _ (by omega) (by omega) (by omega)),if_neg (by
    rintro (h | h)
    ·omega
    ·cases h),show was+(x.1 - was)=x.1 by omega,show x.1+(x.2 - x.1)=x.2 by omega,eyeSp_fwd s _ x.2 (x.2+2) r (by omega) (by omega) c4,List.append_assoc]
   rfl
theorem eyeSp_none {acc:List Sp} {k:Nat} {was:Int} {st st':ES}:∀ (_:eyeSp acc k was st=(none,st')),st'.2=true:=by
 intro h
 induction k generalizing acc was st with
 | zero=>simp only [eyeSp,Prod.mk.injEq] at h;cases h.1
 | succ k ih=>
   simp only [eyeSp] at h
   split at h
   ·simp only [Prod.mk.injEq] at h
    rw [←h.2]
   ·exact ih h
theorem eyeTm_inv:∀ (k:Nat) (acc:List PT) (l r:List UInt8) (b:Bool) (P:List PT),eyeTm k acc (l,b)=(P,(r,false))→b=false∧∃ Q:List PT,Q.length=k∧P=acc++Q∧l=nbs (Q.flatMap tmNums)++r
 | 0,acc,l,r,b,P,h=>by
   simp only [eyeTm,Prod.mk.injEq] at h
   obtain⟨rfl,rfl,rfl⟩:=h
   exact⟨rfl, [],rfl,by simp,by simp [nbs]⟩
 | k+1,acc,l,r,b,P,h=>by
   obtain⟨x,l1,b1,h1⟩:=eyeN_ex 7 (l,b)
   obtain⟨m,l2,b2,h2⟩:=eyeN_ex 1024 (l1,b1)
   rw [eyeTm_step h1 h2] at h
   obtain⟨o,st3,h3⟩:∃ o s,eyeSp [] m.toNat 0 (l2,b2)=(o,s):=⟨_,_,rfl⟩
   rw [h3] at h
   cases o with
   | none=>
     have:=eyeSp_none h3
     simp only [eyeTmK,Prod.mk.injEq] at h
     rw [h.2] at this
     cases this
   | some s=>
     obtain⟨l3,b3⟩:=st3
     obtain⟨rfl,Q,hQ1,hQ2,hQ3⟩:=eyeTm_inv k _ l3 r b3 P h
     obtain⟨rfl,s',hs1,hs2,hs3⟩:=eyeSp_inv m.toNat _ _ _ _ _ _ h3
     obtain⟨rfl,hl1,hm0,-⟩:=eyeN_inv h2
     obtain⟨rfl,hl,-⟩:=eyeN_inv h1
     rw [List.nil_append] at hs2
     subst hs2
     refine⟨rfl,(x,s) :: Q,by simp [hQ1],by rw [hQ2,List.append_assoc];rfl,?_⟩
     rw [hl,hl1,hs3,hQ3,List.flatMap_cons,nbs_append]
     simp only [tmNums]
     rw [show (s.length:Int)=m by omega]
     simp only [nbs_cons,nbs_nil,List.append_nil,List.append_assoc]
theorem eyeTm_fwd:∀ (Q acc:List PT) (last:Int) (r:List UInt8),-1≤last→chainT last Q→eyeTm Q.length acc (nbs (Q.flatMap tmNums)++r,false)=(acc++Q,(r,false))
 | [],acc,last,r,_,_=>by simp [eyeTm,nbs]
 | x :: Q,acc,last,r,h0,hc=>by
   obtain⟨c1,c2,c3,c4,c5⟩:=hc
   have e:nbs ((x :: Q).flatMap tmNums)++r=nbs [x.1]++(nbs [(x.2.length:Int)]++(nbs (spNums 0 x.2)++(nbs (Q.flatMap tmNums)++r))):=by
    rw [List.flatMap_cons,nbs_append]
    simp only [tmNums]
    rw [nbs2 x.1,nbs2 _ (spNums _ _)]
    simp only [List.append_assoc]
   have c6:=c4.1
   rw [e,List.length_cons,eyeTm_step (eyeN_fwd _ (by omega) (by omega) (by omega)) (eyeN_fwd _ (by omega) (by omega) (by omega)),Int.toNat_natCast,eyeSp_fwd x.2 [] 0 1 _ (by omega) (by omega) c4.2]
   simp only [eyeTmK,List.nil_append]
   rw [eyeTm_fwd Q _ x.1 r (by omega) c5,List.append_assoc]
   rfl
theorem eyeC_inv {l r:List UInt8} {b:Bool} {P:List PT} (h:eyeC (l,b)=(P,(r,false))):b=false∧l=nbs (ckNums P)++r:=by
 unfold eyeC at h
 obtain⟨x,l1,b1,h1⟩:=eyeN_ex 8 (l,b)
 rw [h1] at h
 simp only at h
 obtain⟨rfl,Q,hQ1,hQ2,hQ3⟩:=eyeTm_inv _ _ _ _ _ _ h
 obtain⟨rfl,hl,h0,-⟩:=eyeN_inv h1
 rw [List.nil_append] at hQ2
 subst hQ2
 refine⟨rfl,?_⟩
 rw [hl,hQ3,ckNums,show (P.length:Int)=x by omega]
 simp only [nbs_cons,nbs_nil,List.append_nil,List.append_assoc]
theorem eyeC_fwd {P:List PT} (r:List UInt8) (h:mayT P):eyeC (nbs (ckNums P)++r,false)=(P,(r,false)):=by
 have h8:=mayT_len h
 unfold eyeC
 rw [ckNums,nbs2,List.append_assoc,eyeN_fwd _ (by omega) (by omega) (by omega)]
 simp only
 rw [Int.toNat_natCast,eyeTm_fwd P [] (-1) r (by omega) h,List.nil_append]
theorem eyeS_inv {l r:List UInt8} {b:Bool} {t q:Int} (h:eyeS (l,b)=((t,q),(r,false))):b=false∧l=nbs [t,q]++r∧0≤t∧0≤q:=by
 unfold eyeS at h
 obtain⟨x,l1,b1,h1⟩:=eyeN_ex 1073741824 (l,b)
 rw [h1] at h
 simp only at h
 obtain⟨y,l2,b2,h2⟩:=eyeN_ex 7 (l1,b1)
 rw [h2] at h
 simp only [Prod.mk.injEq] at h
 obtain⟨⟨rfl,rfl⟩,rfl,rfl⟩:=h
 obtain⟨rfl,hl1,q0,-⟩:=eyeN_inv h2
 obtain⟨rfl,hl,t0,-⟩:=eyeN_inv h1
 refine⟨rfl,?_,t0,q0⟩
 rw [hl,hl1]
 simp only [nbs_cons,nbs_nil,List.append_nil,List.append_assoc]
theorem eyeS_fwd {t q:Int} (r:List UInt8) (h0:0≤t) (h1:t≤1073741824) (h2:0≤q) (h3:q≤7):eyeS (nbs [t,q]++r,false)=((t,q),(r,false)):=by
 unfold eyeS
 rw [nbs2 t,List.append_assoc,eyeN_fwd _ h0 h1 (by omega)]
 simp only
 rw [eyeN_fwd _ h2 h3 (by omega)]
theorem eyeB_inv:∀ (k:Nat) (acc:List Bool) (l r:List UInt8) (b:Bool) (q:List Bool),eyeB acc k (l,b)=(q,(r,false))→b=false∧∃ s:List Bool,s.length=k∧q=acc++s∧l=nbs (s.map bn)++r
 | 0,acc,l,r,b,q,h=>by
   simp only [eyeB,Prod.mk.injEq] at h
   obtain⟨rfl,rfl,rfl⟩:=h
   exact⟨rfl, [],rfl,by simp,by simp [nbs]⟩
 | k+1,acc,l,r,b,q,h=>by
   obtain⟨x,l1,b1,h1⟩:=eyeN_ex 1 (l,b)
   rw [eyeB_step h1] at h
   obtain⟨rfl,s,hs1,hs2,hs3⟩:=eyeB_inv k _ l1 r b1 q h
   obtain⟨rfl,hl,h0,h9,-⟩:=eyeN_inv h1
   refine⟨rfl,(x == 1) :: s,by simp [hs1],by rw [hs2,List.append_assoc];rfl,?_⟩
   rw [hl,hs3,List.map_cons]
   have:bn (x == 1)=x:=by
    rcases (show x=0∨x=1 by omega) with rfl | rfl <;> rfl
   rw [this]
   simp only [nbs_cons,nbs_nil,List.append_nil,List.append_assoc]
theorem eyeB_fwd:∀ (s acc:List Bool) (r:List UInt8),eyeB acc s.length (nbs (s.map bn)++r,false)=(acc++s,(r,false))
 | [],acc,r=>by simp [eyeB,nbs]
 | x :: s,acc,r=>by
   have h:=bn_ok x
   rw [List.map_cons,nbs2,List.append_assoc,List.length_cons,eyeB_step (eyeN_fwd _ h.1 h.2 (by omega)),eyeB_fwd s _ r,List.append_assoc]
   cases x <;> rfl
theorem eyeW_inv {l r:List UInt8} {b:Bool} {x:WP} (h:eyeW (l,b)=(x,(r,false))):b=false∧l=wsB x++r∧0≤x.t∧0≤x.r:=by
 obtain⟨t,q,⟨l1,b1⟩,h1⟩:∃ t r s,eyeS (l,b)=((t,r),s):=⟨_,_,_,rfl⟩
 obtain⟨n,l2,b2,h2⟩:=eyeN_ex 2 (l1,b1)
 obtain⟨H,⟨l3,b3⟩,h3⟩:∃ x s,eyeC (l2,b2)=(x,s):=⟨_,_,rfl⟩
 obtain⟨S,⟨l4,b4⟩,h4⟩:∃ x s,eyeC (l3,b3)=(x,s):=⟨_,_,rfl⟩
 obtain⟨k,l5,b5,h5⟩:=eyeN_ex 128 (l4,b4)
 rw [eyeW_step h1 h2 h3 h4 h5] at h
 obtain⟨G,st6,h6⟩:∃ x s,eyeB [] k.toNat (l5,b5)=(x,s):=⟨_,_,rfl⟩
 rw [h6] at h
 simp only [Prod.mk.injEq] at h
 obtain⟨rfl,rfl⟩:=h
 obtain⟨rfl,s,hs1,hs2,hs3⟩:=eyeB_inv _ _ _ _ _ _ h6
 obtain⟨rfl,hl4,hk0,-⟩:=eyeN_inv h5
 obtain⟨rfl,hl3⟩:=eyeC_inv h4
 obtain⟨rfl,hl2⟩:=eyeC_inv h3
 obtain⟨rfl,hl1,hn0,hn2,-⟩:=eyeN_inv h2
 obtain⟨rfl,hl,ht0,hq0⟩:=eyeS_inv h1
 rw [List.nil_append] at hs2
 subst hs2
 refine⟨rfl,?_,ht0,hq0⟩
 have hst:stN (n == 1) (n == 2)=n:=by
  rcases (show n=0∨n=1∨n=2 by omega) with rfl | rfl | rfl <;> rfl
 rw [hl,hl1,hl2,hl3,hl4,hs3]
 unfold wsB wsNums gtNums
 simp only
 rw [hst,nbs_append,nbs_append,nbs_append,nbs2 _ (List.map _ _),show (G.length:Int)=k by omega,show [t,q,n]= [t,q]++ [n] from rfl,nbs_append]
 simp only [List.append_assoc]
/-- What of a wish is read again. -/
def fitW (x:WP):Prop:=0≤x.t∧x.t≤1073741824∧0≤x.r∧x.r≤7∧(x.kn=true→x.rd=false)∧mayT x.H∧mayT x.S∧x.G.length≤128
theorem eyeW_fwd {x:WP} (r:List UInt8) (h:fitW x):eyeW (wsB x++r,false)=(x,(r,false)):=by
 obtain⟨t,q,rd,kn,H,S,G⟩:=x
 obtain⟨a,b,c,d,e,f,g,i⟩:=h
 simp only at a b c d e f g i
 have h0:=stN_ok rd kn
 have e0:wsB ⟨t,q,rd,kn,H,S,G⟩++r=nbs [t,q]++(nbs [stN rd kn]++(nbs (ckNums H)++(nbs (ckNums S)++(nbs [(G.length:Int)]++(nbs (G.map bn)++r))))):=by
  unfold wsB wsNums gtNums
  simp only
  rw [nbs_append,nbs_append,nbs_append,nbs2 _ (List.map _ _),show [t,q,stN rd kn]= [t,q]++ [stN rd kn] from rfl,nbs_append]
  simp only [List.append_assoc]
 rw [e0,eyeW_step (eyeS_fwd _ a b c d) (eyeN_fwd _ h0.1 h0.2 (by omega)) (eyeC_fwd _ f) (eyeC_fwd _ g) (eyeN_fwd _ (by omega) (by omega) (by omega)),Int.toNat_natCast,eyeB_fwd,List.nil_append]
 cases rd <;> cases kn <;> first | rfl | (exact absurd (e rfl) (by decide))
theorem eyeWs_inv:∀ (k:Nat) (acc:List WP) (l r:List UInt8) (b:Bool) (q:List WP),eyeWs acc k (l,b)=(q,(r,false))→b=false∧∃ s:List WP,s.length=k∧q=acc++s∧l=s.flatMap wsB++r∧∀ x∈s,0≤x.t∧0≤x.r
 | 0,acc,l,r,b,q,h=>by
   simp only [eyeWs,Prod.mk.injEq] at h
   obtain⟨rfl,rfl,rfl⟩:=h
   exact⟨rfl, [],rfl,by simp,by simp,fun x hx=>(by cases hx)⟩
 | k+1,acc,l,r,b,q,h=>by
   obtain⟨x,⟨l1,b1⟩,h1⟩:∃ x s,eyeW (l,b)=(x,s):=⟨_,_,rfl⟩
   simp only [eyeWs,h1] at h
   obtain⟨rfl,s,hs1,hs2,hs3,hs4⟩:=eyeWs_inv k _ l1 r b1 q h
   obtain⟨rfl,hl,hx0⟩:=eyeW_inv h1
   refine⟨rfl,x :: s,by simp [hs1],by rw [hs2,List.append_assoc];rfl,by rw [hl,hs3,List.flatMap_cons,List.append_assoc],fun y hy=>?_⟩
   rcases List.mem_cons.1 hy with rfl | hy
   ·exact hx0
   ·exact hs4 y hy
theorem eyeWs_fwd:∀ (s acc:List WP) (r:List UInt8),(∀ x∈s,fitW x)→eyeWs acc s.length (s.flatMap wsB++r,false)=(acc++s,(r,false))
 | [],acc,r,_=>by simp [eyeWs]
 | x :: s,acc,r,h=>by
   rw [List.flatMap_cons,List.append_assoc,List.length_cons]
   simp only [eyeWs]
   rw [eyeW_fwd _ (h x List.mem_cons_self)]
   simp only
   rw [eyeWs_fwd s _ r (fun y hy=>h y (List.mem_cons_of_mem _ hy)),List.append_assoc]
   rfl
theorem eyeO_inv {l r:List UInt8} {b:Bool} {O:List OpP} (h:eyeO (l,b)=(O,(r,false))):b=false∧l=opsB O++r∧∀ o∈O,goodP o:=by
 unfold eyeO at h
 simp only at h
 split at h
 ·rename_i hb
  simp only [Prod.mk.injEq] at h
  rw [hb] at h
  cases h.2.2
 ·rename_i hb
  split at h
  ·rename_i q n hg
   simp only [Prod.mk.injEq] at h
   obtain⟨rfl,rfl,-⟩:=h
   obtain⟨h1,-,h3,h4⟩:=readL_inv hg
   refine⟨by simpa using hb,?_,h1⟩
   rw [opsB,←h4,List.take_append_drop]
  ·simp only [Prod.mk.injEq] at h
   cases h.2.2
theorem eyeO_fwd {O:List OpP} (r:List UInt8) (h:∀ o∈O,goodP o) (hl:O.length≤1024):eyeO (opsB O++r,false)=(O,(r,false)):=by
 unfold eyeO
 simp only
 rw [if_neg (by decide),opsB,readL_fwd r h hl]
 simp only
 rw [List.drop_left]
/-- The parts of mail are of their types. -/
def goodM (x:MP):Prop:=0≤x.t∧0≤x.r∧(∀ o∈x.O,(∀ y∈o.2.2.2.1,okR y)∧0≤o.2.2.1)∧∀ y∈x.W,0≤y.t∧0≤y.r
theorem okM_good {x:MlL} (h:okM x):goodM x.mp:=by
 obtain⟨⟨a,-,b,-⟩,⟨-,c,d⟩,-⟩:=h
 refine⟨a,b,fun o ho=>?_,fun y hy=>?_⟩
 ·obtain⟨z,hz,rfl⟩:=List.mem_map.1 ho
  exact⟨(c z hz).2.2.1,(c z hz).2.1.2.2.1⟩
 ·obtain⟨z,hz,rfl⟩:=List.mem_map.1 hy
  exact⟨(d z hz).1,(d z hz).2.2.1⟩
theorem goodP_of {o:OpP} (h:mayP o) (g:(∀ y∈o.2.2.2.1,okR y)∧0≤o.2.2.1):goodP o:=by
 refine⟨h,g.1,?_,?_,g.2⟩
 ·rcases h.2.2 with⟨h,-⟩ | ⟨h,-⟩ | ⟨h | h,-⟩ <;> omega
 ·rcases h.2.2 with⟨h,-⟩ | ⟨h,-⟩ | ⟨h | h,-⟩ <;> omega
theorem wp_ext {x y:WP} (h:WP.en x=WP.en y) (k:WP.hp x=WP.hp y):x=y:=by
 obtain⟨t,r,rd,kn,H,S,G⟩:=x
 obtain⟨t',r',rd',kn',H',S',G'⟩:=y
 simp only [WP.en,WP.hp,Prod.mk.injEq] at h k
 obtain⟨⟨rfl,rfl⟩,⟨rfl,rfl⟩,rfl,rfl⟩:=h
 subst k
 rfl
theorem wps_ext:∀ {X Y:List WP},X.map WP.en=Y.map WP.en→X.map WP.hp=Y.map WP.hp→X=Y
 | [], [],_,_=>rfl
 | [],_ :: _,h,_=>by cases h
 | _ :: _, [],h,_=>by cases h
 | x :: X,y :: Y,h,k=>by
   simp only [List.map_cons,List.cons.injEq] at h k
   rw [wp_ext h.1 k.1,wps_ext h.2 k.2]
theorem samM_eq {x y:MP}:samM x y↔x=y:=by
 refine⟨fun h=>?_,fun h=>by subst h;exact⟨rfl,rfl,rfl,rfl,rfl,rfl,rfl,rfl⟩⟩
 obtain⟨k,t,r,ix,I,O,W⟩:=x
 obtain⟨k',t',r',ix',I',O',W'⟩:=y
 obtain⟨a,b,c,d,e,f,g,i⟩:=h
 simp only at a b c d e f g i
 subst a b c d e f
 rw [wps_ext g i]
theorem bodyM_inv {m r:List UInt8} {x:MP} (h:bodyM (m,false)=(x,(r,false))) (hp:isP x):m=bodyB x++r∧goodM x:=by
 obtain⟨k,l1,b1,h1⟩:=eyeN_ex 6 (m,false)
 unfold bodyM at h
 simp only [h1] at h
 split at h
 ·rename_i hk
  obtain⟨O,⟨l2,b2⟩,h2⟩:∃ x s,eyeO (l1,b1)=(x,s):=⟨_,_,rfl⟩
  rw [h2] at h
  simp only [Prod.mk.injEq] at h
  obtain⟨rfl,rfl,rfl⟩:=h
  obtain⟨rfl,hl1,ho⟩:=eyeO_inv h2
  obtain⟨-,hm,-⟩:=eyeN_inv h1
  refine⟨?_,Int.le_refl _,Int.le_refl _,fun o hO=>⟨(ho o hO).2.1,(ho o hO).2.2.2.2⟩,fun y hy=>(by cases hy)⟩
  unfold bodyB
  simp only
  rw [if_neg (by omega),if_neg (by omega),if_neg (by omega),if_neg (by omega),hm,hl1,List.append_assoc]
 ·split at h
  ·rename_i hk
   obtain⟨P,⟨l2,b2⟩,h2⟩:∃ x s,eyeC (l1,b1)=(x,s):=⟨_,_,rfl⟩
   rw [h2] at h
   simp only [Prod.mk.injEq] at h
   obtain⟨rfl,rfl,rfl⟩:=h
   obtain⟨rfl,hl1⟩:=eyeC_inv h2
   obtain⟨-,hm,-⟩:=eyeN_inv h1
   refine⟨?_,Int.le_refl _,Int.le_refl _,fun o hO=>(by cases hO),fun y hy=>(by cases hy)⟩
   unfold bodyB
   simp only
   rw [if_pos (by omega),hm,hl1,List.append_assoc]
  ·split at h
   ·rename_i hk
    obtain⟨P,⟨l2,b2⟩,h2⟩:∃ x s,eyeC (l1,b1)=(x,s):=⟨_,_,rfl⟩
    rw [h2] at h
    simp only at h
    obtain⟨n,l3,b3,h3⟩:=eyeN_ex 65 (l2,b2)
    rw [h3] at h
    simp only at h
    obtain⟨W,⟨l4,b4⟩,h4⟩:∃ x s,eyeWs [] n.toNat (l3,b3)=(x,s):=⟨_,_,rfl⟩
    rw [h4] at h
    simp only [Prod.mk.injEq] at h
    obtain⟨rfl,rfl,rfl⟩:=h
    obtain⟨rfl,s,hs1,hs2,hs3,hs4⟩:=eyeWs_inv _ _ _ _ _ _ h4
    obtain⟨rfl,hl2,hn0,-⟩:=eyeN_inv h3
    obtain⟨rfl,hl1⟩:=eyeC_inv h2
    obtain⟨-,hm,-⟩:=eyeN_inv h1
    rw [List.nil_append] at hs2
    subst hs2
    refine⟨?_,Int.le_refl _,Int.le_refl _,fun o hO=>(by cases hO),hs4⟩
    unfold bodyB
    simp only
    rw [if_neg (by omega),if_pos (by omega),hm,hl1,hl2,hs3,show (W.length:Int)=n by omega]
    simp only [List.append_assoc]
   ·split at h
    ·rename_i hk
     obtain⟨⟨t,q⟩,⟨l2,b2⟩,h2⟩:∃ x s,eyeS (l1,b1)=(x,s):=⟨_,_,rfl⟩
     rw [h2] at h
     simp only at h
     obtain⟨P,⟨l3,b3⟩,h3⟩:∃ x s,eyeC (l2,b2)=(x,s):=⟨_,_,rfl⟩
     rw [h3] at h
     simp only [Prod.mk.injEq] at h
     obtain⟨rfl,rfl,rfl⟩:=h
     obtain⟨rfl,hl2⟩:=eyeC_inv h3
     obtain⟨rfl,hl1,t0,q0⟩:=eyeS_inv h2
     obtain⟨-,hm,-⟩:=eyeN_inv h1
     refine⟨?_,t0,q0,fun o hO=>(by cases hO),fun y hy=>(by cases hy)⟩
     unfold bodyB
     simp only
     rw [if_neg (by omega),if_neg (by omega),if_pos (by omega),hm,hl1,hl2]
     simp only [List.append_assoc]
    ·split at h
     ·rename_i hk
      obtain⟨⟨t,q⟩,⟨l2,b2⟩,h2⟩:∃ x s,eyeS (l1,b1)=(x,s):=⟨_,_,rfl⟩
      rw [h2] at h
      simp only at h
      obtain⟨n,l3,b3,h3⟩:=eyeN_ex 127 (l2,b2)
      rw [h3] at h
      simp only at h
      obtain⟨O,⟨l4,b4⟩,h4⟩:∃ x s,eyeO (l3,b3)=(x,s):=⟨_,_,rfl⟩
      rw [h4] at h
      simp only [Prod.mk.injEq] at h
      obtain⟨rfl,rfl,rfl⟩:=h
      obtain⟨rfl,hl3,ho⟩:=eyeO_inv h4
      obtain⟨rfl,hl2,-⟩:=eyeN_inv h3
      obtain⟨rfl,hl1,t0,q0⟩:=eyeS_inv h2
      obtain⟨-,hm,-⟩:=eyeN_inv h1
      refine⟨?_,t0,q0,fun o hO=>⟨(ho o hO).2.1,(ho o hO).2.2.2.2⟩,fun y hy=>(by cases hy)⟩
      unfold bodyB
      simp only
      rw [if_neg (by omega),if_neg (by omega),if_neg (by omega),if_pos (by omega),hm,hl1,hl2,hl3]
      simp only [nbs_cons,nbs_nil,List.append_nil,List.append_assoc]
     ·simp only [Prod.mk.injEq] at h
      obtain⟨rfl,-⟩:=h
      rename_i a b c d e
      rcases hp with⟨h,-⟩ | ⟨h,-⟩ | ⟨h,-⟩ | ⟨h,-⟩ | ⟨h,-⟩
      ·exact (a h).elim
      ·exact (b h).elim
      ·exact (c h).elim
      ·exact (d h).elim
      ·exact (e h).elim
theorem wants_fit {E:List WP} (h:wantsP E) (g:∀ y∈E,0≤y.t∧0≤y.r):∀ x∈E,fitW x:=by
 intro x hx
 obtain⟨h1,h2,h3⟩:=(wants_all h).2 x hx
 obtain⟨h4,h5⟩:=chainE_all _ _ h.1.2 x.en (List.mem_map_of_mem hx)
 obtain⟨g1,g2⟩:=g x hx
 change secI x.t x.r at h4
 have h6:x.t≤1073741824∧x.r≤7:=by
  rcases h4 with h | h
  ·omega
  ·have:1≤x.t∧x.t≤1073741824∧x.r < 8:=h
   omega
 refine⟨g1,h6.1,g2,h6.2,fun hk=>?_,h1,h2,h3⟩
 change (if x.kn=true then x.rd=false∧mayT x.S∧cntT x.S≤1024∧(x.G.length:Int)=(cntT x.S+7) / 8 else x.S.length=0∧x.G.length=0) at h5
 rw [if_pos hk] at h5
 exact h5.1
theorem sec_le {t r:Int} (h:secI t r):t≤1073741824∧r≤7:=by
 rcases h with h | h
 ·omega
 ·have:1≤t∧t≤1073741824∧r < 8:=h
  omega
theorem bodyM_fwd {x:MP} (r:List UInt8) (h:mayM x) (g:goodM x):bodyM (bodyB x++r,false)=(x,(r,false)):=by
 have hx:=samM_eq.1 h.2
 have hp:=h.1
 have hids:=fun hk=>may_ids h hk
 have hops:=fun hk=>may_ops h hk
 have hwant:=fun hk=>may_want h hk
 have hchunk:=fun hk=>may_chunk h hk
 obtain⟨k,t,q,ix,I,O,W⟩:=x
 obtain⟨g1,g2,g3,g4⟩:=g
 simp only at hids hops hwant hchunk g1 g2 g3 g4
 have hk:(k=1∨k=4)∨k=2∨k=3∨k=5∨k=6:=by
  rcases hp with⟨h | h,-⟩ | ⟨h,-⟩ | ⟨h,-⟩ | ⟨h,-⟩ | ⟨h,-⟩ <;> simp only at h <;> omega
 unfold plP at hx
 simp only at hx
 rcases hk with hk | rfl | rfl | rfl | rfl
 ·rw [if_pos hk] at hx
  simp only [MP.mk.injEq,true_and,and_true] at hx
  obtain⟨rfl,rfl,rfl,rfl,rfl⟩:=hx
  have ho:=hops hk
  have e:bodyB ⟨k,0,0,0, [],O, []⟩++r=nbs [k]++(opsB O++r):=by
   unfold bodyB
   simp only
   rw [if_neg (by omega),if_neg (by omega),if_neg (by omega),if_neg (by omega),List.append_assoc]
  unfold bodyM
  rw [e]
  simp only [eyeN_fwd (most:=6) _ (show 0≤k by omega) (by omega) (by omega),eyeO_fwd r (fun o hO=>goodP_of (ho.2.2 o hO) (g3 o hO)) (by have:=ho.2.1;omega)]
  rw [if_pos hk]
 ·rw [if_neg (by decide),if_pos rfl] at hx
  simp only [MP.mk.injEq,true_and,and_true] at hx
  obtain⟨rfl,rfl,rfl,rfl,rfl⟩:=hx
  have e:bodyB ⟨2,0,0,0,I, [], []⟩++r=nbs [2]++(nbs (ckNums I)++r):=by
   unfold bodyB
   simp only
   rw [if_pos trivial,List.append_assoc]
  unfold bodyM
  rw [e]
  simp only [eyeN_fwd (most:=6) _ (show (0:Int)≤2 by omega) (by omega) (by omega),eyeC_fwd r (hids (.inl rfl)).1]
  rw [if_neg (by decide),if_pos trivial]
 ·rw [if_neg (by decide),if_neg (by decide),if_pos rfl] at hx
  simp only [MP.mk.injEq,true_and,and_true] at hx
  obtain⟨rfl,rfl,rfl,rfl⟩:=hx
  have hw:=hwant rfl
  have h65:=(wants_all hw).1
  have e:bodyB ⟨3,0,0,0,I, [],W⟩++r=nbs [3]++(nbs (ckNums I)++(nbs [(W.length:Int)]++(W.flatMap wsB++r))):=by
   unfold bodyB
   simp only
   rw [if_neg (by decide),if_pos trivial]
   simp only [List.append_assoc]
  unfold bodyM
  rw [e]
  simp only [eyeN_fwd (most:=6) _ (show (0:Int)≤3 by omega) (by omega) (by omega),eyeC_fwd _ (hids (.inr (.inl rfl))).1,eyeN_fwd (most:=65) _ (show (0:Int)≤W.length by omega) (by omega) (by omega),Int.toNat_natCast,eyeWs_fwd W [] r (wants_fit hw g4),List.nil_append]
  rw [if_neg (by decide),if_neg (by decide),if_pos trivial]
 ·rw [if_neg (by decide),if_neg (by decide),if_neg (by decide),if_pos rfl] at hx
  simp only [MP.mk.injEq,true_and,and_true] at hx
  obtain⟨rfl,rfl,rfl⟩:=hx
  have hs:secI t q:=by
   rcases hp with⟨h,-⟩ | ⟨h,-⟩ | ⟨h,-⟩ | ⟨-,h,-⟩ | ⟨h,-⟩
   ·simp only at h;omega
   ·simp only at h;omega
   ·simp only at h;omega
   ·exact h
   ·simp only at h;omega
  obtain⟨s1,s2⟩:=sec_le hs
  have e:bodyB ⟨5,t,q,0,I, [], []⟩++r=nbs [5]++(nbs [t,q]++(nbs (ckNums I)++r)):=by
   unfold bodyB
   simp only
   rw [if_neg (by decide),if_neg (by decide),if_pos trivial]
   simp only [List.append_assoc]
  unfold bodyM
  rw [e]
  simp only [eyeN_fwd (most:=6) _ (show (0:Int)≤5 by omega) (by omega) (by omega),eyeS_fwd _ g1 s1 g2 s2,eyeC_fwd _ (hids (.inr (.inr rfl))).1]
  rw [if_neg (by decide),if_neg (by decide),if_neg (by decide),if_pos trivial]
 ·rw [if_neg (by decide),if_neg (by decide),if_neg (by decide),if_neg (by decide),if_pos rfl] at hx
  simp only [MP.mk.injEq,true_and,and_true] at hx
  obtain⟨rfl,rfl⟩:=hx
  have hs:secI t q:=by
   rcases hp with⟨h,-⟩ | ⟨h,-⟩ | ⟨h,-⟩ | ⟨h,-⟩ | ⟨-,h,-⟩
   ·simp only at h;omega
   ·simp only at h;omega
   ·simp only at h;omega
   ·simp only at h;omega
   ·exact h
  obtain⟨s1,s2⟩:=sec_le hs
  obtain⟨x1,x2,ho⟩:=hchunk rfl
  have e:bodyB ⟨6,t,q,ix, [],O, []⟩++r=nbs [6]++(nbs [t,q]++(nbs [ix]++(opsB O++r))):=by
   unfold bodyB
   simp only
   rw [if_neg (by decide),if_neg (by decide),if_neg (by decide),if_pos trivial]
   simp only [nbs_cons,nbs_nil,List.append_nil,List.append_assoc]
  unfold bodyM
  rw [e]
  simp only [eyeN_fwd (most:=6) _ (show (0:Int)≤6 by omega) (by omega) (by omega),eyeS_fwd _ g1 s1 g2 s2,eyeN_fwd (most:=127) _ x1 (by omega) (by omega),eyeO_fwd r (fun o hO=>goodP_of (ho.2.2 o hO) (g3 o hO)) (by have:=ho.2.1;omega)]
  rw [if_neg (by decide),if_neg (by decide),if_neg (by decide),if_neg (by decide),if_pos trivial]
theorem getB_inv {m:List UInt8} {x:MP} (h:getB m=some x):m=bodyB x∧mayM x∧goodM x:=by
 unfold getB at h
 split at h
 ·rename_i hc
  obtain⟨c1,c2,c3⟩:=hc
  obtain⟨y,⟨r,b⟩,hb⟩:∃ x s,bodyM (m,false)=(x,s):=⟨_,_,rfl⟩
  rw [hb] at c1 c2 c3 h
  simp only [Option.some.injEq] at c1 c2 c3 h
  subst h c1
  obtain rfl:=List.length_eq_zero_iff.1 c2
  obtain⟨e,g⟩:=bodyM_inv hb c3.1
  exact⟨by rw [e,List.append_nil],c3,g⟩
 ·cases h
theorem getB_fwd {x:MP} (h:mayM x) (g:goodM x):getB (bodyB x)=some x:=by
 have:=bodyM_fwd [] h g
 rw [List.append_nil] at this
 exact getB_ok this rfl h
theorem reflist_ok (A:Option Addr) (n c:Nat) (L:List OpL) (w:World) (hr:RO w w.heap.size A L) (hn:L.length=n) (hl:n≤1024) (hok:∀ x∈L,okO x) (hm:∀ x∈L,mayL x):
 Calls Tryz.prog 98 #[.slice A n c] w fun e w'=>∃ v,e= .returned v∧w'.ownsRow w.heap.size 5 1 v (allB L).length (u8s (allB L))∧Below w.heap.size w w':=by
 obtain⟨i0,hi0,hz0,hz1,hz2⟩:=info_parts u8info
 have Hok:=hide hok
 have Hm:=hide hm
 have Hn:=hide hn
 have HR:=hide hr
 clear hok hn hr hm
 go_enter Tryz.func98,Tryz.ntmps98
 go_wp2_with fail
 refine (refbytes_int (n:Int) w (by omega) (by omega)).mono ?_
 rintro e w1 ⟨A1,c1,rfl,hown1,hb1⟩
 have e0:nb (n:Int).toNat=nbs [(n:Int)]:=by simp [nbs]
 rw [e0] at hown1 ⊢
 have Hown1:=hide hown1
 clear hown1 e0
 go_wp2_with fail
 go_loopw [3,4] (fun u i wr=>∃ j:Nat,j≤n∧i= .int .i64 (j:Int)∧Hid (wr.ownsRow w.heap.size 5 1 u (nbs [(n:Int)]++(L.take j).flatMap opBL).length (u8s (nbs [(n:Int)]++(L.take j).flatMap opBL)))∧Below w.heap.size w wr) (fun _ i _=>n - (intOf i).toNat)
 case atStart=>exact⟨0,by omega,rfl,hide (by simpa using Hown1.out),hb1⟩
 case round=>
  obtain⟨j,hj,rfl,hown,hb⟩:=hrel
  clear Hown1 hb1
  by_cases hlt:j < n
  ·have hltL:j < L.length:=by rw [Hn.out];exact hlt
   have z0:(j:Int) < n:=by omega
   have zj:(0:Int)≤j:=by omega
   obtain⟨bb,bo,rfl,hB,hC⟩:=RO.cell (HR.out.below hb) (by omega)
   obtain⟨d0,d1,d2,d3,d4⟩:=hC j hltL
   obtain⟨x,hx⟩:∃ x,L[j]=x:=⟨_,rfl⟩
   rw [hx] at d0 d1 d2 d3 d4
   have hxm:x∈L:=by rw [←hx];exact List.getElem_mem hltL
   have hox:=Hok.out x hxm
   have hmx:=Hm.out x hxm
   have hP:=hide (crefbytes_ok x.k x.t x.r x.z x.A x.p.length x.c x.p wr (((HR.out.below hb).more hb.size).2 x hxm) rfl hox.2.2.1 hmx hox.2.1)
   have Htake:=hide (show L.take (j+1)=L.take j++ [x] by rw [List.take_succ_eq_append_getElem hltL,hx])
   obtain⟨bx,hbx⟩:∃ l,l=opB x.k x.t x.r x.p x.z:=⟨_,rfl⟩
   obtain⟨pre,hpre⟩:∃ l,l=nbs [(n:Int)]++(L.take j).flatMap opBL:=⟨_,rfl⟩
   have Hbx:=hide (And.intro hbx hpre)
   have hsz:pre.length+bx.length≤1073741824:=by
    have h1:=flat_len (L.take j) fun q hq=>⟨Hm.out q (List.mem_of_mem_take hq),Hok.out q (List.mem_of_mem_take hq)⟩
    rw [List.length_take] at h1
    have h2:bx.length≤1200:=by rw [hbx];exact opB_len hmx hox
    have h3:(nbs [(n:Int)]).length≤6:=nbs_len (L:= [(n:Int)]) (by intro a ha;simp only [List.mem_singleton] at ha;omega)
    rw [hpre,List.length_append]
    omega
   rw [←hbx] at hP
   rw [←hpre] at hown
   clear hC hx hxm hox hmx hbx hpre
   go_wp2_with fail
   refine hP.out.mono ?_
   rintro e w2 ⟨v2,rfl,hown2,hb2⟩
   obtain⟨A2,c2,rfl,-,-,-⟩:=own_slice hown2
   have hown':=own_below hown.out hb2 (Nat.le_refl _)
   have hbw2:=fresh hb hb2
   clear d0 d1 d2 d3 d4 hown
   go_wp2_with (at_builtin;refine wpList_append_src _ rfl (.tmp 14) (.tmp 19) 23 rfl w.heap.size 5 i0 (.int .u8 0) 1 1 Tryz.underlying23 hi0 hz0 hz1 hz2 rfl (by decide) _ _ _ rfl hown' w2.heap.size A2 _ c2 (u8s bx) rfl (RD.of_own hown2) (u8s_one _) hsz (by decide) hbw2.size ?_;intro v3 w3 hown3 hb3)
   go_roundw
   case rel=>
    refine⟨j+1,by omega,by go_num,hide ?_,hbw2.trans hb3⟩
    rw [Htake.out,List.flatMap_append,List.flatMap_singleton,←List.append_assoc,show opBL x=bx from Hbx.out.1.symm,←Hbx.out.2,u8s_append,List.length_append]
    exact hown3
   case measure=>simp [intOf];omega
  ·have z0:¬ (j:Int) < n:=by omega
   have htk:L.take j=L:=List.take_of_length_le (by rw [Hn.out];omega)
   rw [htk,show nbs [(n:Int)]++L.flatMap opBL=allB L by unfold allB;rw [Hn.out]] at hown
   clear htk
   go_wp2_with fail
   go_ret
   exact⟨_,rfl,hown.out,hb⟩
end Go.Proofs.YtmkpfdcnikgokaaGreat
