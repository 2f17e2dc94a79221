/-
  Texts of this claim, put together: RdDefs, RefMath, Rd. What each theorem asks stands in its statement.
-/
import Derived.Test.YtmkpfdcnikgokaaGreatLt8
import Derived.Test.YtmkpfdcnikgokaaGreatLt10
import Derived.Test.YtmkpfdcnikgokaaGreatLt13
import Derived.Test.YtmkpfdcnikgokaaGreatLt31
set_option linter.unusedVariables false
set_option linter.unusedSimpArgs false
set_option maxRecDepth 100000
set_option maxHeartbeats 25600000
namespace Go.Proofs.YtmkpfdcnikgokaaGreat
open Go.RowKit
/-- The document's reader: spans, clocks, stamps, wishes, operations. -/
def rdSp (acc:List Sp):Nat→Int→ES→List Sp×ES
 | 0,_,st=>(acc,st)
 | k+1,was,st=>
   if 1073741824 < was+(eyeN 1073741824 st).1+(eyeN 1073741824 (eyeN 1073741824 st).2).1 then rdSp (acc++ [(was+(eyeN 1073741824 st).1,0)]) k 0 ((eyeN 1073741824 (eyeN 1073741824 st).2).2.1,true)
   else rdSp (acc++ [(was+(eyeN 1073741824 st).1,was+(eyeN 1073741824 st).1+(eyeN 1073741824 (eyeN 1073741824 st).2).1)]) k (was+(eyeN 1073741824 st).1+(eyeN 1073741824 (eyeN 1073741824 st).2).1) (eyeN 1073741824 (eyeN 1073741824 st).2).2
theorem rdSp_step {acc:List Sp} {k:Nat} {was a b:Int} {st t1 t2:ES} (ha:eyeN 1073741824 st=(a,t1)) (hb:eyeN 1073741824 t1=(b,t2)):
 rdSp acc (k+1) was st=if 1073741824 < was+a+b then rdSp (acc++ [(was+a,0)]) k 0 (t2.1,true) else rdSp (acc++ [(was+a,was+a+b)]) k (was+a+b) t2:=by
 simp only [rdSp,ha,hb]
def rdTm:Nat→List PT→ES→List PT×ES
 | 0,acc,st=>(acc,st)
 | k+1,acc,st=>rdTm k (acc++ [((eyeN 255 st).1,(rdSp [] (eyeN 1024 (eyeN 255 st).2).1.toNat 0 (eyeN 1024 (eyeN 255 st).2).2).1)]) (rdSp [] (eyeN 1024 (eyeN 255 st).2).1.toNat 0 (eyeN 1024 (eyeN 255 st).2).2).2
theorem rdTm_step {acc:List PT} {k:Nat} {R m:Int} {st r1 r2 r3:ES} {s:List Sp} (ha:eyeN 255 st=(R,r1)) (hb:eyeN 1024 r1=(m,r2)) (hc:rdSp [] m.toNat 0 r2=(s,r3)):
 rdTm (k+1) acc st=rdTm k (acc++ [(R,s)]) r3:=by
 simp only [rdTm,ha,hb,hc]
def rdC (st:ES):List PT×ES:=rdTm (eyeN 8 st).1.toNat [] (eyeN 8 st).2
def rdS (st:ES):(Int×Int)×ES:=(((eyeN 1073741824 st).1,(eyeN 255 (eyeN 1073741824 st).2).1),(eyeN 255 (eyeN 1073741824 st).2).2)
def rdW (st:ES):WP×ES:=
 (⟨(rdS st).1.1,(rdS st).1.2,(eyeN 2 (rdS st).2).1 == 1,(eyeN 2 (rdS st).2).1 == 2,(rdC (eyeN 2 (rdS st).2).2).1,(rdC (rdC (eyeN 2 (rdS st).2).2).2).1,
   (eyeB [] (eyeN 128 (rdC (rdC (eyeN 2 (rdS st).2).2).2).2).1.toNat (eyeN 128 (rdC (rdC (eyeN 2 (rdS st).2).2).2).2).2).1⟩,(eyeB [] (eyeN 128 (rdC (rdC (eyeN 2 (rdS st).2).2).2).2).1.toNat (eyeN 128 (rdC (rdC (eyeN 2 (rdS st).2).2).2).2).2).2)
theorem rdW_step {st a b c d e:ES} {t r n k:Int} {H S:List PT} (h1:rdS st=((t,r),a)) (h2:eyeN 2 a=(n,b)) (h3:rdC b=(H,c)) (h4:rdC c=(S,d)) (h5:eyeN 128 d=(k,e)):
 rdW st=(⟨t,r,n == 1,n == 2,H,S,(eyeB [] k.toNat e).1⟩,(eyeB [] k.toNat e).2):=by
 simp only [rdW,h1,h2,h3,h4,h5]
def rdWs (acc:List WP):Nat→ES→List WP×ES
 | 0,st=>(acc,st)
 | k+1,st=>if st.2=true then (acc,st) else rdWs (acc++ [(rdW st).1]) k (rdW st).2
def rdO (st:ES):List OpP×ES:=match readL st.1 with
 | some (l,n)=>(l,(st.1.drop n,st.2))
 | none=>([],(st.1,true))
/-- The mail of what is left to be read, by the document. -/
def rdSk (k:Int) (st:ES):(Int×Int)×ES:=if k=5∨k=6 then rdS st else ((0,0),st)
def rdXk (k:Int) (st:ES):Int×ES:=if k=6 then eyeN 128 st else (0,st)
def rdCk (k:Int) (st:ES):List PT×ES:=if k=2∨k=3∨k=5 then rdC st else ([],st)
def rdWk (k:Int) (st:ES):List WP×ES:=if k=3 then rdWs [] (eyeN 65 st).1.toNat (eyeN 65 st).2 else ([],st)
def rdOk (k:Int) (st:ES):List OpP×ES:=if k=1∨k=4∨k=6 then rdO st else ([],st)
def readM (st:ES):MP×ES:=
 (⟨(eyeN 6 st).1,(rdSk (eyeN 6 st).1 (eyeN 6 st).2).1.1,(rdSk (eyeN 6 st).1 (eyeN 6 st).2).1.2,(rdXk (eyeN 6 st).1 (rdSk (eyeN 6 st).1 (eyeN 6 st).2).2).1,
   (rdCk (eyeN 6 st).1 (rdXk (eyeN 6 st).1 (rdSk (eyeN 6 st).1 (eyeN 6 st).2).2).2).1,
   (rdOk (eyeN 6 st).1 (rdWk (eyeN 6 st).1 (rdCk (eyeN 6 st).1 (rdXk (eyeN 6 st).1 (rdSk (eyeN 6 st).1 (eyeN 6 st).2).2).2).2).2).1,
   (rdWk (eyeN 6 st).1 (rdCk (eyeN 6 st).1 (rdXk (eyeN 6 st).1 (rdSk (eyeN 6 st).1 (eyeN 6 st).2).2).2).2).1⟩,
  (rdOk (eyeN 6 st).1 (rdWk (eyeN 6 st).1 (rdCk (eyeN 6 st).1 (rdXk (eyeN 6 st).1 (rdSk (eyeN 6 st).1 (eyeN 6 st).2).2).2).2).2).2)
theorem readM_step {st s1 s2 s3 s4 s5 s6:ES} {k t r ix:Int} {I:List PT} {W:List WP} {O:List OpP} (h1:eyeN 6 st=(k,s1)) (h2:rdSk k s1=((t,r),s2)) (h3:rdXk k s2=(ix,s3)) (h4:rdCk k s3=(I,s4)) (h5:rdWk k s4=(W,s5)) (h6:rdOk k s5=(O,s6)):
 readM st=(⟨k,t,r,ix,I,O,W⟩,s6):=by
 simp only [readM,h1,h2,h3,h4,h5,h6]
theorem rdSp_fwd:∀ (s:List Sp) (acc:List Sp) (was least:Int) (r:List UInt8),0≤was→was≤least→chainS least s→rdSp acc s.length was (nbs (spNums was s)++r,false)=(acc++s,(r,false))
 | [],acc,was,least,r,_,_,_=>by simp [rdSp,spNums,nbs]
 | x :: s,acc,was,least,r,h0,h1,hc=>by
   obtain⟨c1,c2,c3,c4⟩:=hc
   have e:nbs (spNums was (x :: s))++r=nbs [x.1 - was]++(nbs [x.2 - x.1]++(nbs (spNums x.2 s)++r)):=by
    simp only [spNums,nbs_cons,nbs_nil,List.append_nil,List.append_assoc]
   rw [e,List.length_cons,rdSp_step (eyeN_fwd _ (by omega) (by omega) (by omega)) (eyeN_fwd _ (by omega) (by omega) (by omega)),if_neg (by omega),show was+(x.1 - was)=x.1 by omega,show x.1+(x.2 - x.1)=x.2 by omega,rdSp_fwd s _ x.2 (x.2+2) r (by omega) (by omega) c4,List.append_assoc]
   rfl
theorem rdTm_fwd:∀ (Q acc:List PT) (last:Int) (r:List UInt8),-1≤last→chainT last Q→rdTm Q.length acc (nbs (Q.flatMap tmNums)++r,false)=(acc++Q,(r,false))
 | [],acc,last,r,_,_=>by simp [rdTm,nbs]
 | x :: Q,acc,last,r,h0,hc=>by
   obtain⟨c1,c2,c3,c4,c5⟩:=hc
   have e:nbs ((x :: Q).flatMap tmNums)++r=nbs [x.1]++(nbs [(x.2.length:Int)]++(nbs (spNums 0 x.2)++(nbs (Q.flatMap tmNums)++r))):=by
    simp only [List.flatMap_cons,nbs_append,tmNums,nbs_cons,nbs_nil,List.append_nil,List.append_assoc]
   have c6:=c4.1
   have h:=rdSp_fwd x.2 [] 0 1 (nbs (Q.flatMap tmNums)++r) (by omega) (by omega) c4.2
   rw [List.nil_append] at h
   rw [e,List.length_cons,rdTm_step (s:=x.2) (r3:=(nbs (Q.flatMap tmNums)++r,false)) (eyeN_fwd _ (by omega) (by omega) (by omega)) (eyeN_fwd _ (by omega) (by omega) (by omega)) (by rw [Int.toNat_natCast];exact h),rdTm_fwd Q _ x.1 r (by omega) c5,List.append_assoc]
   rfl
theorem rdC_fwd {P:List PT} (r:List UInt8) (h:mayT P):rdC (nbs (ckNums P)++r,false)=(P,(r,false)):=by
 have h8:=mayT_len h
 unfold rdC
 rw [ckNums,nbs2,List.append_assoc,eyeN_fwd _ (by omega) (by omega) (by omega)]
 simp only
 rw [Int.toNat_natCast,rdTm_fwd P [] (-1) r (by omega) h,List.nil_append]
theorem rdS_fwd {t q:Int} (r:List UInt8) (h0:0≤t) (h1:t≤1073741824) (h2:0≤q) (h3:q≤7):rdS (nbs [t,q]++r,false)=((t,q),(r,false)):=by
 unfold rdS
 rw [nbs2 t,List.append_assoc,eyeN_fwd _ h0 h1 (by omega)]
 simp only
 rw [eyeN_fwd _ h2 (by omega) (by omega)]
theorem rdW_fwd {x:WP} (r:List UInt8) (h:fitW x):rdW (wsB x++r,false)=(x,(r,false)):=by
 obtain⟨t,q,rd,kn,H,S,G⟩:=x
 obtain⟨a,b,c,d,e,f,g,i⟩:=h
 simp only at a b c d e f g i
 have h0:=stN_ok rd kn
 have e0:wsB ⟨t,q,rd,kn,H,S,G⟩++r=nbs [t,q]++(nbs [stN rd kn]++(nbs (ckNums H)++(nbs (ckNums S)++(nbs [(G.length:Int)]++(nbs (G.map bn)++r))))):=by
  unfold wsB wsNums gtNums
  simp only
  rw [nbs_append,nbs_append,nbs_append,nbs2 _ (List.map _ _),show [t,q,stN rd kn]= [t,q]++ [stN rd kn] from rfl,nbs_append]
  simp only [List.append_assoc]
 rw [e0,rdW_step (rdS_fwd _ a b c d) (eyeN_fwd _ h0.1 h0.2 (by omega)) (rdC_fwd _ f) (rdC_fwd _ g) (eyeN_fwd _ (by omega) (by omega) (by omega)),Int.toNat_natCast,eyeB_fwd,List.nil_append]
 cases rd <;> cases kn <;> first | rfl | (exact absurd (e rfl) (by decide))
theorem rdWs_fwd:∀ (s acc:List WP) (r:List UInt8),(∀ x∈s,fitW x)→rdWs acc s.length (s.flatMap wsB++r,false)=(acc++s,(r,false))
 | [],acc,r,_=>by simp [rdWs]
 | x :: s,acc,r,h=>by
   rw [List.flatMap_cons,List.append_assoc,List.length_cons]
   simp only [rdWs]
   rw [if_neg (by decide),rdW_fwd _ (h x List.mem_cons_self)]
   simp only
   rw [rdWs_fwd s _ r (fun y hy=>h y (List.mem_cons_of_mem _ hy)),List.append_assoc]
   rfl
theorem rdO_fwd {O:List OpP} (r:List UInt8) (h:∀ o∈O,goodP o) (hl:O.length≤1024):rdO (opsB O++r,false)=(O,(r,false)):=by
 unfold rdO
 simp only
 rw [opsB,readL_fwd r h hl]
 simp only
 rw [List.drop_left]
theorem readM_fwd {x:MP} (r:List UInt8) (h:mayM x) (g:goodM x):readM (bodyB x++r,false)=(x,(r,false)):=by
 have hx:=samM_eq.1 h.2
 have hp:=h.1
 have hids:=fun hk=>may_ids h hk
 have hops:=fun hk=>may_ops h hk
 have hwant:=fun hk=>may_want h hk
 have hchunk:=fun hk=>may_chunk h hk
 obtain⟨k,t,q,ix,I,O,W⟩:=x
 obtain⟨g1,g2,g3,g4⟩:=g
 simp only at hids hops hwant hchunk g1 g2 g3 g4
 have hk:(k=1∨k=4)∨k=2∨k=3∨k=5∨k=6:=by
  rcases hp with⟨h | h,-⟩ | ⟨h,-⟩ | ⟨h,-⟩ | ⟨h,-⟩ | ⟨h,-⟩ <;> simp only at h <;> omega
 unfold plP at hx
 simp only at hx
 rcases hk with hk | rfl | rfl | rfl | rfl
 ·rw [if_pos hk] at hx
  simp only [MP.mk.injEq,true_and,and_true] at hx
  obtain⟨rfl,rfl,rfl,rfl,rfl⟩:=hx
  have ho:=hops hk
  have e:bodyB ⟨k,0,0,0, [],O, []⟩++r=nbs [k]++(opsB O++r):=by
   unfold bodyB
   simp only
   rw [if_neg (by omega),if_neg (by omega),if_neg (by omega),if_neg (by omega),List.append_assoc]
  rw [e]
  exact readM_step (eyeN_fwd (most:=6) _ (show 0≤k by omega) (by omega) (by omega)) (if_neg (by omega)) (if_neg (by omega)) (if_neg (by omega)) (if_neg (by omega)) (by
   unfold rdOk
   rw [if_pos (by omega)]
   exact rdO_fwd r (fun o hO=>goodP_of (ho.2.2 o hO) (g3 o hO)) (by have:=ho.2.1;omega))
 ·rw [if_neg (by decide),if_pos rfl] at hx
  simp only [MP.mk.injEq,true_and,and_true] at hx
  obtain⟨rfl,rfl,rfl,rfl,rfl⟩:=hx
  have e:bodyB ⟨2,0,0,0,I, [], []⟩++r=nbs [2]++(nbs (ckNums I)++r):=by
   unfold bodyB
   simp only
   rw [if_pos trivial,List.append_assoc]
  rw [e]
  exact readM_step (eyeN_fwd (most:=6) _ (show (0:Int)≤2 by omega) (by omega) (by omega)) (if_neg (by omega)) (if_neg (by omega)) (by
   unfold rdCk
   rw [if_pos (by omega)]
   exact rdC_fwd r (hids (.inl rfl)).1) (if_neg (by omega)) (if_neg (by omega))
 ·rw [if_neg (by decide),if_neg (by decide),if_pos rfl] at hx
  simp only [MP.mk.injEq,true_and,and_true] at hx
  obtain⟨rfl,rfl,rfl,rfl⟩:=hx
  have hw:=hwant rfl
  have h65:=(wants_all hw).1
  have e:bodyB ⟨3,0,0,0,I, [],W⟩++r=nbs [3]++(nbs (ckNums I)++(nbs [(W.length:Int)]++(W.flatMap wsB++r))):=by
   unfold bodyB
   simp only
   rw [if_neg (by decide),if_pos trivial]
   simp only [List.append_assoc]
  rw [e]
  exact readM_step (eyeN_fwd (most:=6) _ (show (0:Int)≤3 by omega) (by omega) (by omega)) (if_neg (by omega)) (if_neg (by omega)) (by
   unfold rdCk
   rw [if_pos (by omega)]
   exact rdC_fwd _ (hids (.inr (.inl rfl))).1) (by
   unfold rdWk
   rw [if_pos rfl,eyeN_fwd (most:=65) _ (show (0:Int)≤W.length by omega) (by omega) (by omega)]
   simp only
   rw [Int.toNat_natCast,rdWs_fwd W [] r (wants_fit hw g4),List.nil_append]) (if_neg (by omega))
 ·rw [if_neg (by decide),if_neg (by decide),if_neg (by decide),if_pos rfl] at hx
  simp only [MP.mk.injEq,true_and,and_true] at hx
  obtain⟨rfl,rfl,rfl⟩:=hx
  have hs:secI t q:=by
   rcases hp with⟨h,-⟩ | ⟨h,-⟩ | ⟨h,-⟩ | ⟨-,h,-⟩ | ⟨h,-⟩
   ·simp only at h;omega
   ·simp only at h;omega
   ·simp only at h;omega
   ·exact h
   ·simp only at h;omega
  obtain⟨s1,s2⟩:=sec_le hs
  have e:bodyB ⟨5,t,q,0,I, [], []⟩++r=nbs [5]++(nbs [t,q]++(nbs (ckNums I)++r)):=by
   unfold bodyB
   simp only
   rw [if_neg (by decide),if_neg (by decide),if_pos trivial]
   simp only [List.append_assoc]
  rw [e]
  exact readM_step (eyeN_fwd (most:=6) _ (show (0:Int)≤5 by omega) (by omega) (by omega)) (by
   unfold rdSk
   rw [if_pos (by omega)]
   exact rdS_fwd _ g1 s1 g2 s2) (if_neg (by omega)) (by
   unfold rdCk
   rw [if_pos (by omega)]
   exact rdC_fwd r (hids (.inr (.inr rfl))).1) (if_neg (by omega)) (if_neg (by omega))
 ·rw [if_neg (by decide),if_neg (by decide),if_neg (by decide),if_neg (by decide),if_pos rfl] at hx
  simp only [MP.mk.injEq,true_and,and_true] at hx
  obtain⟨rfl,rfl⟩:=hx
  have hs:secI t q:=by
   rcases hp with⟨h,-⟩ | ⟨h,-⟩ | ⟨h,-⟩ | ⟨h,-⟩ | ⟨-,h,-⟩
   ·simp only at h;omega
   ·simp only at h;omega
   ·simp only at h;omega
   ·simp only at h;omega
   ·exact h
  obtain⟨s1,s2⟩:=sec_le hs
  obtain⟨x1,x2,ho⟩:=hchunk rfl
  have e:bodyB ⟨6,t,q,ix, [],O, []⟩++r=nbs [6]++(nbs [t,q]++(nbs [ix]++(opsB O++r))):=by
   unfold bodyB
   simp only
   rw [if_neg (by decide),if_neg (by decide),if_neg (by decide),if_pos trivial]
   simp only [nbs_cons,nbs_nil,List.append_nil,List.append_assoc]
  rw [e]
  exact readM_step (eyeN_fwd (most:=6) _ (show (0:Int)≤6 by omega) (by omega) (by omega)) (by
   unfold rdSk
   rw [if_pos (by omega)]
   exact rdS_fwd _ g1 s1 g2 s2) (by
   unfold rdXk
   rw [if_pos rfl]
   exact eyeN_fwd (most:=128) _ x1 (by omega) (by omega)) (if_neg (by omega)) (if_neg (by omega)) (by
   unfold rdOk
   rw [if_pos (by omega)]
   exact rdO_fwd r (fun o hO=>goodP_of (ho.2.2 o hO) (g3 o hO)) (by have:=ho.2.1;omega))
theorem eyeN_nn (most:Int) (st:ES):0≤(eyeN most st).1:=by
 unfold eyeN
 split
 ·exact Int.le_refl _
 ·split
  ·split
   ·exact Int.le_refl _
   ·simp only;omega
  ·exact Int.le_refl _
theorem rdWs_nn:∀ (k:Nat) (acc:List WP) (st:ES),(∀ x∈acc,0≤x.t∧0≤x.r)→∀ x∈(rdWs acc k st).1,0≤x.t∧0≤x.r
 | 0,acc,st,h,x,hx=>h x hx
 | k+1,acc,st,h,x,hx=>by
   simp only [rdWs] at hx
   split at hx
   ·exact h x hx
   ·refine rdWs_nn k _ _ (fun y hy=>?_) x hx
    rcases List.mem_append.1 hy with hy | hy
    ·exact h y hy
    ·simp only [List.mem_singleton] at hy
     subst hy
     exact⟨eyeN_nn _ _,eyeN_nn _ _⟩
theorem rdO_good (st:ES):∀ o∈(rdO st).1,goodP o:=by
 unfold rdO
 split
 ·rename_i l n h
  exact (readL_inv h).1
 ·exact fun o h=>by cases h
theorem readM_good (st:ES):goodM (readM st).1:=by
 refine⟨?_,?_,fun o ho=>?_,fun y hy=>?_⟩
 ·show 0≤(rdSk _ _).1.1
  unfold rdSk
  split
  ·exact eyeN_nn _ _
  ·exact Int.le_refl _
 ·show 0≤(rdSk _ _).1.2
  unfold rdSk
  split
  ·exact eyeN_nn _ _
  ·exact Int.le_refl _
 ·change o∈(rdOk _ _).1 at ho
  unfold rdOk at ho
  split at ho
  ·have:=rdO_good _ o ho
   exact⟨this.2.1,this.2.2.2.2⟩
  ·cases ho
 ·change y∈(rdWk _ _).1 at hy
  unfold rdWk at hy
  split at hy
  ·exact rdWs_nn _ _ _ (fun x hx=>by cases hx) y hy
  ·cases hy
/-- The mail of bytes, by the document: it is Get's. -/
def parseM (b:List UInt8):Option MP:=if (readM (b,false)).2.2=false∧(readM (b,false)).2.1.length=0∧mayM (readM (b,false)).1∧bodyB (readM (b,false)).1=b then some (readM (b,false)).1 else none
theorem parse_get (b:List UInt8):parseM b=getB b:=by
 unfold parseM
 split
 ·rename_i h
  have:=getB_fwd h.2.2.1 (readM_good (b,false))
  rw [h.2.2.2] at this
  exact this.symm
 ·rename_i h
  cases hg:getB b with
  | none=>rfl
  | some x=>
    obtain⟨e,hm,g⟩:=getB_inv hg
    have h1:=readM_fwd [] hm g
    rw [List.append_nil,←e] at h1
    exact (h (by rw [h1];exact⟨rfl,rfl,hm,e.symm⟩)).elim
/-- The eye's box. -/
def RDE (w:World) (g:Nat) (A:Option Addr) (n c:Nat) (bad:Bool):Prop:=w.heap[g]?=some (.cells #[.slice A n c,.bool bad] 150 (0,0))
theorem RDE.lt {w:World} {g n c:Nat} {A:Option Addr} {bad:Bool} (h:RDE w g A n c bad):g < w.heap.size:=(Array.getElem?_eq_some_iff.1 h).1
theorem RDE.cells {w:World} {g n c:Nat} {A:Option Addr} {bad:Bool} (h:RDE w g A n c bad):w.cell? ⟨g,0,none⟩=some (.slice A n c)∧w.cell? ⟨g,1,none⟩=some (.bool bad):=by
 refine⟨?_,?_⟩ <;> (rw [cell_of_row _ _ _ _ _ _ h];rfl)
theorem RDE.below {w w':World} {g n c:Nat} {A:Option Addr} {bad:Bool} (h:RDE w g A n c bad) (hb:Below w.heap.size w w'):RDE w' g A n c bad:=(hb.block g h.lt).trans h
theorem RDE.set0 {w:World} {g n c n' c':Nat} {A A':Option Addr} {bad:Bool} (h:RDE w g A n c bad):RDE (w.setCell ⟨g,0,none⟩ (.slice A' n' c')) g A' n' c' bad:=heap_setCell_same _ _ _ _ _ _ h
theorem RDE.set1 {w:World} {g n c:Nat} {A:Option Addr} {bad:Bool} (h:RDE w g A n c bad) (b2:Bool):RDE (w.setCell ⟨g,1,none⟩ (.bool b2)) g A n c b2:=heap_setCell_same _ _ _ _ _ _ h
/-- The eye, as it lies, its bytes being ahead of its box. -/
def RY (w:World) (g:Nat) (st:ES):Prop:=∃ A c,RDE w g A st.1.length c st.2∧RBT w g A st.1∧st.1.length≤c∧st.1.length < 1073741824∧(A=none→c=0)
theorem RY.below {w w':World} {g:Nat} {st:ES} (h:RY w g st) (hb:Below w.heap.size w w'):RY w' g st:=by
 obtain⟨A,c,h1,h2,h3⟩:=h
 exact⟨A,c,h1.below hb,RBT.below h2 (hb.mono (Nat.le_of_lt h1.lt)),h3⟩
theorem RY.other {w:World} {g:Nat} {st:ES} (h:RY w g st) {g':Nat} (hg:g < g') (off:Nat) (v:Value):RY (w.setCell ⟨g',off,none⟩ v) g st:=by
 obtain⟨A,c,h1,h2,h3⟩:=h
 refine⟨A,c,(heap_setCell_other _ _ _ _ (by simp only;omega)).trans h1,RBT.below h2 ((Below.refl g w).setCell (by simp only;omega) _),h3⟩
theorem RY.lt {w:World} {g:Nat} {st:ES} (h:RY w g st):g < w.heap.size:=by
 obtain⟨A,c,h1,-⟩:=h
 exact h1.lt
theorem rdnext (g:Nat) (most:Int) (st:ES) (w:World) (h:RY w g st):
 Calls Tryz.prog 137 #[.pointer (some ⟨g,0,none⟩),.int .i64 most] w fun e w'=>e= .returned (.int .i64 (eyeN most st).1)∧RY w' g (eyeN most st).2∧OnlyAt g w w':=by
 obtain⟨A,c,hE,hr,hc,hl,hA⟩:=h
 obtain⟨l,bad⟩:=st
 simp only at hE hr hc hl
 have hlt:=hE.lt
 obtain⟨c0,c1⟩:=hE.cells
 have f1:=frozen_of_row w g 1 _ _ hE
 have G:=hide (fun W (hW:W=w)=>by
  have:=refget_any A c l W (by rw [hW];exact RD.more hr.1 (Nat.le_of_lt hlt)) hl
  exact this)
 have E1:=fun b2=>hE.set1 b2
 have e1:=fun b2=>(hE.set1 b2).cells
 cases hg:gget l with
 | none=>
   rw [hg] at G
   have HV:=hide (show eyeN most (l,bad)=(0,(l,true)) by
    unfold eyeN
    cases bad with
    | true=>rfl
    | false=>simp [hg])
   obtain⟨k0,k1⟩:=e1 true
   have HF:=hide (show RY (w.setCell ⟨g,1,none⟩ (.bool true)) g (l,true) from⟨A,c,E1 true,RBT.below hr ((Below.refl g w).setCell (Nat.le_refl _) _),hc,hl,hA⟩)
   have HO:=hide (OnlyAt.set g 1 w (.bool true))
   unfold gval at G
   clear hg hE hr hA e1 E1
   go_enter Tryz.func137,Tryz.ntmps137
   go_wp2_with fail
   refine (unhide G w rfl).mono ?_
   rintro e w2 ⟨rfl,rfl⟩
   cases bad
   all_goals
    go_wp2_with fail
    go_ret
    exact⟨by rw [HV.out];rfl,by rw [HV.out];exact HF.out,HO.out⟩
 | some q=>
   obtain⟨m,s⟩:=q
   obtain⟨-,v2,-,-⟩:=gget_inv hg
   have hs1:1≤s:=by
    obtain⟨-,-,v3,v4⟩:=gget_inv hg
    have:=nb_pos m
    omega
   rw [hg] at G
   unfold gval at G
   cases bad with
   | true=>
     have HV:=hide (show eyeN most (l,true)=(0,(l,true)) from rfl)
     obtain⟨k0,k1⟩:=e1 true
     have HF:=hide (show RY (w.setCell ⟨g,1,none⟩ (.bool true)) g (l,true) from⟨A,c,E1 true,RBT.below hr ((Below.refl g w).setCell (Nat.le_refl _) _),hc,hl,hA⟩)
     have HO:=hide (OnlyAt.set g 1 w (.bool true))
     clear hg hE hr hA e1 E1
     go_enter Tryz.func137,Tryz.ntmps137
     go_wp2_with fail
     refine (unhide G w rfl).mono ?_
     rintro e w2 ⟨rfl,rfl⟩
     go_wp2_with fail
     go_ret
     exact⟨by rw [HV.out];rfl,by rw [HV.out];exact HF.out,HO.out⟩
   | false=>
     by_cases hm:most < (m:Int)
     ·have HV:=hide (show eyeN most (l,false)=(0,(l,true)) by unfold eyeN;simp [hg,hm])
      obtain⟨k0,k1⟩:=e1 true
      have HF:=hide (show RY (w.setCell ⟨g,1,none⟩ (.bool true)) g (l,true) from⟨A,c,E1 true,RBT.below hr ((Below.refl g w).setCell (Nat.le_refl _) _),hc,hl,hA⟩)
      have HO:=hide (OnlyAt.set g 1 w (.bool true))
      clear hg hE hr hA e1 E1
      go_enter Tryz.func137,Tryz.ntmps137
      go_wp2_with fail
      refine (unhide G w rfl).mono ?_
      rintro e w2 ⟨rfl,rfl⟩
      go_wp2_with fail
      go_ret
      exact⟨by rw [HV.out];rfl,by rw [HV.out];exact HF.out,HO.out⟩
     ·have HV:=hide (show eyeN most (l,false)=((m:Int),(l.drop s,false)) by unfold eyeN;simp [hg,hm])
      have f0:=frozen_of_row w g 0 _ _ hE
      obtain⟨b0,o0,rfl,hB0,-⟩:=RB.cell hr.1 (by omega)
      obtain⟨SA,SC,hSA⟩:∃ (SA:Option Addr) (SC:Nat),(c=s∧SA=some ⟨b0,o0,none⟩∧SC=0∨¬ c=s∧SA=some ⟨b0,o0+s,none⟩∧SC=c - s):=by
       by_cases h:c=s
       ·exact⟨_,_,.inl ⟨h,rfl,rfl⟩⟩
       ·exact⟨_,_,.inr ⟨h,rfl,rfl⟩⟩
      have hrs0:RB w g SA (l.drop s):=by
       rcases hSA with⟨h1,-,-⟩ | ⟨-,rfl,-⟩
       ·rw [List.drop_eq_nil_of_le (by omega)]
        exact RD.nil_
       ·have:=hr.1.sub s l.length (Nat.le_refl _)
        rwa [List.take_length] at this
      have hrs:RBT w g SA (l.drop s):=⟨hrs0,fun q hq=>by rcases hSA with⟨-,h2,-⟩ | ⟨-,h2,-⟩ <;> (rw [h2] at hq;cases hq;have h9:=hr.2 _ rfl;exact h9)⟩
      have E2:RDE (w.setCell ⟨g,0,none⟩ (.slice SA (l.length - s) SC)) g SA (l.length - s) SC false:=hE.set0
      have HF:=hide (show RY (w.setCell ⟨g,0,none⟩ (.slice SA (l.length - s) SC)) g (l.drop s,false) from⟨SA,SC,by rw [List.length_drop];exact E2,RBT.below hrs ((Below.refl g w).setCell (Nat.le_refl _) _),by
       rw [List.length_drop]
       rcases hSA with⟨h1,-,h2⟩ | ⟨h1,-,h2⟩ <;> omega,by rw [List.length_drop];omega,fun h=>by rcases hSA with⟨-,h2,-⟩ | ⟨-,h2,-⟩ <;> (rw [h2] at h;cases h)⟩)
      have HO:=hide (OnlyAt.set g 0 w (.slice SA (l.length - s) SC))
      have zs0:(0:Int)≤s:=by omega
      have zs1:(s:Int)≤l.length:=by omega
      have zs2:(s:Int)≤c:=by omega
      have zs3:(l.length:Int)≤c:=by omega
      have Hll:=hide hl
      have hmd:decide (most < (m:Int))=false:=decide_eq_false hm
      clear hg hE hr hA e1 E1 E2 hrs hrs0
      go_enter Tryz.func137,Tryz.ntmps137
      go_wp2_with fail
      refine (unhide G w rfl).mono ?_
      rintro e w2 ⟨rfl,rfl⟩
      rcases hSA with⟨hca,rfl,rfl⟩ | ⟨hca,rfl,rfl⟩
      all_goals
       go_wp2_with fail
       go_ret
       exact⟨by rw [HV.out];rfl,by rw [HV.out];exact HF.out,HO.out⟩
theorem RY.cell1 {w:World} {g:Nat} {st:ES} (h:RY w g st):w.cell? ⟨g,1,none⟩=some (.bool st.2):=by
 obtain⟨A,c,h1,-⟩:=h
 exact h1.cells.2
theorem RY.fr1 {w:World} {g:Nat} {st:ES} (h:RY w g st):w.frozen? ⟨g,1,none⟩=false:=by
 obtain⟨A,c,h1,-⟩:=h
 exact frozen_of_row w g 1 _ _ h1
theorem RY.setBad {w:World} {g:Nat} {st:ES} (h:RY w g st) (b:Bool):RY (w.setCell ⟨g,1,none⟩ (.bool b)) g (st.1,b):=by
 obtain⟨A,c,h1,h2,h3⟩:=h
 exact⟨A,c,h1.set1 b,RBT.below h2 ((Below.refl g w).setCell (Nat.le_refl _) _),h3⟩
/-- next, its answer being named. -/
theorem rd_at (g:Nat) (most:Int) (st:ES) (w:World) (h:RY w g st) (x:Int) (s2:ES) (hx:eyeN most st=(x,s2)) (h0:0≤most):
 Calls Tryz.prog 137 #[.pointer (some ⟨g,0,none⟩),.int .i64 most] w fun e w'=>e= .returned (.int .i64 x)∧RY w' g s2∧OnlyAt g w w'∧0≤x∧x≤most:=by
 have h1:=eyeN_max most st h0
 rw [hx] at h1
 refine (rdnext g most st w h).mono ?_
 rintro e w' ⟨he,h2,h3⟩
 rw [hx] at he h2
 exact⟨he,h2,h3,h1⟩
theorem rdstamp (g:Nat) (st:ES) (w:World) (h:RY w g st) (t r:Int) (s2:ES) (hx:rdS st=((t,r),s2)):
 Calls Tryz.prog 138 #[.pointer (some ⟨g,0,none⟩)] w fun e w'=>e= .returned (.agg #[.int .u32 t,.int .u8 r])∧RY w' g s2∧OnlyAt g w w'∧0≤t∧t≤1073741824∧0≤r∧r≤255:=by
 unfold rdS at hx
 obtain⟨x,s1,h1⟩:∃ x s,eyeN 1073741824 st=(x,s):=⟨_,_,rfl⟩
 rw [h1] at hx
 simp only at hx
 obtain⟨y,s3,h2⟩:∃ x s,eyeN 255 s1=(x,s):=⟨_,_,rfl⟩
 rw [h2] at hx
 simp only [Prod.mk.injEq] at hx
 obtain⟨⟨rfl,rfl⟩,rfl⟩:=hx
 obtain⟨w1,hw1,F1,hs1,hb1⟩:=two_pb w (.int .u32 0) (.int .u8 0) 46
 have hlt:=h.lt
 have H1:=hide h1
 have H2:=hide h2
 have HE1:=hide (h.below hb1)
 have HO1:=hide (OnlyAt.below hb1 (Nat.le_of_lt hlt))
 have HF1:=hide F1
 have Hne:=hide (show w.heap.size≠g by omega)
 obtain⟨gx,hgx⟩:∃ q,q=w.heap.size:=⟨_,rfl⟩
 have Hgx:=hide hgx
 have Hg:=hide (show g < gx by omega)
 have Hlt:=hide (Nat.le_of_lt hlt)
 rw [←hgx] at HF1 Hne
 clear h1 h2 F1 hb1 hs1 h hlt
 go_enter Tryz.func138,Tryz.ntmps138
 go_wp2_with fail
 rw [←hgx]
 clear hgx hw1
 refine (rd_at g 1073741824 st w1 HE1.out x s1 H1.out (by decide)).mono ?_
 rintro e w2 ⟨rfl,hE2,ho2,x0,x1⟩
 have HE2:=hide hE2
 have HO2:=hide (HO1.out.trans ho2)
 have HF2:=hide (HF1.out.only ho2 Hne.out)
 have hxu:IntKind.u32.wrap x=x:=IntWalk.u32_in _ (by omega)
 clear hE2 ho2
 go_wp2_with fail
 refine (rd_at g 255 s1 w2 HE2.out y s3 H2.out (by decide)).mono ?_
 rintro e w3 ⟨rfl,hE3,ho3,y0,y1⟩
 have hyu:IntKind.u8.wrap y=y:=by simp [IntKind.wrap,IntKind.bits,IntKind.signed];omega
 have HF3:=hide (HF2.out.only ho3 Hne.out)
 have HO3:=hide (HO2.out.trans ho3)
 have HE3:=hide hE3
 obtain⟨c0,c1⟩:=HF3.out.cells
 have f0:=HF3.out.fr 0
 have f1:=HF3.out.fr 1
 clear hE3 ho3
 go_wp2_with fail
 have F5:PB ((w3.setCell ⟨gx,0,none⟩ (.int .u32 x)).setCell ⟨gx,1,none⟩ (.int .u8 y)) gx (.int .u32 x) (.int .u8 y) 46:=(HF3.out.set0 _).set1 _
 have E5:RY ((w3.setCell ⟨gx,0,none⟩ (.int .u32 x)).setCell ⟨gx,1,none⟩ (.int .u8 y)) g s3:=(HE3.out.other Hg.out 0 _).other Hg.out 1 _
 have O5:OnlyAt g w ((w3.setCell ⟨gx,0,none⟩ (.int .u32 x)).setCell ⟨gx,1,none⟩ (.int .u8 y)):=(HO3.out.setNew (Nat.le_of_eq Hgx.out.symm) Hlt.out 0 _).setNew (Nat.le_of_eq Hgx.out.symm) Hlt.out 1 _
 generalize (w3.setCell ⟨gx,0,none⟩ (.int .u32 x)).setCell ⟨gx,1,none⟩ (.int .u8 y)=WW at F5 E5 O5 ⊢
 obtain⟨v0,v1⟩:=F5.cells
 exact bodyPost_ret (v:= .agg #[.int .u32 x,.int .u8 y]) (by simp [results,Tryz.results138,go_sem,v0,v1]) rfl ⟨rfl,E5,O5,x0,x1,y0,y1⟩
end Go.Proofs.YtmkpfdcnikgokaaGreat
