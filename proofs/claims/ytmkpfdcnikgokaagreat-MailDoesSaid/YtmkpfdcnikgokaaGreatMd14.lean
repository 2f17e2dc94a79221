/-
  Texts of this claim, put together: MailShelf, MailSome. What each theorem asks stands in its statement.
-/
import Derived.Test.YtmkpfdcnikgokaaGreatMd13
set_option linter.unusedVariables false
set_option linter.unusedSimpArgs false
set_option maxRecDepth 100000
set_option maxHeartbeats 25600000
namespace Go.Proofs.YtmkpfdcnikgokaaGreat
open Go.RowKit
def De:Option (Int×Int)->List Qm->Prop
 | _, []=>True
 | none,x :: l=>Gr x/\De (some x.1) l
 | some p,x :: l=>Gr x/\lessB p.1 p.2 x.1.1 x.1.2=true/\De (some x.1) l
instance Rq:∀ (p:Option (Int×Int)) (l:List Qm),Decidable (De p l)
 | p, []=>by unfold De;infer_instance
 | none,x :: l=>by
   have:=Rq (some x.1) l;unfold De;infer_instance
 | some p,x :: l=>by
   have:=Rq (some x.1) l;unfold De;infer_instance
def Vg (E:List Qm):Prop:=E.length<=65/\De none E
instance (E:List Qm):Decidable (Vg E):=by unfold Vg;infer_instance
def Vi (E:List Qm):Int:=if Vg E then 0 else 8
theorem U3 (A:Option Addr) (n c:Nat) (L:List Ay) (w:World) (hr:RE w w.heap.size A L) (hn:L.length=n) (ax:∀ x∈L,N5 x):
 Calls Tryz.prog 150 #[.slice A n c] w fun e w'=>e= .returned (.int .i64 (Vi (L.map Ay.en)))/\Below w.heap.size w w':=by
 by_cases jv:(65:Int) < n
 ·have HC:=Aa (show Vi (L.map Ay.en)=8 from if_neg (fun h=>by have:=h.1;rw [List.length_map] at this;omega));clear hr hn ax;go_enter Tryz.func150,Tryz.ntmps150;go_wp2_with fail;go_ret;exact⟨by rw [HC.out];rfl,Below.refl _ _⟩
 have HM:=Aa (show Vg (L.map Ay.en)↔De none (L.map Ay.en) from⟨fun h=>h.2,fun h=>⟨by rw [List.length_map];omega,h⟩⟩);have js:=Aa ax;have Hn:=Aa hn;have HR:=Aa hr;clear hr hn ax;go_enter Tryz.func150,Tryz.ntmps150;go_wp2_with fail
 go_loopw [10] (fun i wr=>∃ (j:Nat) (p:Option (Int×Int)),j<=n/\i= .int .i64 (j:Int)/\Hid (p=if j=0 then none else (L[j - 1]?).map fun x=>(x.t,x.r))/\Hid (De none (L.map Ay.en)↔De p ((L.drop j).map Ay.en))/\Below w.heap.size w wr) (fun i _=>n - (intOf i).toNat)
 case atStart=>exact⟨0,none,by omega,rfl,Aa rfl,Aa Iff.rfl,Below.refl _ _⟩
 case round=>
  obtain⟨j,p,hj,rfl,Hp,HC,hb⟩:=hrel;by_cases ai:j < n
  ·have ap:j < L.length:=by rw [Hn.out];exact ai
   have z0:(j:Int) < n:=by omega
   have zj:(0:Int)<=j:=by omega
   obtain⟨bb,bo,rfl,hB,fg⟩:=RE.cell (HR.out.below hb) (by omega);obtain⟨d0,d1,d2,d3,d4,d5,d6,d7⟩:=fg j ap;obtain⟨x,hx⟩:∃ x,L[j]=x:=⟨_,rfl⟩;rw [hx] at d0 d1 d2 d5 d6 d7;have ba:x∈L:=by rw [<-hx];exact List.getElem_mem ap
   have jb:=js.out x ba;have ti:(L.drop j).map Ay.en=x.en :: (L.drop (j+1)).map Ay.en:=by rw [List.drop_eq_getElem_cons ap,hx];rfl
   have m8:=HC;rw [ti] at m8;obtain⟨w1,au,F1,af,ac⟩:=Df wr (.int .u32 x.t) (.int .u8 x.r) (.bool x.rd) (.bool false) (.int .i64 0) (.bool x.kn) (.slice x.sA x.s.length x.sc) (.slice x.gA x.g.length x.gc);obtain⟨a0,a1,a2,a3,a4,a5,a6,a7⟩:=F1.cells;have r4:=Ad hb ac;obtain⟨o,ho⟩:∃ q,decide (Gr x.en)=q:=⟨_,rfl⟩
   have P:=Aa (fun u=>by
    have h1:=(((HR.out.below r4).more r4.size).2 x ba)
    have h2:=Acr x.t x.r x.rd x.kn x.sA x.gA x.s.length x.sc x.g.length x.gc x.s x.g (Bs w1 u) ((h1.1.below (Af w1 u)).more (Af w1 u).size) jb.2.2.2.2.2.1 jb.2.2.2.2.2.2.2.1 rfl rfl
    rw [show decide (Gr ((x.t,x.r),(x.rd,x.kn),(x.s.map Aq.pt,x.g)))=o from ho] at h2
    exact h2)
   have Hpx:=Aa (And.intro hx (And.intro ti jb))
   cases o with
   | false=>
     have HE:=Aa (show Vi (L.map Ay.en)=8 from if_neg (fun h=>by
      have h1:=m8.out.1 (HM.out.1 h)
      cases p with
      | none=>exact (decide_eq_false_iff_not.1 ho) h1.1
      | some p=>exact (decide_eq_false_iff_not.1 ho) h1.1))
     clear fg hx ba jb ti HC m8 F1 ho Hpx Hp;go_wp2_with fail;refine Aj (by kernel_rfl) (by kernel_rfl) ?_
     repeat (
      refine WQ.step (fun K hK=>?_)
      go_simp
      first
       | (refine hK _ ?_;clear hK K)
       | (apply Exists.intro
          refine⟨fun _=>?_,hK _ ?_⟩
          (go_at_call 173;with_reducible exact Al (Ag P _))
          clear hK K))
     refine WQ.nil ?_;intro u;go_wp2_with fail;go_ret;exact⟨by rw [HE.out];rfl,Ad r4 (Af w1 u)⟩
   | true=>
     have fy:Gr x.en:=decide_eq_true_iff.1 ho;rcases Nat.eq_zero_or_pos j with hj0 | hj0
     ·have zg:decide (0 < j)=false:=decide_eq_false (by omega);have Hp0:p=none:=by rw [Hp.out,if_pos hj0]
      subst Hp0;have jx:=Aa (show some (x.t,x.r)=if j+1=0 then none else (L[j+1 - 1]?).map fun x=>(x.t,x.r) by rw [if_neg (Nat.succ_ne_zero j),Nat.add_sub_cancel,List.getElem?_eq_getElem ap,hx];rfl);have VI:=Aa (m8.out.trans (show De none (x.en :: (L.drop (j+1)).map Ay.en)↔De (some (x.t,x.r)) ((L.drop (j+1)).map Ay.en) from⟨fun h=>h.2,fun h=>⟨fy,h⟩⟩));clear fg hx ba jb ti HC m8 F1 ho Hpx Hp fy hj0;go_wp2_with fail;refine Aj (by kernel_rfl) (by kernel_rfl) ?_
      repeat (
       refine WQ.step (fun K hK=>?_)
       go_simp
       first
        | (refine hK _ ?_;clear hK K)
        | (apply Exists.intro
           refine⟨fun _=>?_,hK _ ?_⟩
           (go_at_call 173;with_reducible exact Al (Ag P _))
           clear hK K))
      refine WQ.nil ?_;intro u;go_wp2_with fail;go_roundw
      case rel=>exact⟨j+1,some (x.t,x.r),by omega,by go_num,jx,VI,Ad r4 (Af w1 u)⟩
      case measure=>simp [intOf];omega
     ·have zg:decide (0 < j)=true:=decide_eq_true (by omega);have zs:(j:Int) - 1=((j - 1:Nat):Int):=by omega
      have zk:((j - 1:Nat):Int) < n:=by omega
      have zk0:(0:Int)<=((j - 1:Nat):Int):=by omega
      obtain⟨k,hk⟩:∃ k,j - 1=k:=⟨_,rfl⟩;rw [hk] at zs zk zk0;have zw:IntKind.i64.wrap (k:Int)=k:=IntWalk.i64_in _ (by omega);have YA:k < L.length:=by omega
      obtain⟨e0,e1,-,-,-,-,-,-⟩:=fg k YA;obtain⟨y,hy⟩:∃ y,L[k]=y:=⟨_,rfl⟩;rw [hy] at e0 e1;have NF:=js.out y (by rw [<-hy];exact List.getElem_mem YA);have CO:bb < wr.heap.size:=Nat.lt_of_lt_of_le hB hb.size;have f0:=Ac ac CO e0;have f1:=Ac ac CO e1;have LD:bb < w1.heap.size:=Nat.lt_of_lt_of_le CO ac.size;have Hp1:p=some (y.t,y.r):=by rw [Hp.out,if_neg (by omega),hk,List.getElem?_eq_getElem YA,hy];rfl
      subst Hp1;have Q:=Aa (fun u=>Abk y.t y.r x.t x.r (Bs w1 u) NF.1 NF.2.1 NF.2.2.1 (by have:=NF.2.2.2.1;omega) jb.1 jb.2.1 jb.2.2.1 (by have:=jb.2.2.2.1;omega))
      cases xg:lessB y.t y.r x.t x.r with
      | false=>
        rw [xg] at Q
        have HE:=Aa (show Vi (L.map Ay.en)=8 from if_neg (fun h=>by
         have h1:=m8.out.1 (HM.out.1 h)
         have h2:lessB y.t y.r x.t x.r=true:=h1.2.1
         rw [xg] at h2
         cases h2))
        clear fg hx ba jb ti HC m8 ho Hpx Hp fy hj0 hk hy NF xg e0 e1 F1;go_wp2_with fail;refine Aj (by kernel_rfl) (by kernel_rfl) ?_
        repeat (
         refine WQ.step (fun K hK=>?_)
         go_simp
         first
          | (refine hK _ ?_;clear hK K)
          | (apply Exists.intro
             refine⟨fun _=>?_,hK _ ?_⟩
             (first
               | (go_at_call 173;with_reducible exact Al (Ag P _))
               | (go_at_call 174;with_reducible exact Al (Ag Q _)))
             clear hK K))
        refine WQ.nil ?_;intro u;go_wp2_with fail;go_ret;exact⟨by rw [HE.out];rfl,Ad r4 (Af w1 u)⟩
      | true=>
        rw [xg] at Q;have jx:=Aa (show some (x.t,x.r)=if j+1=0 then none else (L[j+1 - 1]?).map fun x=>(x.t,x.r) by rw [if_neg (Nat.succ_ne_zero j),Nat.add_sub_cancel,List.getElem?_eq_getElem ap,hx];rfl);have VI:=Aa (m8.out.trans (show De (some (y.t,y.r)) (x.en :: (L.drop (j+1)).map Ay.en)↔De (some (x.t,x.r)) ((L.drop (j+1)).map Ay.en) from⟨fun h=>h.2.2,fun h=>⟨fy,xg,h⟩⟩));clear fg hx ba jb ti HC m8 ho Hpx Hp fy hj0 hk hy NF xg e0 e1 F1;go_wp2_with fail;refine Aj (by kernel_rfl) (by kernel_rfl) ?_
        repeat (
         refine WQ.step (fun K hK=>?_)
         go_simp
         first
          | (refine hK _ ?_;clear hK K)
          | (apply Exists.intro
             refine⟨fun _=>?_,hK _ ?_⟩
             (first
               | (go_at_call 173;with_reducible exact Al (Ag P _))
               | (go_at_call 174;with_reducible exact Al (Ag Q _)))
             clear hK K))
        refine WQ.nil ?_;intro u;go_wp2_with fail;go_roundw
        case rel=>exact⟨j+1,some (x.t,x.r),by omega,by go_num,jx,VI,Ad r4 (Af w1 u)⟩
        case measure=>simp [intOf];omega
  ·have z0:¬ (j:Int) < n:=by omega
   have HE:=Aa (show Vi (L.map Ay.en)=0 from if_pos (HM.out.2 (HC.out.2 (by
    rw [List.drop_eq_nil_of_le (by rw [Hn.out];omega)]
    cases p <;> trivial))))
   go_wp2_with fail;go_ret;exact⟨by rw [HE.out];rfl,hb⟩
def Dp (P:List Lg) (m:Int):Prop:=1<=(P.length:Int)/\(P.length:Int)<=m/\∀ o∈P,R3 o
instance Af7 (o:Lg):Decidable (R3 o):=by unfold R3;infer_instance
instance Af1 (P:List Lg) (m:Int):Decidable (Dp P m):=by
 have:Decidable (∀ o∈P,R3 o):=List.decidableBAll R3 P;unfold Dp;infer_instance
theorem Afs (k t r z:Int) (A:Option Addr) (n c:Nat) (p:List Rn) (w:World) (hr:RR w w.heap.size A p) (hn:p.length=n) (hl:n < 1073741824) (ax:∀ x∈p,Gl x) (k0:0<=k):
 Calls Tryz.prog 147 #[Gq k t r A n c z] w fun e w'=>e= .returned (.bool (decide (¬ Dz k t r p z)))/\Below w.heap.size w w':=by
 obtain⟨w1,au,c0,c1,c2,c3,c4,af,ac⟩:=D7 w (.int .u8 k) (.int .u32 t) (.int .u8 r) (.slice A n c) (.int .i64 z) 104;have P:=Aa (Ku k t r z A n c p w1 ((RD.below hr ac).more ac.size) hn hl ax k0);clear hr ax;by_cases hm:Dz k t r p z
 ·rw [show Gt k t r p z=0 from if_pos hm] at P;have hE:=Aa (show decide (¬ Dz k t r p z)=false from decide_eq_false fun h=>h hm);rw [hE.out];clear hm hE;go_enter Tryz.func147,Tryz.ntmps147;go_wp2_with fail;refine P.out.mono ?_;rintro e w2 ⟨rfl,ae⟩;clear c0 c1 c2 c3 c4;go_wp2_with fail;go_ret;exact⟨rfl,Ad ac ae⟩
 ·rw [show Gt k t r p z=8 from if_neg hm] at P;have hE:=Aa (show decide (¬ Dz k t r p z)=true from decide_eq_true hm);rw [hE.out];clear hm hE;go_enter Tryz.func147,Tryz.ntmps147;go_wp2_with fail;refine P.out.mono ?_;rintro e w2 ⟨rfl,ae⟩;clear c0 c1 c2 c3 c4;go_wp2_with fail;go_ret;exact⟨rfl,Ad ac ae⟩
theorem Aew (A:Option Addr) (n c:Nat) (L:List Bj) (w:World) (hr:RO w w.heap.size A L) (hn:L.length=n) (hl:n < 1073741824) (ax:∀ x∈L,Zs x):
 Calls Tryz.prog 170 #[.slice A n c,.func (.func 147) #[] #[]] w fun e w'=>∃ m:Int,e= .returned (.int .i64 m)/\(m=-1/\(∀ x∈L,Fa x)\/0<=m/\¬ ∀ x∈L,Fa x)/\Below w.heap.size w w':=by
 have HR:=Aa hr;have Hn:=Aa hn;have js:=Aa ax;clear hr hn ax;go_enter Tryz.func170,Tryz.ntmps170;go_wp2_with fail
 go_loopw [8] (fun i wr=>∃ j:Nat,j<=n/\i= .int .i64 (j:Int)/\Hid (∀ x∈L.take j,Fa x)/\Below w.heap.size w wr) (fun i _=>n - (intOf i).toNat)
 case atStart=>exact⟨0,by omega,rfl,Aa (fun x hx=>by cases hx),Below.refl _ _⟩
 case round=>
  obtain⟨j,hj,rfl,HM,hb⟩:=hrel;by_cases ai:j < n
  ·have ap:j < L.length:=by rw [Hn.out];exact ai
   have z0:(j:Int) < n:=by omega
   have zj:(0:Int)<=j:=by omega
   have pg:=(HR.out.below hb).more hb.size;obtain⟨bb,bo,rfl,hB,hC⟩:=RO.cell pg (by omega);obtain⟨d0,d1,d2,d3,d4⟩:=hC j ap;obtain⟨x,hx⟩:∃ x,L[j]=x:=⟨_,rfl⟩;rw [hx] at d0 d1 d2 d3 d4;have ba:x∈L:=by rw [<-hx];exact List.getElem_mem ap
   have Hx:=Aa ba;have jk:=Aa (show L.take (j+1)=L.take j++ [x] by rw [List.take_succ_eq_append_getElem ap,hx]);have jb:=js.out x ba;have hP:=Aa (Afs x.k x.t x.r x.z x.A x.p.length x.c x.p wr (pg.2 x ba) rfl jb.2.2.2 jb.2.2.1 jb.1);clear hC hx ba jb pg;by_cases hm:Dz x.k x.t x.r x.p x.z;rotate_left
   ·rw [decide_eq_true hm] at hP;have Hm:=Aa hm;clear hm;go_wp2_with fail;refine hP.out.mono ?_;rintro e w2 ⟨rfl,ae⟩;go_wp2_with fail;go_ret;exact⟨(j:Int),rfl,.inr ⟨by omega,fun h=>Hm.out (h x Hx.out)⟩,Ad hb ae⟩
   ·rw [decide_eq_false (not_not_intro hm)] at hP;have Hm:=Aa hm;clear hm;go_wp2_with fail;refine hP.out.mono ?_;rintro e w2 ⟨rfl,ae⟩;go_wp2_with fail;go_roundw
    case rel=>
     refine⟨j+1,by omega,by go_num,Aa fun q hq=>?_,Ad hb ae⟩;rw [jk.out] at hq;rcases List.mem_append.1 hq with h | h
     ·exact HM.out q h
     ·simp only [List.mem_singleton] at h;subst h;exact Hm.out
    case measure=>simp [intOf];omega
  ·have z0:¬ (j:Int) < n:=by omega
   have Ha:=Aa (show ∀ x∈L,Fa x by have:=HM.out;rwa [List.take_of_length_le (by rw [Hn.out];omega)] at this);go_wp2_with fail;go_ret;exact⟨-1,rfl,.inl ⟨rfl,Ha.out⟩,hb⟩
theorem Yz (A:Option Addr) (n c:Nat) (L:List Bj) (w:World) (hr:RO w w.heap.size A L) (hn:L.length=n) (hl:n < 1073741824) (ax:∀ x∈L,Zs x):
 Calls Tryz.prog 146 #[.slice A n c,.func (.func 147) #[] #[]] w fun e w'=>e= .returned (.bool (decide (¬ ∀ x∈L,Fa x)))/\Below w.heap.size w w':=by
 have hP:=Aa (Aew A n c L w hr hn hl ax);clear hr hn ax;go_enter Tryz.func146,Tryz.ntmps146;go_wp2_with fail;refine hP.out.mono ?_;rintro e w2 ⟨m,rfl,hm,hb⟩;rcases hm with⟨rfl,hm⟩ | ⟨h0,hm⟩
 ·have Hd:=Aa (show decide (¬ ∀ x∈L,Fa x)=false from decide_eq_false (fun h=>h hm));clear hm;go_wp2_with fail;go_ret;exact⟨by rw [Hd.out];rfl,hb⟩
 ·have Hd:=Aa (show decide (¬ ∀ x∈L,Fa x)=true from decide_eq_true hm);clear hm;go_wp2_with fail;go_ret;exact⟨by rw [Hd.out];exact Ae (by first | (simp;done) | simpa using h0),hb⟩
theorem Aar (A:Option Addr) (n c:Nat) (L:List Bj) (m:Int) (w:World) (hr:RO w w.heap.size A L) (hn:L.length=n) (hl:n < 1073741824) (ax:∀ x∈L,Zs x):
 Calls Tryz.prog 110 #[.slice A n c,.int .i64 m] w fun e w'=>e= .returned (.bool (decide (Dp (L.map Bj.op) m)))/\Below w.heap.size w w':=by
 have hP:=Aa (Yz A n c L w hr hn hl ax);have cp:(∀ o∈L.map Bj.op,R3 o)↔∀ x∈L,Fa x:=by
  constructor
  ·intro h x hx;exact h _ (List.mem_map_of_mem hx)
  ·intro h o ho;obtain⟨x,hx,rfl⟩:=List.mem_map.1 ho;exact h x hx
 by_cases h1:(1:Int)<=n;rotate_left
 ·have hE:=Aa (show decide (Dp (L.map Bj.op) m)=false from decide_eq_false fun h=>h1 (by have:=h.1;rw [List.length_map,hn] at this;exact this));rw [hE.out];clear hr hn ax cp hP hE;go_enter Tryz.func110,Tryz.ntmps110;go_wp2_with fail;go_ret;exact⟨rfl,Below.refl _ _⟩
 by_cases h2:(n:Int)<=m;rotate_left
 ·have hE:=Aa (show decide (Dp (L.map Bj.op) m)=false from decide_eq_false fun h=>h2 (by have:=h.2.1;rw [List.length_map,hn] at this;exact this));rw [hE.out];clear hr hn ax cp hP hE;go_enter Tryz.func110,Tryz.ntmps110;go_wp2_with fail;go_ret;exact⟨rfl,Below.refl _ _⟩
 have hE:=Aa (show decide (Dp (L.map Bj.op) m)= !(decide (¬ ∀ x∈L,Fa x)) by
  by_cases h:∀ x∈L,Fa x
  ·rw [decide_eq_true (show Dp (L.map Bj.op) m from⟨by rw [List.length_map,hn];exact h1,by rw [List.length_map,hn];exact h2,cp.2 h⟩),decide_eq_false (not_not_intro h)];rfl
  ·rw [decide_eq_false (fun h':Dp (L.map Bj.op) m=>h (cp.1 h'.2.2)),decide_eq_true h];rfl)
 rw [hE.out];obtain⟨q,hq⟩:∃ q,q=decide (¬ ∀ x∈L,Fa x):=⟨_,rfl⟩;rw [<-hq] at hP |-;clear hr hn ax cp hE hq;go_enter Tryz.func110,Tryz.ntmps110;go_wp2_with fail;refine hP.out.mono ?_;rintro e w2 ⟨rfl,hb⟩;go_wp2_with fail;go_ret;exact⟨rfl,hb⟩
def WP.en (x:WP):Qm:=((x.t,x.r),(x.rd,x.kn),(x.S,x.G))
def Cy (E:List WP):Prop:=Vg (E.map WP.en)/\∀ x∈E,D9 x.H
instance Afk (E:List WP):Decidable (Cy E):=by
 have:Decidable (∀ x∈E,D9 x.H):=List.decidableBAll (fun x:WP=>D9 x.H) E;unfold Cy;infer_instance
abbrev Tf (x:Ay):Prop:=D9 (x.h.map Aq.pt)
theorem Aec (t r:Int) (rd kn:Bool) (hA:Option Addr) (hn hc:Nat) (h:List Aq) (sv gv:Value) (w:World) (hr:RT w w.heap.size hA h) (hh:h.length=hn) (ax:∀ x∈h,M1 x) (AF:hn < 1073741824):
 Calls Tryz.prog 152 #[wsv t r rd kn (.slice hA hn hc) sv gv] w fun e w'=>e= .returned (.bool (decide (¬ D9 (h.map Aq.pt))))/\Below w.heap.size w w':=by
 obtain⟨w1,au,F1,af,ac⟩:=Ct w (.int .u32 t) (.int .u8 r) (.bool rd) (.slice hA hn hc) (.bool kn) sv gv;obtain⟨c0,c1,c2,c3,c4,c5,c6⟩:=F1.cells;have P:=Aa (Xx hA hn hc h w1 ((hr.below ac).more ac.size) hh ax AF)
 have hE:=Aa (show decide (¬ D9 (h.map Aq.pt))= !(decide (D9 (h.map Aq.pt))) by
  by_cases hx:D9 (h.map Aq.pt)
  ·rw [decide_eq_false (not_not_intro hx),decide_eq_true hx];rfl
  ·rw [decide_eq_true hx,decide_eq_false hx];rfl)
 rw [hE.out];obtain⟨q,hq⟩:∃ q,q=decide (D9 (h.map Aq.pt)):=⟨_,rfl⟩;rw [<-hq] at P |-;clear hr ax hE hq F1;go_enter Tryz.func152,Tryz.ntmps152;go_wp2_with fail;refine P.out.mono ?_;rintro e w2 ⟨rfl,ae⟩;clear c0 c1 c2 c3 c4 c5 c6;go_wp2_with fail;go_ret;exact⟨rfl,Ad ac ae⟩
theorem Aeb (A:Option Addr) (n c:Nat) (L:List Ay) (w:World) (hr:RW w w.heap.size A L) (hn:L.length=n) (hl:n < 1073741824) (ax:∀ x∈L,N5 x):
 Calls Tryz.prog 175 #[.slice A n c,.func (.func 152) #[] #[]] w fun e w'=>∃ m:Int,e= .returned (.int .i64 m)/\(m=-1/\(∀ x∈L,Tf x)\/0<=m/\¬ ∀ x∈L,Tf x)/\Below w.heap.size w w':=by
 have HR:=Aa hr;have Hn:=Aa hn;have js:=Aa ax;clear hr hn ax;go_enter Tryz.func175,Tryz.ntmps175;go_wp2_with fail
 go_loopw [8] (fun i wr=>∃ j:Nat,j<=n/\i= .int .i64 (j:Int)/\Hid (∀ x∈L.take j,Tf x)/\Below w.heap.size w wr) (fun i _=>n - (intOf i).toNat)
 case atStart=>exact⟨0,by omega,rfl,Aa (fun x hx=>by cases hx),Below.refl _ _⟩
 case round=>
  obtain⟨j,hj,rfl,HM,hb⟩:=hrel;by_cases ai:j < n
  ·have ap:j < L.length:=by rw [Hn.out];exact ai
   have z0:(j:Int) < n:=by omega
   have zj:(0:Int)<=j:=by omega
   have pg:=(HR.out.below hb).more hb.size;obtain⟨bb,bo,rfl,hB,hC⟩:=RW.cell pg (by omega);obtain⟨d0,d1,d2,d3,d4,d5,d6⟩:=hC j ap;obtain⟨x,hx⟩:∃ x,L[j]=x:=⟨_,rfl⟩;rw [hx] at d0 d1 d2 d3 d4 d5 d6;have ba:x∈L:=by rw [<-hx];exact List.getElem_mem ap
   have Hx:=Aa ba;have jk:=Aa (show L.take (j+1)=L.take j++ [x] by rw [List.take_succ_eq_append_getElem ap,hx]);have jb:=js.out x ba;have hP:=Aa (Aec x.t x.r x.rd x.kn x.hA x.h.length x.hc x.h (.slice x.sA x.s.length x.sc) (.slice x.gA x.g.length x.gc) wr (pg.2 x ba).1 rfl jb.2.2.2.2.1 jb.2.2.2.2.2.2.1);clear hC hx ba jb pg;by_cases hm:Tf x;rotate_left
   ·rw [decide_eq_true hm] at hP;have Hm:=Aa hm;clear hm;go_wp2_with fail;refine hP.out.mono ?_;rintro e w2 ⟨rfl,ae⟩;go_wp2_with fail;go_ret;exact⟨(j:Int),rfl,.inr ⟨by omega,fun h=>Hm.out (h x Hx.out)⟩,Ad hb ae⟩
   ·rw [decide_eq_false (not_not_intro hm)] at hP;have Hm:=Aa hm;clear hm;go_wp2_with fail;refine hP.out.mono ?_;rintro e w2 ⟨rfl,ae⟩;go_wp2_with fail;go_roundw
    case rel=>
     refine⟨j+1,by omega,by go_num,Aa fun q hq=>?_,Ad hb ae⟩;rw [jk.out] at hq;rcases List.mem_append.1 hq with h | h
     ·exact HM.out q h
     ·simp only [List.mem_singleton] at h;subst h;exact Hm.out
    case measure=>simp [intOf];omega
  ·have z0:¬ (j:Int) < n:=by omega
   have Ha:=Aa (show ∀ x∈L,Tf x by have:=HM.out;rwa [List.take_of_length_le (by rw [Hn.out];omega)] at this);go_wp2_with fail;go_ret;exact⟨-1,rfl,.inl ⟨rfl,Ha.out⟩,hb⟩
theorem Yb (A:Option Addr) (n c:Nat) (L:List Ay) (w:World) (hr:RW w w.heap.size A L) (hn:L.length=n) (hl:n < 1073741824) (ax:∀ x∈L,N5 x):
 Calls Tryz.prog 151 #[.slice A n c,.func (.func 152) #[] #[]] w fun e w'=>e= .returned (.bool (decide (¬ ∀ x∈L,Tf x)))/\Below w.heap.size w w':=by
 have hP:=Aa (Aeb A n c L w hr hn hl ax);clear hr hn ax;go_enter Tryz.func151,Tryz.ntmps151;go_wp2_with fail;refine hP.out.mono ?_;rintro e w2 ⟨m,rfl,hm,hb⟩;rcases hm with⟨rfl,hm⟩ | ⟨h0,hm⟩
 ·have Hd:=Aa (show decide (¬ ∀ x∈L,Tf x)=false from decide_eq_false (fun h=>h hm));clear hm;go_wp2_with fail;go_ret;exact⟨by rw [Hd.out];rfl,hb⟩
 ·have Hd:=Aa (show decide (¬ ∀ x∈L,Tf x)=true from decide_eq_true hm);clear hm;go_wp2_with fail;go_ret;exact⟨by rw [Hd.out];exact Ae (by first | (simp;done) | simpa using h0),hb⟩
theorem Yc (A:Option Addr) (n c:Nat) (L:List Ay) (w:World) (hr:RW w w.heap.size A L) (hn:L.length=n) (hl:n < 1073741824) (ax:∀ x∈L,N5 x):
 Calls Tryz.prog 112 #[.slice A n c] w fun e w'=>e= .returned (.bool (decide (Cy (L.map Ay.wp))))/\Below w.heap.size w w':=by
 have xx:(L.map Ay.wp).map WP.en=L.map Ay.en:=by rw [List.map_map];rfl
 have cp:(∀ o∈L.map Ay.wp,D9 o.H)↔∀ x∈L,Tf x:=by
  constructor
  ·intro h x hx;exact h _ (List.mem_map_of_mem hx)
  ·intro h o ho;obtain⟨x,hx,rfl⟩:=List.mem_map.1 ho;exact h x hx
 have hP:=Aa (Kx A n c L w hr hn hl);have hQ:=Aa (fun (A':Option Addr) (c':Nat) (w1:World) (h1:RE w1 w1.heap.size A' L)=>U3 A' n c' L w1 h1 hn ax);have hU:=Aa (fun w2 (hb:Below w.heap.size w w2)=>Yb A n c L w2 ((hr.below hb).more hb.size) hn hl ax);by_cases h1:Vg (L.map Ay.en);rotate_left
 ·rw [show Vi (L.map Ay.en)=8 from if_neg h1] at hQ;have hE:=Aa (show decide (Cy (L.map Ay.wp))=false from decide_eq_false fun h=>h1 (by have:=h.1;rwa [xx] at this));rw [hE.out];clear hr hn ax cp hE xx h1 hU;go_enter Tryz.func112,Tryz.ntmps112;go_wp2_with fail;refine hP.out.mono ?_;rintro e w2 ⟨A',c',rfl,hre,hb⟩;have QM:=Aa (hQ.out A' c' w2 hre);clear hre;go_wp2_with fail;refine QM.out.mono ?_;rintro e w3 ⟨rfl,ag⟩;go_wp2_with fail;go_ret;exact⟨rfl,Ad hb ag⟩
 rw [show Vi (L.map Ay.en)=0 from if_pos h1] at hQ
 have hE:=Aa (show decide (Cy (L.map Ay.wp))= !(decide (¬ ∀ x∈L,Tf x)) by
  by_cases h:∀ x∈L,Tf x
  ·rw [decide_eq_true (show Cy (L.map Ay.wp) from⟨by rw [xx];exact h1,cp.2 h⟩),decide_eq_false (not_not_intro h)];rfl
  ·rw [decide_eq_false (fun h':Cy (L.map Ay.wp)=>h (cp.1 h'.2)),decide_eq_true h];rfl)
 rw [hE.out];obtain⟨q,hq⟩:∃ q,q=decide (¬ ∀ x∈L,Tf x):=⟨_,rfl⟩;rw [<-hq] at hU |-;clear hr hn ax cp hE xx h1 hq;go_enter Tryz.func112,Tryz.ntmps112;go_wp2_with fail;refine hP.out.mono ?_;rintro e w2 ⟨A',c',rfl,hre,hb⟩;have QM:=Aa (hQ.out A' c' w2 hre);clear hre;go_wp2_with fail;refine QM.out.mono ?_;rintro e w3 ⟨rfl,ag⟩;have ll:=Ad hb ag;go_wp2_with fail;refine (hU.out w3 ll).mono ?_;rintro e w4 ⟨rfl,aw⟩;go_wp2_with fail;go_ret;exact⟨rfl,Ad ll aw⟩
end Go.Proofs.YtmkpfdcnikgokaaGreat
