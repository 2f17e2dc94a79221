/-
  Texts of this claim, put together: CodeRefGet. What each theorem asks stands in its statement.
-/
import Derived.Test.YtmkpfdcnikgokaaGreatLt3
import Derived.Test.YtmkpfdcnikgokaaGreatLt37
set_option linter.unusedVariables false
set_option linter.unusedSimpArgs false
set_option maxRecDepth 100000
set_option maxHeartbeats 25600000
namespace Go.Proofs.YtmkpfdcnikgokaaGreat
open Go.RowKit
theorem lastR_nn {p:List Rn} (hp:mayR p) (ho:∀ x∈p,okR x):0≤(lastR p).2:=by
 have hne:p≠ []:=fun e=>by rw [e] at hp;have:=hp.1;simp at this
 obtain⟨q,x,rfl⟩:∃ q x,p=q++ [x]:=⟨p.dropLast,p.getLast hne,(List.dropLast_concat_getLast hne).symm⟩
 rw [lastR_snoc q x hp]
 have:=ho x (by simp)
 unfold okR at this
 simp only
 omega
theorem getP_pos {b:List UInt8} {k t r:Int} {p:List Rn} {z:Int} {n:Nat} (h:getP b=some (k,t,r,p,z,n)):0≤r:=by
 simp only [getP,Option.bind_eq_some_iff] at h
 obtain⟨⟨k',a1⟩,hk,⟨m,a2⟩,hm,⟨p',w,a3⟩,hr,⟨k2,t2,r2,p2,z2,n2⟩,ht,h⟩:=h
 simp only at hm hr ht h
 split at h
 ·rename_i hmay
  simp only [Option.some.injEq,Prod.mk.injEq] at h
  obtain⟨rfl,rfl,rfl,rfl,rfl,rfl⟩:=h
  obtain⟨t1,l1⟩:=nxt_take (L:= []) hk (by omega) (by simp [nbs])
  obtain⟨t2',l2⟩:=nxt_take hm l1 t1
  obtain⟨-,-,-,-,g5,-,-⟩:=rdRuns_inv m.toNat a2 0 _ p' w a3 (by omega) l2 t2' hr
  unfold rdTail at ht
  split at ht
  ·rw [Option.map_eq_some_iff] at ht
   obtain⟨⟨z',a4⟩,hz,he⟩:=ht
   simp only [Prod.mk.injEq] at he
   obtain⟨rfl,rfl,rfl,rfl,rfl,rfl⟩:=he
   exact lastR_nn hmay.2.1 g5
  ·split at ht
   ·simp only [Option.some.injEq,Prod.mk.injEq] at ht
    obtain⟨rfl,rfl,rfl,rfl,rfl,rfl⟩:=ht
    exact lastR_nn hmay.2.1 g5
   ·simp only [Option.bind_eq_some_iff,Option.map_eq_some_iff] at ht
    obtain⟨⟨d,a4⟩,hd,⟨r',a5⟩,hr',he⟩:=ht
    simp only [Prod.mk.injEq] at hd hr' he
    obtain⟨rfl,rfl,rfl,rfl,rfl,rfl⟩:=he
    exact (nxt_inv hr').1
 ·cases h
theorem getQ_is (b:List UInt8):getQ b=getP b:=getQ_eq b fun _ _ _ _ _ _ h=>getP_pos h
theorem numR_true {b:List UInt8} {m a:Nat} {L:List Int} (h:numR b m=(L,a,true)):rdN b m 0=some (L,a):=by
 unfold numR at h
 cases hx:rdN b m 0 with
 | none=>rw [hx] at h;simp at h
 | some q=>
   obtain⟨q1,q2⟩:=q
   rw [hx] at h
   simp only [Prod.mk.injEq,and_true] at h
   rw [h.1,h.2]
theorem numR_false {b:List UInt8} {m a:Nat} {L:List Int} (h:numR b m=(L,a,false)):rdN b m 0=none:=by
 unfold numR at h
 cases hx:rdN b m 0 with
 | none=>rfl
 | some q=>rw [hx] at h;simp at h
theorem behind_le (k:Int):behindN k≤2:=by
 unfold behindN
 split
 ·omega
 ·split <;> omega
/-- Kinds of claims: a value; what Numbers answers; a row of numbers; bytes. -/
inductive Kq where
 | val (v:Value)
 | num (L:List Int) (a:Nat) (ok:Bool)
 | row (L:List Int)
 | byt (l:List UInt8)
 | any
/-- What each says. -/
def Kq.say:Kq→Clm
 | .val v=>fun u _=>u=v
 | .num L a ok=>fun u w=>∃ A c,u= .tuple #[.slice A L.length c,.int .i64 (a:Int),.bool ok]∧RN w w.heap.size A L
 | .row L=>fun u w=>∃ A c,u= .slice A L.length c∧RN w w.heap.size A L
 | .byt l=>fun u w=>∃ A c,u= .slice A l.length c∧RB w w.heap.size A l
 | .any=>fun _ _=>True
theorem kqs_mono (ks:List Kq):∀ V∈ks.map Kq.say,∀ v w w',V v w→Below w.heap.size w w'→V v w':=by
 intro V hV v w w' h hb
 obtain⟨k,-,rfl⟩:=List.mem_map.1 hV
 cases k with
 | val u=>exact h
 | num L a ok=>
   obtain⟨A,c,e,hr⟩:=h
   exact⟨A,c,e,(RD.below hr hb).more hb.size⟩
 | row L=>
   obtain⟨A,c,e,hr⟩:=h
   exact⟨A,c,e,(RD.below hr hb).more hb.size⟩
 | byt l=>
   obtain⟨A,c,e,hr⟩:=h
   exact⟨A,c,e,(RD.below hr hb).more hb.size⟩
 | any=>trivial
/-- Numbers, its answer as a row that is read. -/
theorem numbers_row (A:Option Addr) (n c:Nat) (b:List UInt8) (M:Nat) (w:World) (hr:RB w w.heap.size A b) (hn:b.length=n) (hl:n < 1073741824) (hc:n≤c) (hM:M≤300):
 Calls Tryz.prog 189 #[.slice A n c,.int .i64 (M:Int),.int .i64 1073741824] w fun e w'=>∃ A' c',e= .returned (.tuple #[.slice A' (numR b M).1.length c',.int .i64 ((numR b M).2.1:Int),.bool (numR b M).2.2])∧RN w' w'.heap.size A' (numR b M).1∧Below w.heap.size w w':=by
 refine (numbers_any A n c b M w hr hn hl hc hM).mono ?_
 rintro e w' ⟨A',c',he,hown,hb⟩
 exact⟨A',c',he,RD.of_own hown,hb⟩
theorem crefget_any (A:Option Addr) (b:List UInt8) (n c:Nat) (w:World) (hr:RB w w.heap.size A b) (hn:b.length=n) (hl:n < 1073741824) (hc:n≤c):
 Calls Tryz.prog 186 #[.slice A n c] w fun e w'=>∃ A' c',e= .returned (.tuple #[opv (outP (getQ b)).1 (outP (getQ b)).2.1 (outP (getQ b)).2.2.1 A' (outP (getQ b)).2.2.2.1.length c' (outP (getQ b)).2.2.2.2.1,.int .i64 ((outP (getQ b)).2.2.2.2.2.1:Int),.int .i64 (outP (getQ b)).2.2.2.2.2.2])∧w'.ownsRow w.heap.size 120 3 (.slice A' (outP (getQ b)).2.2.2.1.length c') (outP (getQ b)).2.2.2.1.length (rns (outP (getQ b)).2.2.2.1)∧Below w.heap.size w w':=by
 obtain⟨w1,hw1,F1,hs1,hb1⟩:=five_fb w (.int .u8 0) (.int .u32 0) (.int .u8 0) (.slice none 0 0) (.int .i64 0)
 obtain⟨gs,hgs⟩:∃ g,g=w.heap.size:=⟨_,rfl⟩
 rw [←hgs] at F1
 have HFs1:=hide F1
 have Hgs:=hide (show w.heap.size≤gs by rw [hgs];exact Nat.le_refl _)
 have HR:=hide hr
 have Hn:=hide hn
 have N1:=hide (numbers_row A n c b 2 w1 ((RD.below hr hb1).more hb1.size) hn hl hc (by decide))
 clear hr hn F1
 go_enter Tryz.func186,Tryz.ntmps186
 go_wp2_with fail
 rw [←hgs]
 clear hgs hw1
 refine N1.out.mono ?_
 rintro e w2 ⟨A5,c5,rfl,hr5,hb2'⟩
 have hb2:=fresh hb1 hb2'
 have HFs2:=hide (HFs1.out.below hb2')
 clear N1 hb2'
 cases h1:rdN b 2 0 with
 | none=>
   have Hno:=hide (show getQ b=none by simp only [getQ,h1,Option.bind_none])
   have e1:numR b 2=([],0,false):=by unfold numR;rw [h1]
   rw [e1]
   clear h1 e1 hr5
   obtain⟨s0,s1,s2,s3,s4⟩:=HFs2.out.cells
   have f0:=HFs2.out.fr 0
   have f1:=HFs2.out.fr 1
   have f2:=HFs2.out.fr 2
   have f3:=HFs2.out.fr 3
   have f4:=HFs2.out.fr 4
   go_wp2_with fail
   have F5:=put5_fb HFs2.out (.int .u8 0) (.int .u32 0) (.int .u8 0) (.slice none 0 0) (.int .i64 0)
   have Hb5:Below w.heap.size w (put5 w2 gs (.int .u8 0) (.int .u32 0) (.int .u8 0) (.slice none 0 0) (.int .i64 0)):=put5_below hb2 _ _ _ _ _ _ Hgs.out
   change bodyPost _ _ _ _ _ (put5 w2 gs (.int .u8 0) (.int .u32 0) (.int .u8 0) (.slice none 0 0) (.int .i64 0))
   generalize put5 w2 gs (.int .u8 0) (.int .u32 0) (.int .u8 0) (.slice none 0 0) (.int .i64 0)=WW at F5 Hb5 ⊢
   obtain⟨v0,v1,v2,v3,v4⟩:=F5.cells
   refine bodyPost_ret (v:= .tuple #[opv 0 0 0 none 0 0 0,.int .i64 0,.int .i64 8]) (by simp [results,Tryz.results186,go_sem,v0,v1,v2,v3,v4]) rfl ?_
   exact⟨none,0,by rw [Hno.out];rfl,by rw [Hno.out];exact World.ownsRow_nil _ _ _ _,Hb5⟩
 | some q1=>
   obtain⟨H,a1⟩:=q1
   have e1:numR b 2=(H,a1,true):=by unfold numR;rw [h1]
   rw [e1] at hr5 ⊢
   obtain⟨i1,i2,i3,i4,i5⟩:=rdN_inv 2 0 [] H a1 (Nat.zero_le _) (by simp [nbs]) h1
   obtain⟨kk,mm,rfl⟩:∃ kk mm,H= [kk,mm]:=by
    match H,i4 with
    | [x,y],_=>exact⟨x,y,rfl⟩
   have bk:=i5 kk (by simp)
   have bm:=i5 mm (by simp)
   obtain⟨b5,o5,rfl,hB5,hC5⟩:=RN.cell hr5 (by simp)
   have d0:=hC5 0 (by simp)
   have d1:=hC5 1 (by simp)
   simp only [List.getElem_cons_zero,List.getElem_cons_succ,Nat.add_zero] at d0 d1
   have HQ:=hide (show getQ b=if kk < 1∨4 < kk∨mm < 1∨64 < mm then none else
    (rdN (b.drop a1) (3 * mm).toNat 0).bind fun l=>(rdN (b.drop (a1+l.2)) (behindN kk) 0).bind fun x=>
      if fitsR 0 l.1 then (let o:=wholeO kk l.1 x.1
       if mayO o.1 o.2.1 o.2.2.1 o.2.2.2.1 o.2.2.2.2∧opB o.1 o.2.1 o.2.2.1 o.2.2.2.1 o.2.2.2.2=b.take (a1+l.2+x.2) then some (o.1,o.2.1,o.2.2.1,o.2.2.2.1,o.2.2.2.2,a1+l.2+x.2) else none)
      else none by simp only [getQ,h1,Option.bind_some,List.getD_cons_zero,List.getD_cons_succ])
   rw [Hn.out] at i3
   clear h1 e1 i1 i2 i4 i5 hr5 hC5
   simp only [List.length_cons,List.length_nil,Nat.zero_add,Nat.reduceAdd]
   have hways:kk < 1∨(¬ kk < 1∧4 < kk)∨(¬ kk < 1∧¬ 4 < kk∧mm < 1)∨(¬ kk < 1∧¬ 4 < kk∧¬ mm < 1∧64 < mm)∨(¬ kk < 1∧¬ 4 < kk∧¬ mm < 1∧¬ 64 < mm):=by omega
   rcases hways with g1 | ⟨g1,g2⟩ | ⟨g1,g2,g3⟩ | ⟨g1,g2,g3,g4⟩ | ⟨g1,g2,g3,g4⟩
   ·have Hno:=hide (HQ.out.trans (if_pos (.inl g1)))
    clear HQ
    obtain⟨s0,s1,s2,s3,s4⟩:=HFs2.out.cells
    have f0:=HFs2.out.fr 0
    have f1:=HFs2.out.fr 1
    have f2:=HFs2.out.fr 2
    have f3:=HFs2.out.fr 3
    have f4:=HFs2.out.fr 4
    go_wp2_with fail
    have F5:=put5_fb HFs2.out (.int .u8 0) (.int .u32 0) (.int .u8 0) (.slice none 0 0) (.int .i64 0)
    have Hb5:Below w.heap.size w (put5 w2 gs (.int .u8 0) (.int .u32 0) (.int .u8 0) (.slice none 0 0) (.int .i64 0)):=put5_below hb2 _ _ _ _ _ _ Hgs.out
    change bodyPost _ _ _ _ _ (put5 w2 gs (.int .u8 0) (.int .u32 0) (.int .u8 0) (.slice none 0 0) (.int .i64 0))
    generalize put5 w2 gs (.int .u8 0) (.int .u32 0) (.int .u8 0) (.slice none 0 0) (.int .i64 0)=WW at F5 Hb5 ⊢
    obtain⟨v0,v1,v2,v3,v4⟩:=F5.cells
    refine bodyPost_ret (v:= .tuple #[opv 0 0 0 none 0 0 0,.int .i64 0,.int .i64 8]) (by simp [results,Tryz.results186,go_sem,v0,v1,v2,v3,v4]) rfl ?_
    exact⟨none,0,by rw [Hno.out];rfl,by rw [Hno.out];exact World.ownsRow_nil _ _ _ _,Hb5⟩
   ·have Hno:=hide (HQ.out.trans (if_pos (.inr (.inl g2))))
    clear HQ
    obtain⟨s0,s1,s2,s3,s4⟩:=HFs2.out.cells
    have f0:=HFs2.out.fr 0
    have f1:=HFs2.out.fr 1
    have f2:=HFs2.out.fr 2
    have f3:=HFs2.out.fr 3
    have f4:=HFs2.out.fr 4
    go_wp2_with fail
    have F5:=put5_fb HFs2.out (.int .u8 0) (.int .u32 0) (.int .u8 0) (.slice none 0 0) (.int .i64 0)
    have Hb5:Below w.heap.size w (put5 w2 gs (.int .u8 0) (.int .u32 0) (.int .u8 0) (.slice none 0 0) (.int .i64 0)):=put5_below hb2 _ _ _ _ _ _ Hgs.out
    change bodyPost _ _ _ _ _ (put5 w2 gs (.int .u8 0) (.int .u32 0) (.int .u8 0) (.slice none 0 0) (.int .i64 0))
    generalize put5 w2 gs (.int .u8 0) (.int .u32 0) (.int .u8 0) (.slice none 0 0) (.int .i64 0)=WW at F5 Hb5 ⊢
    obtain⟨v0,v1,v2,v3,v4⟩:=F5.cells
    refine bodyPost_ret (v:= .tuple #[opv 0 0 0 none 0 0 0,.int .i64 0,.int .i64 8]) (by simp [results,Tryz.results186,go_sem,v0,v1,v2,v3,v4]) rfl ?_
    exact⟨none,0,by rw [Hno.out];rfl,by rw [Hno.out];exact World.ownsRow_nil _ _ _ _,Hb5⟩
   ·have Hno:=hide (HQ.out.trans (if_pos (.inr (.inr (.inl g3)))))
    clear HQ
    obtain⟨s0,s1,s2,s3,s4⟩:=HFs2.out.cells
    have f0:=HFs2.out.fr 0
    have f1:=HFs2.out.fr 1
    have f2:=HFs2.out.fr 2
    have f3:=HFs2.out.fr 3
    have f4:=HFs2.out.fr 4
    go_wp2_with fail
    have F5:=put5_fb HFs2.out (.int .u8 0) (.int .u32 0) (.int .u8 0) (.slice none 0 0) (.int .i64 0)
    have Hb5:Below w.heap.size w (put5 w2 gs (.int .u8 0) (.int .u32 0) (.int .u8 0) (.slice none 0 0) (.int .i64 0)):=put5_below hb2 _ _ _ _ _ _ Hgs.out
    change bodyPost _ _ _ _ _ (put5 w2 gs (.int .u8 0) (.int .u32 0) (.int .u8 0) (.slice none 0 0) (.int .i64 0))
    generalize put5 w2 gs (.int .u8 0) (.int .u32 0) (.int .u8 0) (.slice none 0 0) (.int .i64 0)=WW at F5 Hb5 ⊢
    obtain⟨v0,v1,v2,v3,v4⟩:=F5.cells
    refine bodyPost_ret (v:= .tuple #[opv 0 0 0 none 0 0 0,.int .i64 0,.int .i64 8]) (by simp [results,Tryz.results186,go_sem,v0,v1,v2,v3,v4]) rfl ?_
    exact⟨none,0,by rw [Hno.out];rfl,by rw [Hno.out];exact World.ownsRow_nil _ _ _ _,Hb5⟩
   ·have Hno:=hide (HQ.out.trans (if_pos (.inr (.inr (.inr g4)))))
    clear HQ
    obtain⟨s0,s1,s2,s3,s4⟩:=HFs2.out.cells
    have f0:=HFs2.out.fr 0
    have f1:=HFs2.out.fr 1
    have f2:=HFs2.out.fr 2
    have f3:=HFs2.out.fr 3
    have f4:=HFs2.out.fr 4
    go_wp2_with fail
    have F5:=put5_fb HFs2.out (.int .u8 0) (.int .u32 0) (.int .u8 0) (.slice none 0 0) (.int .i64 0)
    have Hb5:Below w.heap.size w (put5 w2 gs (.int .u8 0) (.int .u32 0) (.int .u8 0) (.slice none 0 0) (.int .i64 0)):=put5_below hb2 _ _ _ _ _ _ Hgs.out
    change bodyPost _ _ _ _ _ (put5 w2 gs (.int .u8 0) (.int .u32 0) (.int .u8 0) (.slice none 0 0) (.int .i64 0))
    generalize put5 w2 gs (.int .u8 0) (.int .u32 0) (.int .u8 0) (.slice none 0 0) (.int .i64 0)=WW at F5 Hb5 ⊢
    obtain⟨v0,v1,v2,v3,v4⟩:=F5.cells
    refine bodyPost_ret (v:= .tuple #[opv 0 0 0 none 0 0 0,.int .i64 0,.int .i64 8]) (by simp [results,Tryz.results186,go_sem,v0,v1,v2,v3,v4]) rfl ?_
    exact⟨none,0,by rw [Hno.out];rfl,by rw [Hno.out];exact World.ownsRow_nil _ _ _ _,Hb5⟩
   ·have HQ2:=hide (HQ.out.trans (if_neg (by omega)))
    obtain⟨m,rfl⟩:∃ m:Nat,mm=m:=⟨mm.toNat,by omega⟩
    have h3m:(3 * (m:Int)).toNat=3 * m:=by omega
    rw [h3m] at HQ2
    have hc3:((3 * m:Nat):Int)=3 * (m:Int):=by omega
    obtain⟨q2,hq2⟩:∃ q,numR (b.drop a1) (3 * m)=q:=⟨_,rfl⟩
    obtain⟨L2,a2,ok2⟩:=q2
    have hw64:IntKind.i64.wrap (3 * (m:Int))=3 * (m:Int):=IntWalk.i64_in _ (by omega)
    have z1:(0:Int)≤a1:=by omega
    have z2:(a1:Int)≤n:=by omega
    have z3:(n:Int)≤c:=by omega
    have z4:(a1:Int)≤c:=by omega
    have HR2:=hide (fun (W:World) (h:Below w2.heap.size w2 W)=>show RB W W.heap.size A b from (RD.below HR.out (hb2.trans (h.mono hb2.size))).more (hb2.trans (h.mono hb2.size)).size)
    obtain⟨SA,SC,hSA⟩:∃ SA SC,(c=a1∧SA=A∧SC=0∨¬ c=a1∧SA=Option.map (fun x=>x.add a1) A∧SC=c - a1):=by
     by_cases h:c=a1
     ·exact⟨_,_,.inl ⟨h,rfl,rfl⟩⟩
     ·exact⟨_,_,.inr ⟨h,rfl,rfl⟩⟩
    have HSA:=hide hSA
    have N2:=hide (fun (W:World) (h:Below w2.heap.size w2 W)=>numbers_row SA (n - a1) SC (b.drop a1) (3 * m) W (by
     rcases HSA.out with⟨h1,rfl,rfl⟩ | ⟨h1,rfl,rfl⟩
     ·rw [List.drop_eq_nil_of_le (by rw [Hn.out];omega)]
      exact RD.nil_
     ·exact RB.rest (HR2.out W h) Hn.out i3 hc h1) (by rw [List.length_drop,Hn.out]) (by omega) (by rcases HSA.out with⟨h1,-,rfl⟩ | ⟨h1,-,rfl⟩ <;> omega) (by omega))
    rw [hq2,hc3] at N2
    have Hq2:=hide hq2
    have D1:=hide (fun (W:World) (h:Below w2.heap.size w2 W)=>keep_cell h hB5 d1)
    clear hSA hq2 h3m hc3
    go_wp2_with fail
    refine wp_region_claims ([.val (.slice A n c),.val (.int .i64 (a1:Int)),.val (.slice SA (n - a1) SC),.val (.slice (some ⟨b5,o5,none⟩) 2 c5),.val (.pointer (some ⟨b5,o5+1,none⟩)),.val (.int .i64 (m:Int)),.val (.int .i64 (3 * (m:Int))),.num L2 a2 ok2,.num L2 a2 ok2,.row L2,.val (.int .i64 (a2:Int)),.val (.bool ok2),.row L2,.val (.int .i64 (a2:Int)),.val (.bool ok2)].map Kq.say) (by kernel_rfl) 111 (by rfl) (by kernel_rfl) (kqs_mono _) ?_ ?_
    ·refine⟨?_,?_,?_,?_,?_,?_,?_,?_,?_,?_,?_,?_,?_,?_,?_,trivial⟩
     ·
      intro ρ w' hb hf hd
      have h0:ρ 0= .slice A n c:=hf 0 (by kernel_rfl)
      clear hf hd
      refine .inl ⟨rfl,opOK_step fun R hR=>?_⟩
      unfold opOK
      go_simp
      exact hR _ _ ⟨Below.refl _ _,rfl⟩
     ·
      intro ρ w' hb hf hd
      have h6:ρ 6= .int .i64 (a1:Int):=hf 6 (by kernel_rfl)
      clear hf hd
      refine .inl ⟨rfl,opOK_step fun R hR=>?_⟩
      unfold opOK
      go_simp
      exact hR _ _ ⟨Below.refl _ _,rfl⟩
     ·
      intro ρ w' hb hf hd
      have h48:ρ 48=(.slice A n c):=hd 0 (by kernel_rfl)
      have h49:ρ 49=(.int .i64 (a1:Int)):=hd 1 (by kernel_rfl)
      clear hf hd
      refine .inl ⟨rfl,opOK_step fun R hR=>?_⟩
      rcases HSA.out with⟨hca,hA',hC'⟩ | ⟨hca,hA',hC'⟩
      all_goals
       unfold opOK
       go_simp
       exact hR _ _ ⟨Below.refl _ _,by rw [hA',hC'];rfl⟩
     ·
      intro ρ w' hb hf hd
      have h5:ρ 5= .slice (some ⟨b5,o5,none⟩) 2 c5:=hf 5 (by kernel_rfl)
      clear hf hd
      refine .inl ⟨rfl,opOK_step fun R hR=>?_⟩
      unfold opOK
      go_simp
      exact hR _ _ ⟨Below.refl _ _,rfl⟩
     ·
      intro ρ w' hb hf hd
      have h51:ρ 51=(.slice (some ⟨b5,o5,none⟩) 2 c5):=hd 3 (by kernel_rfl)
      clear hf hd
      refine .inl ⟨rfl,opOK_step fun R hR=>?_⟩
      unfold opOK
      go_simp
      exact hR _ _ ⟨Below.refl _ _,rfl⟩
     ·
      intro ρ w' hb hf hd
      have h52:ρ 52=(.pointer (some ⟨b5,o5+1,none⟩)):=hd 4 (by kernel_rfl)
      clear hf hd
      refine .inl ⟨rfl,opOK_step fun R hR=>?_⟩
      have y:=D1.out w' hb
      unfold opOK
      go_simp
      exact hR _ _ ⟨Below.refl _ _,rfl⟩
     ·
      intro ρ w' hb hf hd
      have h53:ρ 53=(.int .i64 (m:Int)):=hd 5 (by kernel_rfl)
      clear hf hd
      refine .inl ⟨rfl,opOK_step fun R hR=>?_⟩
      unfold opOK
      go_simp
      exact hR _ _ ⟨Below.refl _ _,rfl⟩
     ·
      intro ρ w' hb hf hd
      have h50:ρ 50=(.slice SA (n - a1) SC):=hd 2 (by kernel_rfl)
      have h54:ρ 54=(.int .i64 (3 * (m:Int))):=hd 6 (by kernel_rfl)
      clear hf hd
      refine .inl ⟨rfl,opOK_step fun R hR=>?_⟩
      unfold opOK
      go_simp
      exact (unhide N2 w' hb).mono fun e w3 ⟨A',c',he,hr,hb3⟩=>⟨_,he,hR _ _ ⟨hb3,A',c',rfl,hr⟩⟩
     ·
      intro ρ w' hb hf hd
      have h55:(Kq.num L2 a2 ok2).say (ρ 55) w':=hd 7 (by kernel_rfl)
      clear hf hd
      refine .inl ⟨rfl,opOK_step fun R hR=>?_⟩
      obtain⟨A',c',hv,hrn⟩:=h55
      change ρ 55= .tuple #[.slice A' L2.length c',.int .i64 (a2:Int),.bool ok2] at hv
      unfold opOK
      go_simp
      exact hR _ _ ⟨Below.refl _ _,A',c',rfl,hrn⟩
     ·
      intro ρ w' hb hf hd
      have h47:(Kq.num L2 a2 ok2).say (ρ 47) w':=hd 8 (by kernel_rfl)
      clear hf hd
      refine .inl ⟨rfl,opOK_step fun R hR=>?_⟩
      obtain⟨A',c',hv,hrn⟩:=h47
      change ρ 47= .tuple #[.slice A' L2.length c',.int .i64 (a2:Int),.bool ok2] at hv
      unfold opOK
      go_simp
      exact hR _ _ ⟨Below.refl _ _,A',c',rfl,hrn⟩
     ·
      intro ρ w' hb hf hd
      have h47:(Kq.num L2 a2 ok2).say (ρ 47) w':=hd 8 (by kernel_rfl)
      clear hf hd
      refine .inl ⟨rfl,opOK_step fun R hR=>?_⟩
      obtain⟨A',c',hv,-⟩:=h47
      change ρ 47= .tuple #[.slice A' L2.length c',.int .i64 (a2:Int),.bool ok2] at hv
      unfold opOK
      go_simp
      exact hR _ _ ⟨Below.refl _ _,rfl⟩
     ·
      intro ρ w' hb hf hd
      have h47:(Kq.num L2 a2 ok2).say (ρ 47) w':=hd 8 (by kernel_rfl)
      clear hf hd
      refine .inl ⟨rfl,opOK_step fun R hR=>?_⟩
      obtain⟨A',c',hv,-⟩:=h47
      change ρ 47= .tuple #[.slice A' L2.length c',.int .i64 (a2:Int),.bool ok2] at hv
      unfold opOK
      go_simp
      exact hR _ _ ⟨Below.refl _ _,rfl⟩
     ·
      intro ρ w' hb hf hd
      have h56:(Kq.row L2).say (ρ 56) w':=hd 9 (by kernel_rfl)
      clear hf hd
      refine .inl ⟨rfl,opOK_step fun R hR=>?_⟩
      obtain⟨A',c',hv,hrn⟩:=h56
      change ρ 56= .slice A' L2.length c' at hv
      unfold opOK
      go_simp
      exact hR _ _ ⟨Below.refl _ _,A',c',rfl,hrn⟩
     ·
      intro ρ w' hb hf hd
      have h57:ρ 57=(.int .i64 (a2:Int)):=hd 10 (by kernel_rfl)
      clear hf hd
      refine .inl ⟨rfl,opOK_step fun R hR=>?_⟩
      unfold opOK
      go_simp
      exact hR _ _ ⟨Below.refl _ _,rfl⟩
     ·
      intro ρ w' hb hf hd
      have h58:ρ 58=(.bool ok2):=hd 11 (by kernel_rfl)
      clear hf hd
      refine .inl ⟨rfl,opOK_step fun R hR=>?_⟩
      unfold opOK
      go_simp
      exact hR _ _ ⟨Below.refl _ _,rfl⟩
    ·intro a' w3 hb3' hdf hsz hf hd
     have hb3:Below w.heap.size w w3:=hb2.trans (hb3'.mono hb2.size)
     have HFs3:=hide (HFs2.out.below hb3')
     obtain⟨A8,c8,h8,hr8⟩:∃ A8 c8,slotsOf a' 8= .slice A8 L2.length c8∧RN w3 w3.heap.size A8 L2:=hd 12 (by decide)
     have h9:slotsOf a' 9= .int .i64 (a2:Int):=hd 13 (by decide)
     have h7:slotsOf a' 7= .bool ok2:=hd 14 (by decide)
     have h0:slotsOf a' 0= .slice A n c:=hf 0 (by kernel_rfl)
     have h2:slotsOf a' 2= .pointer (some ⟨gs,0,none⟩):=hf 2 (by kernel_rfl)
     have h5:slotsOf a' 5= .slice (some ⟨b5,o5,none⟩) 2 c5:=hf 5 (by kernel_rfl)
     have h6:slotsOf a' 6= .int .i64 (a1:Int):=hf 6 (by kernel_rfl)
     have d0':=keep_cell hb3' hB5 d0
     have hB53:=Nat.lt_of_lt_of_le hB5 hb3'.size
     have HR8:=hide hr8
     clear hr8 N2 D1 HSA HR2 d0 d1 hB5 hb2 HFs2
     obtain⟨T,D⟩:=a'
     have hD:D= []:=hdf
     subst hD
     obtain⟨f,hT,hff⟩:∃ f:Nat→Value,T=((List.range 111).map f).toArray∧slotsOf ⟨T, []⟩=f:=⟨_,arr_list T 111 hsz,rfl⟩
     rw [hff] at h0 h2 h5 h6 h7 h8 h9
     clear hff hsz hf hd hdf
     simp only [List.range,List.range.loop,List.map] at hT
     subst hT
     rw [h0,h2,h5,h6,h7,h8,h9]
     clear h0 h2 h5 h6 h7 h8 h9
     cases ok2 with
     | false=>
       have Hno:=hide (show getQ b=none by rw [HQ2.out,numR_false Hq2.out];rfl)
       clear HQ2 Hq2
       obtain⟨s0,s1,s2,s3,s4⟩:=HFs3.out.cells
       have f0:=HFs3.out.fr 0
       have f1:=HFs3.out.fr 1
       have f2:=HFs3.out.fr 2
       have f3:=HFs3.out.fr 3
       have f4:=HFs3.out.fr 4
       go_wp2_with fail
       have F5:=put5_fb HFs3.out (.int .u8 0) (.int .u32 0) (.int .u8 0) (.slice none 0 0) (.int .i64 0)
       have Hb5:Below w.heap.size w (put5 w3 gs (.int .u8 0) (.int .u32 0) (.int .u8 0) (.slice none 0 0) (.int .i64 0)):=put5_below hb3 _ _ _ _ _ _ Hgs.out
       change bodyPost _ _ _ _ _ (put5 w3 gs (.int .u8 0) (.int .u32 0) (.int .u8 0) (.slice none 0 0) (.int .i64 0))
       generalize put5 w3 gs (.int .u8 0) (.int .u32 0) (.int .u8 0) (.slice none 0 0) (.int .i64 0)=WW at F5 Hb5 ⊢
       obtain⟨v0,v1,v2,v3,v4⟩:=F5.cells
       refine bodyPost_ret (v:= .tuple #[opv 0 0 0 none 0 0 0,.int .i64 0,.int .i64 8]) (by simp [results,Tryz.results186,go_sem,v0,v1,v2,v3,v4]) rfl ?_
       exact⟨none,0,by rw [Hno.out];rfl,by rw [Hno.out];exact World.ownsRow_nil _ _ _ _,Hb5⟩
     | true=>
       have hq3:rdN (b.drop a1) (3 * m) 0=some (L2,a2):=numR_true Hq2.out
       have HQ3:=hide (by
        have:=HQ2.out
        rw [hq3] at this
        simpa only [Option.bind_some] using this)
       obtain⟨-,-,j3,j4,j5⟩:=rdN_inv (3 * m) 0 [] L2 a2 (Nat.zero_le _) (by simp [nbs]) hq3
       rw [List.length_drop,Hn.out] at j3
       have HJ:=hide (And.intro j4 j5)
       obtain⟨ab,hab⟩:∃ x,x=a1+a2:=⟨_,rfl⟩
       have hab':(a1:Int)+(a2:Int)=(ab:Int):=by omega
       have habn:ab≤n:=by omega
       have Hab:=hide hab
       have y1:(0:Int)≤ab:=by omega
       have y2:(ab:Int)≤n:=by omega
       have y4:(ab:Int)≤c:=by omega
       have y5:IntKind.i64.wrap (ab:Int)=ab:=IntWalk.i64_in _ (by omega)
       clear HQ2 Hq2 hq3 j3 j4 j5 hab hw64
       have HR3:=hide (fun (W:World) (h:Below w3.heap.size w3 W)=>show RB W W.heap.size A b from (RD.below HR.out (hb3.trans (h.mono hb3.size))).more (hb3.trans (h.mono hb3.size)).size)
       obtain⟨q3,hq3⟩:∃ q,numR (b.drop ab) (behindN kk)=q:=⟨_,rfl⟩
       obtain⟨L3,a3,ok3⟩:=q3
       obtain⟨SA,SC,hSA⟩:∃ SA SC,(c=ab∧SA=A∧SC=0∨¬ c=ab∧SA=Option.map (fun x=>x.add ab) A∧SC=c - ab):=by
        by_cases h:c=ab
        ·exact⟨_,_,.inl ⟨h,rfl,rfl⟩⟩
        ·exact⟨_,_,.inr ⟨h,rfl,rfl⟩⟩
       have HSA:=hide hSA
       have hbeh:=behind_le kk
       have N3:=hide (fun (W:World) (h:Below w3.heap.size w3 W)=>numbers_row SA (n - ab) SC (b.drop ab) (behindN kk) W (by
        rcases HSA.out with⟨h1,rfl,rfl⟩ | ⟨h1,rfl,rfl⟩
        ·rw [List.drop_eq_nil_of_le (by rw [Hn.out];omega)]
         exact RD.nil_
        ·exact RB.rest (HR3.out W h) Hn.out habn hc h1) (by rw [List.length_drop,Hn.out]) (by omega) (by rcases HSA.out with⟨h1,-,rfl⟩ | ⟨h1,-,rfl⟩ <;> omega) (by omega))
       rw [hq3] at N3
       have Hq3:=hide hq3
       have BH:=hide (fun W=>behind_ok kk W)
       obtain⟨bhk,hbhk⟩:∃ x,x=behindN kk:=⟨_,rfl⟩
       rw [←hbhk] at BH N3 Hq3
       have Hbhk:=hide hbhk
       have D0:=hide (fun (W:World) (h:Below w3.heap.size w3 W)=>keep_cell h hB53 d0')
       clear hSA hq3 hbeh hbhk d0'
       go_wp2_with fail
       refine wp_region_claims ([.val (.slice A n c),.val (.int .i64 (a1:Int)),.val (.int .i64 (a2:Int)),.val (.int .i64 (ab:Int)),.val (.slice SA (n - ab) SC),.val (.slice (some ⟨b5,o5,none⟩) 2 c5),.val (.pointer (some ⟨b5,o5,none⟩)),.val (.int .i64 kk),.val (.int .i64 (bhk:Int)),.num L3 a3 ok3,.num L3 a3 ok3,.row L3,.val (.int .i64 (a3:Int)),.val (.bool ok3),.row L3,.val (.int .i64 (a3:Int)),.val (.bool ok3)].map Kq.say) (by kernel_rfl) 111 (by rfl) (by kernel_rfl) (kqs_mono _) ?_ ?_
       ·refine⟨?_,?_,?_,?_,?_,?_,?_,?_,?_,?_,?_,?_,?_,?_,?_,?_,?_,trivial⟩
        ·
         intro ρ w' hb hf hd
         have h0:ρ 0= .slice A n c:=hf 0 (by kernel_rfl)
         clear hf hd
         refine .inl ⟨rfl,opOK_step fun R hR=>?_⟩
         unfold opOK
         go_simp
         exact hR _ _ ⟨Below.refl _ _,rfl⟩
        ·
         intro ρ w' hb hf hd
         have h6:ρ 6= .int .i64 (a1:Int):=hf 6 (by kernel_rfl)
         clear hf hd
         refine .inl ⟨rfl,opOK_step fun R hR=>?_⟩
         unfold opOK
         go_simp
         exact hR _ _ ⟨Below.refl _ _,rfl⟩
        ·
         intro ρ w' hb hf hd
         have h9:ρ 9= .int .i64 (a2:Int):=hf 9 (by kernel_rfl)
         clear hf hd
         refine .inl ⟨rfl,opOK_step fun R hR=>?_⟩
         unfold opOK
         go_simp
         exact hR _ _ ⟨Below.refl _ _,rfl⟩
        ·
         intro ρ w' hb hf hd
         have h64:ρ 64=(.int .i64 (a1:Int)):=hd 1 (by kernel_rfl)
         have h65:ρ 65=(.int .i64 (a2:Int)):=hd 2 (by kernel_rfl)
         clear hf hd
         refine .inl ⟨rfl,opOK_step fun R hR=>?_⟩
         unfold opOK
         go_simp
         exact hR _ _ ⟨Below.refl _ _,by first | rfl | (rw [hab'];rfl)⟩
        ·
         intro ρ w' hb hf hd
         have h63:ρ 63=(.slice A n c):=hd 0 (by kernel_rfl)
         have h66:ρ 66=(.int .i64 (ab:Int)):=hd 3 (by kernel_rfl)
         clear hf hd
         refine .inl ⟨rfl,opOK_step fun R hR=>?_⟩
         rcases HSA.out with⟨hca,hA',hC'⟩ | ⟨hca,hA',hC'⟩
         all_goals
          unfold opOK
          go_simp
          exact hR _ _ ⟨Below.refl _ _,by rw [hA',hC'];rfl⟩
        ·
         intro ρ w' hb hf hd
         have h5:ρ 5= .slice (some ⟨b5,o5,none⟩) 2 c5:=hf 5 (by kernel_rfl)
         clear hf hd
         refine .inl ⟨rfl,opOK_step fun R hR=>?_⟩
         unfold opOK
         go_simp
         exact hR _ _ ⟨Below.refl _ _,rfl⟩
        ·
         intro ρ w' hb hf hd
         have h68:ρ 68=(.slice (some ⟨b5,o5,none⟩) 2 c5):=hd 5 (by kernel_rfl)
         clear hf hd
         refine .inl ⟨rfl,opOK_step fun R hR=>?_⟩
         unfold opOK
         go_simp
         exact hR _ _ ⟨Below.refl _ _,rfl⟩
        ·
         intro ρ w' hb hf hd
         have h69:ρ 69=(.pointer (some ⟨b5,o5,none⟩)):=hd 6 (by kernel_rfl)
         clear hf hd
         refine .inl ⟨rfl,opOK_step fun R hR=>?_⟩
         have y:=D0.out w' hb
         unfold opOK
         go_simp
         exact hR _ _ ⟨Below.refl _ _,rfl⟩
        ·
         intro ρ w' hb hf hd
         have h70:ρ 70=(.int .i64 kk):=hd 7 (by kernel_rfl)
         clear hf hd
         refine .inl ⟨rfl,opOK_step fun R hR=>?_⟩
         unfold opOK
         go_simp
         exact (unhide BH w').mono fun e w3 ⟨he,hb3⟩=>⟨_,he,hR _ _ ⟨hb3 ▸ Below.refl _ _,rfl⟩⟩
        ·
         intro ρ w' hb hf hd
         have h67:ρ 67=(.slice SA (n - ab) SC):=hd 4 (by kernel_rfl)
         have h71:ρ 71=(.int .i64 (bhk:Int)):=hd 8 (by kernel_rfl)
         clear hf hd
         refine .inl ⟨rfl,opOK_step fun R hR=>?_⟩
         unfold opOK
         go_simp
         exact (unhide N3 w' hb).mono fun e w3 ⟨A',c',he,hr,hb3⟩=>⟨_,he,hR _ _ ⟨hb3,A',c',rfl,hr⟩⟩
        ·
         intro ρ w' hb hf hd
         have h72:(Kq.num L3 a3 ok3).say (ρ 72) w':=hd 9 (by kernel_rfl)
         clear hf hd
         refine .inl ⟨rfl,opOK_step fun R hR=>?_⟩
         obtain⟨A',c',hv,hrn⟩:=h72
         change ρ 72= .tuple #[.slice A' L3.length c',.int .i64 (a3:Int),.bool ok3] at hv
         unfold opOK
         go_simp
         exact hR _ _ ⟨Below.refl _ _,A',c',rfl,hrn⟩
        ·
         intro ρ w' hb hf hd
         have h62:(Kq.num L3 a3 ok3).say (ρ 62) w':=hd 10 (by kernel_rfl)
         clear hf hd
         refine .inl ⟨rfl,opOK_step fun R hR=>?_⟩
         obtain⟨A',c',hv,hrn⟩:=h62
         change ρ 62= .tuple #[.slice A' L3.length c',.int .i64 (a3:Int),.bool ok3] at hv
         unfold opOK
         go_simp
         exact hR _ _ ⟨Below.refl _ _,A',c',rfl,hrn⟩
        ·
         intro ρ w' hb hf hd
         have h62:(Kq.num L3 a3 ok3).say (ρ 62) w':=hd 10 (by kernel_rfl)
         clear hf hd
         refine .inl ⟨rfl,opOK_step fun R hR=>?_⟩
         obtain⟨A',c',hv,-⟩:=h62
         change ρ 62= .tuple #[.slice A' L3.length c',.int .i64 (a3:Int),.bool ok3] at hv
         unfold opOK
         go_simp
         exact hR _ _ ⟨Below.refl _ _,rfl⟩
        ·
         intro ρ w' hb hf hd
         have h62:(Kq.num L3 a3 ok3).say (ρ 62) w':=hd 10 (by kernel_rfl)
         clear hf hd
         refine .inl ⟨rfl,opOK_step fun R hR=>?_⟩
         obtain⟨A',c',hv,-⟩:=h62
         change ρ 62= .tuple #[.slice A' L3.length c',.int .i64 (a3:Int),.bool ok3] at hv
         unfold opOK
         go_simp
         exact hR _ _ ⟨Below.refl _ _,rfl⟩
        ·
         intro ρ w' hb hf hd
         have h73:(Kq.row L3).say (ρ 73) w':=hd 11 (by kernel_rfl)
         clear hf hd
         refine .inl ⟨rfl,opOK_step fun R hR=>?_⟩
         obtain⟨A',c',hv,hrn⟩:=h73
         change ρ 73= .slice A' L3.length c' at hv
         unfold opOK
         go_simp
         exact hR _ _ ⟨Below.refl _ _,A',c',rfl,hrn⟩
        ·
         intro ρ w' hb hf hd
         have h74:ρ 74=(.int .i64 (a3:Int)):=hd 12 (by kernel_rfl)
         clear hf hd
         refine .inl ⟨rfl,opOK_step fun R hR=>?_⟩
         unfold opOK
         go_simp
         exact hR _ _ ⟨Below.refl _ _,rfl⟩
        ·
         intro ρ w' hb hf hd
         have h75:ρ 75=(.bool ok3):=hd 13 (by kernel_rfl)
         clear hf hd
         refine .inl ⟨rfl,opOK_step fun R hR=>?_⟩
         unfold opOK
         go_simp
         exact hR _ _ ⟨Below.refl _ _,rfl⟩
       ·intro a' w4 hb4' hdf hsz hf hd
        have hb4:Below w.heap.size w w4:=hb3.trans (hb4'.mono hb3.size)
        have HFs4:=hide (HFs3.out.below hb4')
        obtain⟨A10,c10,h10,hr10⟩:∃ A10 c10,slotsOf a' 10= .slice A10 L3.length c10∧RN w4 w4.heap.size A10 L3:=hd 14 (by decide)
        have h11:slotsOf a' 11= .int .i64 (a3:Int):=hd 15 (by decide)
        have h7:slotsOf a' 7= .bool ok3:=hd 16 (by decide)
        have h0:slotsOf a' 0= .slice A n c:=hf 0 (by kernel_rfl)
        have h2:slotsOf a' 2= .pointer (some ⟨gs,0,none⟩):=hf 2 (by kernel_rfl)
        have h5:slotsOf a' 5= .slice (some ⟨b5,o5,none⟩) 2 c5:=hf 5 (by kernel_rfl)
        have h6:slotsOf a' 6= .int .i64 (a1:Int):=hf 6 (by kernel_rfl)
        have h8:slotsOf a' 8= .slice A8 L2.length c8:=hf 8 (by kernel_rfl)
        have h9:slotsOf a' 9= .int .i64 (a2:Int):=hf 9 (by kernel_rfl)
        have d0:=D0.out w4 hb4'
        have hB54:=Nat.lt_of_lt_of_le hB53 hb4'.size
        have HR84:=hide (show RN w4 w4.heap.size A8 L2 from (RD.below HR8.out hb4').more hb4'.size)
        have HR10:=hide hr10
        clear hr10 N3 D0 HSA HR3 HR8 hB53 hb3 HFs3 hb3' hb4' BH
        obtain⟨T,D⟩:=a'
        have hD:D= []:=hdf
        subst hD
        obtain⟨f,hT,hff⟩:∃ f:Nat→Value,T=((List.range 111).map f).toArray∧slotsOf ⟨T, []⟩=f:=⟨_,arr_list T 111 hsz,rfl⟩
        rw [hff] at h0 h2 h5 h6 h7 h8 h9 h10 h11
        clear hff hsz hf hd hdf
        simp only [List.range,List.range.loop,List.map] at hT
        subst hT
        rw [h0,h2,h5,h6,h7,h8,h9,h10,h11]
        clear h0 h2 h5 h6 h7 h8 h9 h10 h11
        cases ok3 with
        | false=>
          have Hno:=hide (show getQ b=none by rw [HQ3.out,←Hab.out,←Hbhk.out,numR_false Hq3.out];rfl)
          clear HQ3 Hq3 d0
          obtain⟨s0,s1,s2,s3,s4⟩:=HFs4.out.cells
          have f0:=HFs4.out.fr 0
          have f1:=HFs4.out.fr 1
          have f2:=HFs4.out.fr 2
          have f3:=HFs4.out.fr 3
          have f4:=HFs4.out.fr 4
          go_wp2_with fail
          have F5:=put5_fb HFs4.out (.int .u8 0) (.int .u32 0) (.int .u8 0) (.slice none 0 0) (.int .i64 0)
          have Hb5:Below w.heap.size w (put5 w4 gs (.int .u8 0) (.int .u32 0) (.int .u8 0) (.slice none 0 0) (.int .i64 0)):=put5_below hb4 _ _ _ _ _ _ Hgs.out
          change bodyPost _ _ _ _ _ (put5 w4 gs (.int .u8 0) (.int .u32 0) (.int .u8 0) (.slice none 0 0) (.int .i64 0))
          generalize put5 w4 gs (.int .u8 0) (.int .u32 0) (.int .u8 0) (.slice none 0 0) (.int .i64 0)=WW at F5 Hb5 ⊢
          obtain⟨v0,v1,v2,v3,v4⟩:=F5.cells
          refine bodyPost_ret (v:= .tuple #[opv 0 0 0 none 0 0 0,.int .i64 0,.int .i64 8]) (by simp [results,Tryz.results186,go_sem,v0,v1,v2,v3,v4]) rfl ?_
          exact⟨none,0,by rw [Hno.out];rfl,by rw [Hno.out];exact World.ownsRow_nil _ _ _ _,Hb5⟩
        | true=>
          have hq4:=numR_true Hq3.out
          have HQ4:=hide (by
           have:=HQ3.out
           rw [←Hab.out,←Hbhk.out,hq4] at this
           simpa only [Option.bind_some] using this)
          obtain⟨-,-,l3,l4,l5⟩:=rdN_inv bhk 0 [] L3 a3 (Nat.zero_le _) (by simp [nbs]) hq4
          rw [List.length_drop,Hn.out] at l3
          have HJ3:=hide (And.intro (show L3.length=behindN kk by rw [l4,Hbhk.out]) l5)
          obtain⟨nn,hnn⟩:∃ x,x=ab+a3:=⟨_,rfl⟩
          have hnn':(ab:Int)+(a3:Int)=(nn:Int):=by omega
          have hnnn:nn≤n:=by omega
          have Hnn:=hide hnn
          clear HQ3 Hq3 hq4 l3 l4 l5 hnn
          have FT:=hide (fits_any A8 L2.length c8 m L2 w4 HR84.out rfl HJ.out.1 (by omega) (by omega) HJ.out.2)
          go_wp2_with fail
          refine FT.out.mono ?_
          rintro e w5 ⟨rfl,hb5'⟩
          have hb5:Below w.heap.size w w5:=hb4.trans (hb5'.mono hb4.size)
          have HFs5:=hide (HFs4.out.below hb5')
          have d05:=keep_cell hb5' hB54 d0
          have HR85:=hide (show RN w5 w5.heap.size A8 L2 from (RD.below HR84.out hb5').more hb5'.size)
          have HR105:=hide (show RN w5 w5.heap.size A10 L3 from (RD.below HR10.out hb5').more hb5'.size)
          clear d0 HFs4 HR84 HR10 FT
          by_cases hfit:fitsR 0 L2
          rotate_left
          ·have Hno:=hide (HQ4.out.trans (if_neg hfit))
           rw [decide_eq_false hfit]
           clear HQ4 hfit d05
           obtain⟨s0,s1,s2,s3,s4⟩:=HFs5.out.cells
           have f0:=HFs5.out.fr 0
           have f1:=HFs5.out.fr 1
           have f2:=HFs5.out.fr 2
           have f3:=HFs5.out.fr 3
           have f4:=HFs5.out.fr 4
           go_wp2_with fail
           have F5:=put5_fb HFs5.out (.int .u8 0) (.int .u32 0) (.int .u8 0) (.slice none 0 0) (.int .i64 0)
           have Hb5:Below w.heap.size w (put5 w5 gs (.int .u8 0) (.int .u32 0) (.int .u8 0) (.slice none 0 0) (.int .i64 0)):=put5_below hb5 _ _ _ _ _ _ Hgs.out
           change bodyPost _ _ _ _ _ (put5 w5 gs (.int .u8 0) (.int .u32 0) (.int .u8 0) (.slice none 0 0) (.int .i64 0))
           generalize put5 w5 gs (.int .u8 0) (.int .u32 0) (.int .u8 0) (.slice none 0 0) (.int .i64 0)=WW at F5 Hb5 ⊢
           obtain⟨v0,v1,v2,v3,v4⟩:=F5.cells
           refine bodyPost_ret (v:= .tuple #[opv 0 0 0 none 0 0 0,.int .i64 0,.int .i64 8]) (by simp [results,Tryz.results186,go_sem,v0,v1,v2,v3,v4]) rfl ?_
           exact⟨none,0,by rw [Hno.out];rfl,by rw [Hno.out];exact World.ownsRow_nil _ _ _ _,Hb5⟩
          rw [decide_eq_true hfit]
          have HQ5:=hide (HQ4.out.trans (if_pos hfit))
          have WH:=hide (whole_ok kk A8 A10 L2.length c8 c10 m L2 L3 w5 HR85.out rfl HJ.out.1 (by omega) (by omega) HJ.out.2 hfit HR105.out HJ3.out.1 HJ3.out.2 (by omega) (by omega))
          have HPok:=hide (fits_ok L2 0 (Int.le_refl _) (fun x hx=>(HJ.out.2 x hx).1) hfit)
          have hRnn:0≤(wholeO kk L2 L3).2.2.1∨¬ mayR (toRuns 0 L2):=by
           by_cases hm:mayR (toRuns 0 L2)
           ·left
            unfold wholeO
            simp only
            split
            ·omega
            ·have hne:toRuns 0 L2≠ []:=fun e=>by have:=hm.1;simp [e] at this
             have hmem:(toRuns 0 L2).getLastD (0,0,0)∈toRuns 0 L2:=by
              rw [List.getLastD_eq_getLast?,List.getLast?_eq_some_getLast hne]
              exact List.getLast_mem hne
             have:=HPok.out _ hmem
             unfold okR at this
             omega
           ·exact .inr hm
          have hP:(wholeO kk L2 L3).2.2.2.1=toRuns 0 L2:=rfl
          obtain⟨q5,hq5⟩:∃ q,wholeO kk L2 L3=q:=⟨_,rfl⟩
          obtain⟨K,TT,R,P,Z⟩:=q5
          rw [hq5] at WH HQ5 hRnn hP
          simp only at WH HQ5 hRnn hP
          rw [←hP] at hRnn HPok
          have hRnn':=hide hRnn
          have Hnn2:=Hnn
          rw [←Hnn.out] at HQ5
          clear HQ4 hfit hq5 hP hRnn
          go_wp2_with fail
          refine WH.out.mono ?_
          rintro e w6 ⟨A12,c12,rfl,hown12,hb6'⟩
          have hb6:=fresh hb5 hb6'
          have HFs6:=hide (HFs5.out.below hb6')
          have hr12:=RR.of_own hown12 rfl
          obtain⟨w7,hw7,F7,hs7,hb7'⟩:=five_fb w6 (.int .u8 K) (.int .u32 TT) (.int .u8 R) (.slice A12 P.length c12) (.int .i64 Z)
          have hb7:=fresh hb6 hb7'
          have HFs7:=hide (HFs6.out.below hb7')
          have HF7:=hide F7
          have HR12:=hide (RR.below' hr12 hb7')
          have HO12:=hide (own_base (own_below hown12 hb7' (Nat.le_refl _)) hb5.size)
          obtain⟨go,hgo⟩:∃ g,g=w6.heap.size:=⟨_,rfl⟩
          have Hgo:=hide hgo
          rw [←hgo] at HF7
          have x1:(0:Int)≤nn:=by omega
          have x2:(nn:Int)≤n:=by omega
          have x4:(nn:Int)≤c:=by omega
          have x5:IntKind.i64.wrap (nn:Int)=nn:=IntWalk.i64_in _ (by omega)
          have HM:=hide (fun (W:World) (h:Below w7.heap.size w7 W)=>refmayo_any K TT R Z A12 P.length c12 P W (RR.below' HR12.out h) rfl HPok.out)
          have HRb:=hide (fun (W:World) (h:Below w7.heap.size w7 W)=>RB.opening (show RB W W.heap.size A b from (RD.below HR.out (hb7.trans (h.mono hb7.size))).more (hb7.trans (h.mono hb7.size)).size) nn (by rw [Hn.out];exact hnnn))
          have hlt9:(b.take nn).length=nn:=by rw [List.length_take,Hn.out];omega
          have Hlt9:=hide hlt9
          clear d05 HFs5 HFs6 hown12 hr12 F7 WH HR85 HR105 hb6' hlt9 hgo
          go_wp2_with fail
          rw [←Hgo.out]
          clear hw7
          by_cases hmay:mayO K TT R P Z
          rotate_left
          ·have Hno:=hide (HQ5.out.trans (if_neg fun h=>hmay h.1))
           have hdm:=decide_eq_false hmay
           have Hdm:=hide hdm
           clear HQ5 hdm hmay
           refine wp_region_claims ([.val (opv K TT R A12 P.length c12 Z),.val (.bool false),.val (.bool true),.val (.bool true),.val (undef),.val (undef),.val (undef),.val (undef),.val (undef),.val (undef),.val (undef),.val (undef),.val (.bool true)].map Kq.say) (by kernel_rfl) 111 (by rfl) (by kernel_rfl) (kqs_mono _) ?_ ?_
           ·refine⟨?_,?_,?_,?_,?_,?_,?_,?_,?_,?_,?_,?_,?_,trivial⟩
            ·
             intro ρ w' hb hf hd
             have h12:ρ 12= .pointer (some ⟨go,0,none⟩):=hf 12 (by kernel_rfl)
             clear hf hd
             refine .inl ⟨rfl,opOK_step fun R hR=>?_⟩
             obtain⟨y0,y1',y2',y3,y4'⟩:=(HF7.out.below hb).cells
             unfold opOK
             go_simp
             exact hR _ _ ⟨Below.refl _ _,rfl⟩
            ·
             intro ρ w' hb hf hd
             have h95:ρ 95=(opv K TT R A12 P.length c12 Z):=hd 0 (by kernel_rfl)
             clear hf hd
             refine .inl ⟨rfl,opOK_step fun R hR=>?_⟩
             unfold opOK
             go_simp
             exact (unhide HM w' hb).mono fun e w3 ⟨he,hb3⟩=>⟨_,he,hR _ _ ⟨hb3,by rw [Hdm.out];rfl⟩⟩
            ·
             intro ρ w' hb hf hd
             have h96:ρ 96=(.bool false):=hd 1 (by kernel_rfl)
             clear hf hd
             refine .inl ⟨rfl,opOK_step fun R hR=>?_⟩
             unfold opOK
             go_simp
             exact hR _ _ ⟨Below.refl _ _,rfl⟩
            ·
             intro ρ w' hb hf hd
             have h97:ρ 97=(.bool true):=hd 2 (by kernel_rfl)
             clear hf hd
             refine .inl ⟨rfl,opOK_step fun R hR=>?_⟩
             unfold opOK
             go_simp
             exact hR _ _ ⟨Below.refl _ _,rfl⟩
            ·
             intro ρ w' hb hf hd
             have h12:ρ 12= .pointer (some ⟨go,0,none⟩):=hf 12 (by kernel_rfl)
             have h98:ρ 98=(.bool true):=hd 3 (by kernel_rfl)
             clear hf hd
             exact .inr ⟨ask_not rfl rfl h98,rfl⟩
            ·
             intro ρ w' hb hf hd
             have h98:ρ 98=(.bool true):=hd 3 (by kernel_rfl)
             have h99:ρ 99=(undef):=hd 4 (by kernel_rfl)
             clear hf hd
             exact .inr ⟨ask_not rfl rfl h98,rfl⟩
            ·
             intro ρ w' hb hf hd
             have h98:ρ 98=(.bool true):=hd 3 (by kernel_rfl)
             have h100:ρ 100=(undef):=hd 5 (by kernel_rfl)
             clear hf hd
             exact .inr ⟨ask_not rfl rfl h98,rfl⟩
            ·
             intro ρ w' hb hf hd
             have h0:ρ 0= .slice A n c:=hf 0 (by kernel_rfl)
             have h98:ρ 98=(.bool true):=hd 3 (by kernel_rfl)
             clear hf hd
             exact .inr ⟨ask_not rfl rfl h98,rfl⟩
            ·
             intro ρ w' hb hf hd
             have h13:ρ 13= .int .i64 (nn:Int):=hf 13 (by kernel_rfl)
             have h98:ρ 98=(.bool true):=hd 3 (by kernel_rfl)
             clear hf hd
             exact .inr ⟨ask_not rfl rfl h98,rfl⟩
            ·
             intro ρ w' hb hf hd
             have h98:ρ 98=(.bool true):=hd 3 (by kernel_rfl)
             have h102:ρ 102=(undef):=hd 7 (by kernel_rfl)
             have h103:ρ 103=(undef):=hd 8 (by kernel_rfl)
             clear hf hd
             exact .inr ⟨ask_not rfl rfl h98,rfl⟩
            ·
             intro ρ w' hb hf hd
             have h98:ρ 98=(.bool true):=hd 3 (by kernel_rfl)
             have h104:ρ 104=(undef):=hd 9 (by kernel_rfl)
             clear hf hd
             exact .inr ⟨ask_not rfl rfl h98,rfl⟩
            ·
             intro ρ w' hb hf hd
             have h98:ρ 98=(.bool true):=hd 3 (by kernel_rfl)
             have h101:ρ 101=(undef):=hd 6 (by kernel_rfl)
             have h105:ρ 105=(undef):=hd 10 (by kernel_rfl)
             clear hf hd
             exact .inr ⟨ask_not rfl rfl h98,rfl⟩
            ·
             intro ρ w' hb hf hd
             have h98:ρ 98=(.bool true):=hd 3 (by kernel_rfl)
             have h106:ρ 106=(undef):=hd 11 (by kernel_rfl)
             clear hf hd
             refine .inl ⟨rfl,opOK_step fun R hR=>?_⟩
             unfold opOK
             go_simp
             exact hR _ _ ⟨Below.refl _ _,rfl⟩
           ·intro a' w8 hb8' hdf hsz hf hd
            have hb8:Below w.heap.size w w8:=hb7.trans (hb8'.mono hb7.size)
            have HFs8:=hide (HFs7.out.below hb8')
            have HF8:=hide (HF7.out.below hb8')
            have HO8:=hide (own_below HO12.out hb8' (Nat.le_refl _))
            have h107:slotsOf a' 107= .bool true:=hd 12 (by decide)
            have h2:slotsOf a' 2= .pointer (some ⟨gs,0,none⟩):=hf 2 (by kernel_rfl)
            have h12:slotsOf a' 12= .pointer (some ⟨go,0,none⟩):=hf 12 (by kernel_rfl)
            have h13:slotsOf a' 13= .int .i64 (nn:Int):=hf 13 (by kernel_rfl)
            clear HFs7 HF7 HO12 HM HRb HR12
            obtain⟨T,D⟩:=a'
            have hD:D= []:=hdf
            subst hD
            obtain⟨f,hT,hff⟩:∃ f:Nat→Value,T=((List.range 111).map f).toArray∧slotsOf ⟨T, []⟩=f:=⟨_,arr_list T 111 hsz,rfl⟩
            rw [hff] at h2 h12 h13 h107
            clear hff hsz hf hd hdf
            simp only [List.range,List.range.loop,List.map] at hT
            subst hT
            rw [h2,h12,h13,h107]
            clear h2 h12 h13 h107
            obtain⟨s0,s1,s2,s3,s4⟩:=HFs8.out.cells
            have f0:=HFs8.out.fr 0
            have f1:=HFs8.out.fr 1
            have f2:=HFs8.out.fr 2
            have f3:=HFs8.out.fr 3
            have f4:=HFs8.out.fr 4
            go_wp2_with fail
            have F5:=put5_fb HFs8.out (.int .u8 0) (.int .u32 0) (.int .u8 0) (.slice none 0 0) (.int .i64 0)
            have Hb5:Below w.heap.size w (put5 w8 gs (.int .u8 0) (.int .u32 0) (.int .u8 0) (.slice none 0 0) (.int .i64 0)):=put5_below hb8 _ _ _ _ _ _ Hgs.out
            change bodyPost _ _ _ _ _ (put5 w8 gs (.int .u8 0) (.int .u32 0) (.int .u8 0) (.slice none 0 0) (.int .i64 0))
            generalize put5 w8 gs (.int .u8 0) (.int .u32 0) (.int .u8 0) (.slice none 0 0) (.int .i64 0)=WW at F5 Hb5 ⊢
            obtain⟨v0,v1,v2,v3,v4⟩:=F5.cells
            refine bodyPost_ret (v:= .tuple #[opv 0 0 0 none 0 0 0,.int .i64 0,.int .i64 8]) (by simp [results,Tryz.results186,go_sem,v0,v1,v2,v3,v4]) rfl ?_
            exact⟨none,0,by rw [Hno.out];rfl,by rw [Hno.out];exact World.ownsRow_nil _ _ _ _,Hb5⟩
          have Hdm:=hide (decide_eq_true hmay)
          have hR0:0≤R:=hRnn'.out.resolve_right (fun h=>h hmay.2.1)
          have HB:=hide (fun (W:World) (h:Below w7.heap.size w7 W)=>crefbytes_ok K TT R Z A12 P.length c12 P W (RR.below' HR12.out h) rfl HPok.out hmay ⟨by have:=hmay.1.1;simp only;omega,by have:=hmay.1.2.1;simp only;omega,hR0,by have:=hmay.1.2.2;simp only;omega⟩)
          have Hmay:=hide hmay
          obtain⟨X,hX⟩:∃ l,l=opB K TT R P Z:=⟨_,rfl⟩
          rw [←hX] at HB HQ5
          obtain⟨Y,hY⟩:∃ l,l=b.take nn:=⟨_,rfl⟩
          rw [←hY] at HRb HQ5 Hlt9
          clear hX hY hmay hR0
          by_cases heq:X=Y
          rotate_left
          ·have Hno:=hide (HQ5.out.trans (if_neg fun h=>heq h.2))
           replace heq:=hide heq
           clear HQ5
           refine wp_region_claims ([.val (opv K TT R A12 P.length c12 Z),.val (.bool true),.val (.bool false),.val (.bool false),.val (opv K TT R A12 P.length c12 Z),.byt X,.val (.string ⟨X.toArray⟩),.val (.slice A n c),.val (.int .i64 (nn:Int)),.val (.slice A nn c),.val (.string ⟨Y.toArray⟩),.val (.bool true),.val (.bool true)].map Kq.say) (by kernel_rfl) 111 (by rfl) (by kernel_rfl) (kqs_mono _) ?_ ?_
           ·refine⟨?_,?_,?_,?_,?_,?_,?_,?_,?_,?_,?_,?_,?_,trivial⟩
            ·
             intro ρ w' hb hf hd
             have h12:ρ 12= .pointer (some ⟨go,0,none⟩):=hf 12 (by kernel_rfl)
             clear hf hd
             refine .inl ⟨rfl,opOK_step fun R hR=>?_⟩
             obtain⟨y0,y1',y2',y3,y4'⟩:=(HF7.out.below hb).cells
             unfold opOK
             go_simp
             exact hR _ _ ⟨Below.refl _ _,rfl⟩
            ·
             intro ρ w' hb hf hd
             have h95:ρ 95=(opv K TT R A12 P.length c12 Z):=hd 0 (by kernel_rfl)
             clear hf hd
             refine .inl ⟨rfl,opOK_step fun R hR=>?_⟩
             unfold opOK
             go_simp
             exact (unhide HM w' hb).mono fun e w3 ⟨he,hb3⟩=>⟨_,he,hR _ _ ⟨hb3,by rw [Hdm.out];rfl⟩⟩
            ·
             intro ρ w' hb hf hd
             have h96:ρ 96=(.bool true):=hd 1 (by kernel_rfl)
             clear hf hd
             refine .inl ⟨rfl,opOK_step fun R hR=>?_⟩
             unfold opOK
             go_simp
             exact hR _ _ ⟨Below.refl _ _,rfl⟩
            ·
             intro ρ w' hb hf hd
             have h97:ρ 97=(.bool false):=hd 2 (by kernel_rfl)
             clear hf hd
             refine .inl ⟨rfl,opOK_step fun R hR=>?_⟩
             unfold opOK
             go_simp
             exact hR _ _ ⟨Below.refl _ _,rfl⟩
            ·
             intro ρ w' hb hf hd
             have h12:ρ 12= .pointer (some ⟨go,0,none⟩):=hf 12 (by kernel_rfl)
             have h98:ρ 98=(.bool false):=hd 3 (by kernel_rfl)
             clear hf hd
             refine .inl ⟨ask_of rfl rfl h98,opOK_step fun R hR=>?_⟩
             obtain⟨y0,y1',y2',y3,y4'⟩:=(HF7.out.below hb).cells
             unfold opOK
             go_simp
             exact hR _ _ ⟨Below.refl _ _,rfl⟩
            ·
             intro ρ w' hb hf hd
             have h98:ρ 98=(.bool false):=hd 3 (by kernel_rfl)
             have h99:ρ 99=(opv K TT R A12 P.length c12 Z):=hd 4 (by kernel_rfl)
             clear hf hd
             refine .inl ⟨ask_of rfl rfl h98,opOK_step fun R hR=>?_⟩
             unfold opOK
             go_simp
             exact (unhide HB w' hb).mono fun e w3 ⟨v,he,hown,hb3⟩=>by
              obtain⟨A',c',rfl,-,-,-⟩:=own_slice hown
              exact⟨_,he,hR _ _ ⟨hb3,A',c',rfl,RD.of_own hown⟩⟩
            ·
             intro ρ w' hb hf hd
             have h98:ρ 98=(.bool false):=hd 3 (by kernel_rfl)
             have h100:(Kq.byt X).say (ρ 100) w':=hd 5 (by kernel_rfl)
             clear hf hd
             refine .inl ⟨ask_of rfl rfl h98,opOK_step fun R hR=>?_⟩
             obtain⟨A',c',hv,hrb⟩:=h100
             change ρ 100= .slice A' X.length c' at hv
             have q:=conv_bytes (P:=Tryz.prog) hrb Tryz.underlying23 Tryz.underlying5 Tryz.underlying9 c'
             unfold opOK
             go_simp
             exact hR _ _ ⟨Below.refl _ _,rfl⟩
            ·
             intro ρ w' hb hf hd
             have h0:ρ 0= .slice A n c:=hf 0 (by kernel_rfl)
             have h98:ρ 98=(.bool false):=hd 3 (by kernel_rfl)
             clear hf hd
             refine .inl ⟨ask_of rfl rfl h98,opOK_step fun R hR=>?_⟩
             unfold opOK
             go_simp
             exact hR _ _ ⟨Below.refl _ _,rfl⟩
            ·
             intro ρ w' hb hf hd
             have h13:ρ 13= .int .i64 (nn:Int):=hf 13 (by kernel_rfl)
             have h98:ρ 98=(.bool false):=hd 3 (by kernel_rfl)
             clear hf hd
             refine .inl ⟨ask_of rfl rfl h98,opOK_step fun R hR=>?_⟩
             unfold opOK
             go_simp
             exact hR _ _ ⟨Below.refl _ _,rfl⟩
            ·
             intro ρ w' hb hf hd
             have h98:ρ 98=(.bool false):=hd 3 (by kernel_rfl)
             have h102:ρ 102=(.slice A n c):=hd 7 (by kernel_rfl)
             have h103:ρ 103=(.int .i64 (nn:Int)):=hd 8 (by kernel_rfl)
             clear hf hd
             refine .inl ⟨ask_of rfl rfl h98,opOK_step fun R hR=>?_⟩
             unfold opOK
             go_simp
             exact hR _ _ ⟨Below.refl _ _,rfl⟩
            ·
             intro ρ w' hb hf hd
             have h98:ρ 98=(.bool false):=hd 3 (by kernel_rfl)
             have h104:ρ 104=(.slice A nn c):=hd 9 (by kernel_rfl)
             clear hf hd
             refine .inl ⟨ask_of rfl rfl h98,opOK_step fun R hR=>?_⟩
             have q:=conv_bytes (P:=Tryz.prog) (HRb.out w' hb) Tryz.underlying23 Tryz.underlying5 Tryz.underlying9 c
             rw [Hlt9.out] at q
             unfold opOK
             go_simp
             exact hR _ _ ⟨Below.refl _ _,rfl⟩
            ·
             intro ρ w' hb hf hd
             have h98:ρ 98=(.bool false):=hd 3 (by kernel_rfl)
             have h101:ρ 101=(.string ⟨X.toArray⟩):=hd 6 (by kernel_rfl)
             have h105:ρ 105=(.string ⟨Y.toArray⟩):=hd 10 (by kernel_rfl)
             clear hf hd
             refine .inl ⟨ask_of rfl rfl h98,opOK_step fun R hR=>?_⟩
             have hne:(X == Y)=false:=beq_false_of_ne heq.out
             unfold opOK
             go_simp
             exact hR _ _ ⟨Below.refl _ _,rfl⟩
            ·
             intro ρ w' hb hf hd
             have h98:ρ 98=(.bool false):=hd 3 (by kernel_rfl)
             have h106:ρ 106=(.bool true):=hd 11 (by kernel_rfl)
             clear hf hd
             refine .inl ⟨rfl,opOK_step fun R hR=>?_⟩
             unfold opOK
             go_simp
             exact hR _ _ ⟨Below.refl _ _,rfl⟩
           ·intro a' w8 hb8' hdf hsz hf hd
            have hb8:Below w.heap.size w w8:=hb7.trans (hb8'.mono hb7.size)
            have HFs8:=hide (HFs7.out.below hb8')
            have HF8:=hide (HF7.out.below hb8')
            have HO8:=hide (own_below HO12.out hb8' (Nat.le_refl _))
            have h107:slotsOf a' 107= .bool true:=hd 12 (by decide)
            have h2:slotsOf a' 2= .pointer (some ⟨gs,0,none⟩):=hf 2 (by kernel_rfl)
            have h12:slotsOf a' 12= .pointer (some ⟨go,0,none⟩):=hf 12 (by kernel_rfl)
            have h13:slotsOf a' 13= .int .i64 (nn:Int):=hf 13 (by kernel_rfl)
            clear HFs7 HF7 HO12 HM HRb HR12
            obtain⟨T,D⟩:=a'
            have hD:D= []:=hdf
            subst hD
            obtain⟨f,hT,hff⟩:∃ f:Nat→Value,T=((List.range 111).map f).toArray∧slotsOf ⟨T, []⟩=f:=⟨_,arr_list T 111 hsz,rfl⟩
            rw [hff] at h2 h12 h13 h107
            clear hff hsz hf hd hdf
            simp only [List.range,List.range.loop,List.map] at hT
            subst hT
            rw [h2,h12,h13,h107]
            clear h2 h12 h13 h107
            obtain⟨s0,s1,s2,s3,s4⟩:=HFs8.out.cells
            have f0:=HFs8.out.fr 0
            have f1:=HFs8.out.fr 1
            have f2:=HFs8.out.fr 2
            have f3:=HFs8.out.fr 3
            have f4:=HFs8.out.fr 4
            go_wp2_with fail
            have F5:=put5_fb HFs8.out (.int .u8 0) (.int .u32 0) (.int .u8 0) (.slice none 0 0) (.int .i64 0)
            have Hb5:Below w.heap.size w (put5 w8 gs (.int .u8 0) (.int .u32 0) (.int .u8 0) (.slice none 0 0) (.int .i64 0)):=put5_below hb8 _ _ _ _ _ _ Hgs.out
            change bodyPost _ _ _ _ _ (put5 w8 gs (.int .u8 0) (.int .u32 0) (.int .u8 0) (.slice none 0 0) (.int .i64 0))
            generalize put5 w8 gs (.int .u8 0) (.int .u32 0) (.int .u8 0) (.slice none 0 0) (.int .i64 0)=WW at F5 Hb5 ⊢
            obtain⟨v0,v1,v2,v3,v4⟩:=F5.cells
            refine bodyPost_ret (v:= .tuple #[opv 0 0 0 none 0 0 0,.int .i64 0,.int .i64 8]) (by simp [results,Tryz.results186,go_sem,v0,v1,v2,v3,v4]) rfl ?_
            exact⟨none,0,by rw [Hno.out];rfl,by rw [Hno.out];exact World.ownsRow_nil _ _ _ _,Hb5⟩
          subst heq
          have Hyes:=hide (HQ5.out.trans (if_pos ⟨Hmay.out,rfl⟩))
          clear HQ5
          refine wp_region_claims ([.val (opv K TT R A12 P.length c12 Z),.val (.bool true),.val (.bool false),.val (.bool false),.val (opv K TT R A12 P.length c12 Z),.byt X,.val (.string ⟨X.toArray⟩),.val (.slice A n c),.val (.int .i64 (nn:Int)),.val (.slice A nn c),.val (.string ⟨X.toArray⟩),.val (.bool false),.val (.bool false)].map Kq.say) (by kernel_rfl) 111 (by rfl) (by kernel_rfl) (kqs_mono _) ?_ ?_
          ·refine⟨?_,?_,?_,?_,?_,?_,?_,?_,?_,?_,?_,?_,?_,trivial⟩
           ·
            intro ρ w' hb hf hd
            have h12:ρ 12= .pointer (some ⟨go,0,none⟩):=hf 12 (by kernel_rfl)
            clear hf hd
            refine .inl ⟨rfl,opOK_step fun R hR=>?_⟩
            obtain⟨y0,y1',y2',y3,y4'⟩:=(HF7.out.below hb).cells
            unfold opOK
            go_simp
            exact hR _ _ ⟨Below.refl _ _,rfl⟩
           ·
            intro ρ w' hb hf hd
            have h95:ρ 95=(opv K TT R A12 P.length c12 Z):=hd 0 (by kernel_rfl)
            clear hf hd
            refine .inl ⟨rfl,opOK_step fun R hR=>?_⟩
            unfold opOK
            go_simp
            exact (unhide HM w' hb).mono fun e w3 ⟨he,hb3⟩=>⟨_,he,hR _ _ ⟨hb3,by rw [Hdm.out];rfl⟩⟩
           ·
            intro ρ w' hb hf hd
            have h96:ρ 96=(.bool true):=hd 1 (by kernel_rfl)
            clear hf hd
            refine .inl ⟨rfl,opOK_step fun R hR=>?_⟩
            unfold opOK
            go_simp
            exact hR _ _ ⟨Below.refl _ _,rfl⟩
           ·
            intro ρ w' hb hf hd
            have h97:ρ 97=(.bool false):=hd 2 (by kernel_rfl)
            clear hf hd
            refine .inl ⟨rfl,opOK_step fun R hR=>?_⟩
            unfold opOK
            go_simp
            exact hR _ _ ⟨Below.refl _ _,rfl⟩
           ·
            intro ρ w' hb hf hd
            have h12:ρ 12= .pointer (some ⟨go,0,none⟩):=hf 12 (by kernel_rfl)
            have h98:ρ 98=(.bool false):=hd 3 (by kernel_rfl)
            clear hf hd
            refine .inl ⟨ask_of rfl rfl h98,opOK_step fun R hR=>?_⟩
            obtain⟨y0,y1',y2',y3,y4'⟩:=(HF7.out.below hb).cells
            unfold opOK
            go_simp
            exact hR _ _ ⟨Below.refl _ _,rfl⟩
           ·
            intro ρ w' hb hf hd
            have h98:ρ 98=(.bool false):=hd 3 (by kernel_rfl)
            have h99:ρ 99=(opv K TT R A12 P.length c12 Z):=hd 4 (by kernel_rfl)
            clear hf hd
            refine .inl ⟨ask_of rfl rfl h98,opOK_step fun R hR=>?_⟩
            unfold opOK
            go_simp
            exact (unhide HB w' hb).mono fun e w3 ⟨v,he,hown,hb3⟩=>by
             obtain⟨A',c',rfl,-,-,-⟩:=own_slice hown
             exact⟨_,he,hR _ _ ⟨hb3,A',c',rfl,RD.of_own hown⟩⟩
           ·
            intro ρ w' hb hf hd
            have h98:ρ 98=(.bool false):=hd 3 (by kernel_rfl)
            have h100:(Kq.byt X).say (ρ 100) w':=hd 5 (by kernel_rfl)
            clear hf hd
            refine .inl ⟨ask_of rfl rfl h98,opOK_step fun R hR=>?_⟩
            obtain⟨A',c',hv,hrb⟩:=h100
            change ρ 100= .slice A' X.length c' at hv
            have q:=conv_bytes (P:=Tryz.prog) hrb Tryz.underlying23 Tryz.underlying5 Tryz.underlying9 c'
            unfold opOK
            go_simp
            exact hR _ _ ⟨Below.refl _ _,rfl⟩
           ·
            intro ρ w' hb hf hd
            have h0:ρ 0= .slice A n c:=hf 0 (by kernel_rfl)
            have h98:ρ 98=(.bool false):=hd 3 (by kernel_rfl)
            clear hf hd
            refine .inl ⟨ask_of rfl rfl h98,opOK_step fun R hR=>?_⟩
            unfold opOK
            go_simp
            exact hR _ _ ⟨Below.refl _ _,rfl⟩
           ·
            intro ρ w' hb hf hd
            have h13:ρ 13= .int .i64 (nn:Int):=hf 13 (by kernel_rfl)
            have h98:ρ 98=(.bool false):=hd 3 (by kernel_rfl)
            clear hf hd
            refine .inl ⟨ask_of rfl rfl h98,opOK_step fun R hR=>?_⟩
            unfold opOK
            go_simp
            exact hR _ _ ⟨Below.refl _ _,rfl⟩
           ·
            intro ρ w' hb hf hd
            have h98:ρ 98=(.bool false):=hd 3 (by kernel_rfl)
            have h102:ρ 102=(.slice A n c):=hd 7 (by kernel_rfl)
            have h103:ρ 103=(.int .i64 (nn:Int)):=hd 8 (by kernel_rfl)
            clear hf hd
            refine .inl ⟨ask_of rfl rfl h98,opOK_step fun R hR=>?_⟩
            unfold opOK
            go_simp
            exact hR _ _ ⟨Below.refl _ _,rfl⟩
           ·
            intro ρ w' hb hf hd
            have h98:ρ 98=(.bool false):=hd 3 (by kernel_rfl)
            have h104:ρ 104=(.slice A nn c):=hd 9 (by kernel_rfl)
            clear hf hd
            refine .inl ⟨ask_of rfl rfl h98,opOK_step fun R hR=>?_⟩
            have q:=conv_bytes (P:=Tryz.prog) (HRb.out w' hb) Tryz.underlying23 Tryz.underlying5 Tryz.underlying9 c
            rw [Hlt9.out] at q
            unfold opOK
            go_simp
            exact hR _ _ ⟨Below.refl _ _,rfl⟩
           ·
            intro ρ w' hb hf hd
            have h98:ρ 98=(.bool false):=hd 3 (by kernel_rfl)
            have h101:ρ 101=(.string ⟨X.toArray⟩):=hd 6 (by kernel_rfl)
            have h105:ρ 105=(.string ⟨X.toArray⟩):=hd 10 (by kernel_rfl)
            clear hf hd
            refine .inl ⟨ask_of rfl rfl h98,opOK_step fun R hR=>?_⟩
            unfold opOK
            go_simp
            exact hR _ _ ⟨Below.refl _ _,rfl⟩
           ·
            intro ρ w' hb hf hd
            have h98:ρ 98=(.bool false):=hd 3 (by kernel_rfl)
            have h106:ρ 106=(.bool false):=hd 11 (by kernel_rfl)
            clear hf hd
            refine .inl ⟨rfl,opOK_step fun R hR=>?_⟩
            unfold opOK
            go_simp
            exact hR _ _ ⟨Below.refl _ _,rfl⟩
          ·intro a' w8 hb8' hdf hsz hf hd
           have hb8:Below w.heap.size w w8:=hb7.trans (hb8'.mono hb7.size)
           have HFs8:=hide (HFs7.out.below hb8')
           have HF8:=hide (HF7.out.below hb8')
           have HO8:=hide (own_below HO12.out hb8' (Nat.le_refl _))
           have h107:slotsOf a' 107= .bool false:=hd 12 (by decide)
           have h2:slotsOf a' 2= .pointer (some ⟨gs,0,none⟩):=hf 2 (by kernel_rfl)
           have h12:slotsOf a' 12= .pointer (some ⟨go,0,none⟩):=hf 12 (by kernel_rfl)
           have h13:slotsOf a' 13= .int .i64 (nn:Int):=hf 13 (by kernel_rfl)
           clear HFs7 HF7 HO12 HM HRb HR12
           obtain⟨T,D⟩:=a'
           have hD:D= []:=hdf
           subst hD
           obtain⟨f,hT,hff⟩:∃ f:Nat→Value,T=((List.range 111).map f).toArray∧slotsOf ⟨T, []⟩=f:=⟨_,arr_list T 111 hsz,rfl⟩
           rw [hff] at h2 h12 h13 h107
           clear hff hsz hf hd hdf
           simp only [List.range,List.range.loop,List.map] at hT
           subst hT
           rw [h2,h12,h13,h107]
           clear h2 h12 h13 h107
           obtain⟨p0,p1,p2,p3,p4⟩:=HF8.out.cells
           obtain⟨s0,s1,s2,s3,s4⟩:=HFs8.out.cells
           have f0:=HFs8.out.fr 0
           have f1:=HFs8.out.fr 1
           have f2:=HFs8.out.fr 2
           have f3:=HFs8.out.fr 3
           have f4:=HFs8.out.fr 4
           go_wp2_with fail
           have F5:=put5_fb HFs8.out (.int .u8 K) (.int .u32 TT) (.int .u8 R) (.slice A12 P.length c12) (.int .i64 Z)
           have Hb5:Below w.heap.size w (put5 w8 gs (.int .u8 K) (.int .u32 TT) (.int .u8 R) (.slice A12 P.length c12) (.int .i64 Z)):=put5_below hb8 _ _ _ _ _ _ Hgs.out
           have HO5:(put5 w8 gs (.int .u8 K) (.int .u32 TT) (.int .u8 R) (.slice A12 P.length c12) (.int .i64 Z)).ownsRow w.heap.size 120 3 (.slice A12 P.length c12) P.length (rns P):=own_put5 HO8.out HFs8.out
           change bodyPost _ _ _ _ _ (put5 w8 gs (.int .u8 K) (.int .u32 TT) (.int .u8 R) (.slice A12 P.length c12) (.int .i64 Z))
           generalize put5 w8 gs (.int .u8 K) (.int .u32 TT) (.int .u8 R) (.slice A12 P.length c12) (.int .i64 Z)=WW at F5 Hb5 HO5 ⊢
           obtain⟨v0,v1,v2,v3,v4⟩:=F5.cells
           refine bodyPost_ret (v:= .tuple #[opv K TT R A12 P.length c12 Z,.int .i64 (nn:Int),.int .i64 0]) (by simp [results,Tryz.results186,go_sem,v0,v1,v2,v3,v4]) rfl ?_
           exact⟨A12,c12,by rw [Hyes.out];rfl,by rw [Hyes.out];exact HO5,Hb5⟩
end Go.Proofs.YtmkpfdcnikgokaaGreat
