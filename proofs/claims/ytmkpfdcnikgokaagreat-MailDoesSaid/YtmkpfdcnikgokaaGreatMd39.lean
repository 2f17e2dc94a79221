/-
  Texts of this claim, put together: CodeRefGet. What each theorem asks stands in its statement.
-/
import Derived.Test.YtmkpfdcnikgokaaGreatMd9
import Derived.Test.YtmkpfdcnikgokaaGreatMd15
import Derived.Test.YtmkpfdcnikgokaaGreatMd17
import Derived.Test.YtmkpfdcnikgokaaGreatMd38
set_option linter.unusedVariables false
set_option linter.unusedSimpArgs false
set_option maxRecDepth 100000
set_option maxHeartbeats 25600000
namespace Go.Proofs.YtmkpfdcnikgokaaGreat
open Go.RowKit
theorem T5 {p:List Rn} (hp:E9 p) (ho:∀ x∈p,Gl x):0<=(Bw p).2:=by
 have ak:p≠ []:=fun e=>by rw [e] at hp;have:=hp.1;simp at this
 obtain⟨q,x,rfl⟩:∃ q x,p=q++ [x]:=⟨p.dropLast,p.getLast ak,(List.dropLast_concat_getLast ak).symm⟩;rw [Ig q x hp];have:=ho x (by simp);unfold Gl at this;simp only;omega
theorem Abo {b:List UInt8} {k t r:Int} {p:List Rn} {z:Int} {n:Nat} (h:Bz b=some (k,t,r,p,z,n)):0<=r:=by
 simp only [Bz,Option.bind_eq_some_iff] at h;obtain⟨⟨k',a1⟩,hk,⟨m,a2⟩,hm,⟨p',w,a3⟩,hr,⟨k2,t2,r2,p2,z2,n2⟩,ht,h⟩:=h;simp only at hm hr ht h;split at h
 ·rename_i bt
  simp only [Option.some.injEq,Prod.mk.injEq] at h;obtain⟨rfl,rfl,rfl,rfl,rfl,rfl⟩:=h;obtain⟨t1,l1⟩:=Dh (L:= []) hk (by omega) (by simp [Ap]);obtain⟨YR,l2⟩:=Dh hm l1 t1;obtain⟨-,-,-,-,g5,-,-⟩:=Jr m.toNat a2 0 _ p' w a3 (by omega) l2 YR hr;unfold Dc at ht;split at ht
  ·rw [Option.map_eq_some_iff] at ht;obtain⟨⟨z',a4⟩,hz,he⟩:=ht;simp only [Prod.mk.injEq] at he;obtain⟨rfl,rfl,rfl,rfl,rfl,rfl⟩:=he;exact T5 bt.2.1 g5
  ·split at ht
   ·simp only [Option.some.injEq,Prod.mk.injEq] at ht;obtain⟨rfl,rfl,rfl,rfl,rfl,rfl⟩:=ht;exact T5 bt.2.1 g5
   ·simp only [Option.bind_eq_some_iff,Option.map_eq_some_iff] at ht;obtain⟨⟨d,a4⟩,hd,⟨r',a5⟩,gf,he⟩:=ht;simp only [Prod.mk.injEq] at hd gf he;obtain⟨rfl,rfl,rfl,rfl,rfl,rfl⟩:=he;exact (Em gf).1
 ·cases h
theorem Ac7 (b:List UInt8):Ij b=Bz b:=Ac8 b fun _ _ _ _ _ _ h=>Abo h
theorem Q9 {b:List UInt8} {m a:Nat} {L:List Int} (h:Fo b m=(L,a,true)):Ll b m 0=some (L,a):=by
 unfold Fo at h
 cases hx:Ll b m 0 with
 | none=>rw [hx] at h;simp at h
 | some q=>
   obtain⟨q1,q2⟩:=q;rw [hx] at h;simp only [Prod.mk.injEq,and_true] at h;rw [h.1,h.2]
theorem P0 {b:List UInt8} {m a:Nat} {L:List Int} (h:Fo b m=(L,a,false)):Ll b m 0=none:=by
 unfold Fo at h
 cases hx:Ll b m 0 with
 | none=>rfl
 | some q=>rw [hx] at h;simp at h
theorem Zp (k:Int):Dl k<=2:=by
 unfold Dl;split
 ·omega
 ·split <;> omega
inductive Kq where
 | val (v:Value)
 | num (L:List Int) (a:Nat) (ok:Bool)
 | row (L:List Int)
 | byt (l:List UInt8)
 | any
def Kq.say:Kq->P9
 | .val v=>fun u _=>u=v
 | .num L a ok=>fun u w=>∃ A c,u= .tuple #[.slice A L.length c,.int .i64 (a:Int),.bool ok]/\RN w w.heap.size A L
 | .row L=>fun u w=>∃ A c,u= .slice A L.length c/\RN w w.heap.size A L
 | .byt l=>fun u w=>∃ A c,u= .slice A l.length c/\RB w w.heap.size A l
 | .any=>fun _ _=>True
theorem Kh (ks:List Kq):∀ V∈ks.map Kq.say,∀ v w w',V v w->Below w.heap.size w w'->V v w':=by
 intro V hV v w w' h hb;obtain⟨k,-,rfl⟩:=List.mem_map.1 hV
 cases k with
 | val u=>exact h
 | num L a ok=>
   obtain⟨A,c,e,hr⟩:=h;exact⟨A,c,e,(RD.below hr hb).more hb.size⟩
 | row L=>
   obtain⟨A,c,e,hr⟩:=h;exact⟨A,c,e,(RD.below hr hb).more hb.size⟩
 | byt l=>
   obtain⟨A,c,e,hr⟩:=h;exact⟨A,c,e,(RD.below hr hb).more hb.size⟩
 | any=>trivial
theorem Kv (A:Option Addr) (n c:Nat) (b:List UInt8) (M:Nat) (w:World) (hr:RB w w.heap.size A b) (hn:b.length=n) (hl:n < 1073741824) (hc:n<=c) (hM:M<=300):
 Calls Tryz.prog 189 #[.slice A n c,.int .i64 (M:Int),.int .i64 1073741824] w fun e w'=>∃ A' c',e= .returned (.tuple #[.slice A' (Fo b M).1.length c',.int .i64 ((Fo b M).2.1:Int),.bool (Fo b M).2.2])/\RN w' w'.heap.size A' (Fo b M).1/\Below w.heap.size w w':=by
 refine (U1 A n c b M w hr hn hl hc hM).mono ?_;rintro e w' ⟨A',c',he,ah,hb⟩;exact⟨A',c',he,RD.of_own ah,hb⟩
theorem U4 (A:Option Addr) (b:List UInt8) (n c:Nat) (w:World) (hr:RB w w.heap.size A b) (hn:b.length=n) (hl:n < 1073741824) (hc:n<=c):
 Calls Tryz.prog 186 #[.slice A n c] w fun e w'=>∃ A' c',e= .returned (.tuple #[Gq (Ek (Ij b)).1 (Ek (Ij b)).2.1 (Ek (Ij b)).2.2.1 A' (Ek (Ij b)).2.2.2.1.length c' (Ek (Ij b)).2.2.2.2.1,.int .i64 ((Ek (Ij b)).2.2.2.2.2.1:Int),.int .i64 (Ek (Ij b)).2.2.2.2.2.2])/\w'.ownsRow w.heap.size 120 3 (.slice A' (Ek (Ij b)).2.2.2.1.length c') (Ek (Ij b)).2.2.2.1.length (Ed (Ek (Ij b)).2.2.2.1)/\Below w.heap.size w w':=by
 obtain⟨w1,au,F1,af,ac⟩:=Cv w (.int .u8 0) (.int .u32 0) (.int .u8 0) (.slice none 0 0) (.int .i64 0);obtain⟨gs,kt⟩:∃ g,g=w.heap.size:=⟨_,rfl⟩;rw [<-kt] at F1;have HFs1:=Aa F1;have ml:=Aa (show w.heap.size<=gs by rw [kt];exact Nat.le_refl _);have HR:=Aa hr;have Hn:=Aa hn;have N1:=Aa (Kv A n c b 2 w1 ((RD.below hr ac).more ac.size) hn hl hc (by decide));clear hr hn F1;go_enter Tryz.func186,Tryz.ntmps186;go_wp2_with fail;rw [<-kt];clear kt au;refine N1.out.mono ?_;rintro e w2 ⟨A5,c5,rfl,hr5,WK⟩;have ae:=Ad ac WK;have tw:=Aa (HFs1.out.below WK);clear N1 WK
 cases h1:Ll b 2 0 with
 | none=>
   have kd:=Aa (show Ij b=none by simp only [Ij,h1,Option.bind_none]);have e1:Fo b 2=([],0,false):=by unfold Fo;rw [h1]
   rw [e1];clear h1 e1 hr5;obtain⟨s0,s1,s2,s3,s4,f0,f1,f2,f3,f4⟩:=tw.out.all;go_wp2_with fail;exact Dw tw.out ae ml.out kd.out (fun _ ⟨v0,v1,v2,v3,v4⟩=>by simp [results,Tryz.results186,go_sem,v0,v1,v2,v3,v4]) rfl
 | some q1=>
   obtain⟨H,a1⟩:=q1;have e1:Fo b 2=(H,a1,true):=by unfold Fo;rw [h1]
   rw [e1] at hr5 |-;obtain⟨i1,i2,i3,i4,i5⟩:=Jj 2 0 [] H a1 (Nat.zero_le _) (by simp [Ap]) h1;obtain⟨kk,mm,rfl⟩:∃ kk mm,H= [kk,mm]:=by
    match H,i4 with
    | [x,y],_=>exact⟨x,y,rfl⟩
   have bk:=i5 kk (by simp);have bm:=i5 mm (by simp);obtain⟨b5,o5,rfl,tl,hC5⟩:=RN.cell hr5 (by simp);have d0:=hC5 0 (by simp);have d1:=hC5 1 (by simp);simp only [List.getElem_cons_zero,List.getElem_cons_succ,Nat.add_zero] at d0 d1
   have HQ:=Aa (show Ij b=if kk < 1\/4 < kk\/mm < 1\/64 < mm then none else
    (Ll (b.drop a1) (3 * mm).toNat 0).bind fun l=>(Ll (b.drop (a1+l.2)) (Dl kk) 0).bind fun x=>
      if D3 0 l.1 then (let o:=Ck kk l.1 x.1
       if Dz o.1 o.2.1 o.2.2.1 o.2.2.2.1 o.2.2.2.2/\Je o.1 o.2.1 o.2.2.1 o.2.2.2.1 o.2.2.2.2=b.take (a1+l.2+x.2) then some (o.1,o.2.1,o.2.2.1,o.2.2.2.1,o.2.2.2.2,a1+l.2+x.2) else none)
      else none by simp only [Ij,h1,Option.bind_some,List.getD_cons_zero,List.getD_cons_succ])
   rw [Hn.out] at i3;clear h1 e1 i1 i2 i4 i5 hr5 hC5;simp only [List.length_cons,List.length_nil,Nat.zero_add,Nat.reduceAdd];have BA:kk < 1\/(¬ kk < 1/\4 < kk)\/(¬ kk < 1/\¬ 4 < kk/\mm < 1)\/(¬ kk < 1/\¬ 4 < kk/\¬ mm < 1/\64 < mm)\/(¬ kk < 1/\¬ 4 < kk/\¬ mm < 1/\¬ 64 < mm):=by omega
   rcases BA with g1 | ⟨g1,g2⟩ | ⟨g1,g2,g3⟩ | ⟨g1,g2,g3,g4⟩ | ⟨g1,g2,g3,g4⟩
   ·have kd:=Aa (HQ.out.trans (if_pos (.inl g1)));clear HQ;obtain⟨s0,s1,s2,s3,s4,f0,f1,f2,f3,f4⟩:=tw.out.all;go_wp2_with fail;exact Dw tw.out ae ml.out kd.out (fun _ ⟨v0,v1,v2,v3,v4⟩=>by simp [results,Tryz.results186,go_sem,v0,v1,v2,v3,v4]) rfl
   ·have kd:=Aa (HQ.out.trans (if_pos (.inr (.inl g2))));clear HQ;obtain⟨s0,s1,s2,s3,s4,f0,f1,f2,f3,f4⟩:=tw.out.all;go_wp2_with fail;exact Dw tw.out ae ml.out kd.out (fun _ ⟨v0,v1,v2,v3,v4⟩=>by simp [results,Tryz.results186,go_sem,v0,v1,v2,v3,v4]) rfl
   ·have kd:=Aa (HQ.out.trans (if_pos (.inr (.inr (.inl g3)))));clear HQ;obtain⟨s0,s1,s2,s3,s4,f0,f1,f2,f3,f4⟩:=tw.out.all;go_wp2_with fail;exact Dw tw.out ae ml.out kd.out (fun _ ⟨v0,v1,v2,v3,v4⟩=>by simp [results,Tryz.results186,go_sem,v0,v1,v2,v3,v4]) rfl
   ·have kd:=Aa (HQ.out.trans (if_pos (.inr (.inr (.inr g4)))));clear HQ;obtain⟨s0,s1,s2,s3,s4,f0,f1,f2,f3,f4⟩:=tw.out.all;go_wp2_with fail;exact Dw tw.out ae ml.out kd.out (fun _ ⟨v0,v1,v2,v3,v4⟩=>by simp [results,Tryz.results186,go_sem,v0,v1,v2,v3,v4]) rfl
   ·have QX:=Aa (HQ.out.trans (if_neg (by omega)));obtain⟨m,rfl⟩:∃ m:Nat,mm=m:=⟨mm.toNat,by omega⟩;have h3m:(3 * (m:Int)).toNat=3 * m:=by omega
    rw [h3m] at QX;have BQ:((3 * m:Nat):Int)=3 * (m:Int):=by omega
    obtain⟨q2,hq2⟩:∃ q,Fo (b.drop a1) (3 * m)=q:=⟨_,rfl⟩;obtain⟨L2,a2,XR⟩:=q2;have hw64:IntKind.i64.wrap (3 * (m:Int))=3 * (m:Int):=IntWalk.i64_in _ (by omega);have z1:(0:Int)<=a1:=by omega
    have z2:(a1:Int)<=n:=by omega
    have z3:(n:Int)<=c:=by omega
    have z4:(a1:Int)<=c:=by omega
    have ta:=Aa (fun (W:World) (h:Below w2.heap.size w2 W)=>show RB W W.heap.size A b from (RD.below HR.out (ae.trans (h.mono ae.size))).more (ae.trans (h.mono ae.size)).size);obtain⟨SA,SC,ma⟩:∃ SA SC,(c=a1/\SA=A/\SC=0\/¬ c=a1/\SA=Option.map (fun x=>x.add a1) A/\SC=c - a1):=by
     by_cases h:c=a1
     ·exact⟨_,_,.inl ⟨h,rfl,rfl⟩⟩
     ·exact⟨_,_,.inr ⟨h,rfl,rfl⟩⟩
    have OD:=Aa ma
    have N2:=Aa (fun (W:World) (h:Below w2.heap.size w2 W)=>Kv SA (n - a1) SC (b.drop a1) (3 * m) W (by
     rcases OD.out with⟨h1,rfl,rfl⟩ | ⟨h1,rfl,rfl⟩
     ·rw [List.drop_eq_nil_of_le (by rw [Hn.out];omega)]
      exact RD.nil_
     ·exact RB.rest (ta.out W h) Hn.out i3 hc h1) (by rw [List.length_drop,Hn.out]) (by omega) (by rcases OD.out with⟨h1,-,rfl⟩ | ⟨h1,-,rfl⟩ <;> omega) (by omega))
    rw [hq2,BQ] at N2;have Hq2:=Aa hq2;have D1:=Aa (fun (W:World) (h:Below w2.heap.size w2 W)=>Ac h tl d1);clear ma hq2 h3m BQ;go_wp2_with fail;refine Cn ([.val (.slice A n c),.val (.int .i64 (a1:Int)),.val (.slice SA (n - a1) SC),.val (.slice (some ⟨b5,o5,none⟩) 2 c5),.val (.pointer (some ⟨b5,o5+1,none⟩)),.val (.int .i64 (m:Int)),.val (.int .i64 (3 * (m:Int))),.num L2 a2 XR,.num L2 a2 XR,.row L2,.val (.int .i64 (a2:Int)),.val (.bool XR),.row L2,.val (.int .i64 (a2:Int)),.val (.bool XR)].map Kq.say) (by kernel_rfl) 111 (by rfl) (by kernel_rfl) (Kh _) ?_ ?_
    ·repeat' (first | exact trivial | refine And.intro ?_ ?_ | fail)
     all_goals
      intro ρ w' hb hf hd;have f0:ρ 0= .slice A n c:=hf 0 (by kernel_rfl);have f6:ρ 6= .int .i64 (a1:Int):=hf 6 (by kernel_rfl);have f5:ρ 5= .slice (some ⟨b5,o5,none⟩) 2 c5:=hf 5 (by kernel_rfl);replace hd:=Lw hd
      repeat (obtain⟨e,hd⟩:=hd;first | change ρ _=_ at e | (obtain⟨_,cx,e,XX⟩:=e;change ρ _=_ at e) | fail)
      clear hf;have y:=D1.out w' hb;refine .inl ⟨rfl,Bt fun R hR=>?_⟩
      first
       | (unfold Ih
          go_simp
          first
           | exact hR _ _ ⟨Below.refl _ _,rfl⟩
           | exact hR _ _ ⟨Below.refl _ _,_,_,rfl,by assumption⟩
           | exact (Ag N2 w' hb).mono fun e w3 ⟨A',c',he,hr,ag⟩=>⟨_,he,hR _ _ ⟨ag,A',c',rfl,hr⟩⟩)
       | (rcases OD.out with⟨px,jc,CQ⟩ | ⟨px,jc,CQ⟩
          all_goals
           unfold Ih
           go_simp
           exact hR _ _ ⟨Below.refl _ _,by rw [jc,CQ];rfl⟩)
    ·intro a' w3 LF cz ay hf hd;have ag:Below w.heap.size w w3:=ae.trans (LF.mono ae.size);have PR:=Aa (tw.out.below LF);obtain⟨A8,c8,h8,hr8⟩:∃ A8 c8,Ab a' 8= .slice A8 L2.length c8/\RN w3 w3.heap.size A8 L2:=hd 12 (by decide);have h9:Ab a' 9= .int .i64 (a2:Int):=hd 13 (by decide);have h7:Ab a' 7= .bool XR:=hd 14 (by decide);have h0:Ab a' 0= .slice A n c:=hf 0 (by kernel_rfl);have h2:Ab a' 2= .pointer (some ⟨gs,0,none⟩):=hf 2 (by kernel_rfl);have h5:Ab a' 5= .slice (some ⟨b5,o5,none⟩) 2 c5:=hf 5 (by kernel_rfl);have h6:Ab a' 6= .int .i64 (a1:Int):=hf 6 (by kernel_rfl);have d0':=Ac LF tl d0;have WR:=Nat.lt_of_lt_of_le tl LF.size;have zv:=Aa hr8;clear hr8 N2 D1 OD ta d0 d1 tl ae tw;obtain⟨T,D⟩:=a';have hD:D= []:=cz;subst hD;obtain⟨f,hT,df⟩:∃ f:Nat->Value,T=((List.range 111).map f).toArray/\Ab ⟨T, []⟩=f:=⟨_,Bm T 111 ay,rfl⟩;rw [df] at h0 h2 h5 h6 h7 h8 h9;clear df ay hf hd cz;simp only [List.range,List.range.loop,List.map] at hT;subst hT;rw [h0,h2,h5,h6,h7,h8,h9];clear h0 h2 h5 h6 h7 h8 h9
     cases XR with
     | false=>
       have kd:=Aa (show Ij b=none by rw [QX.out,P0 Hq2.out];rfl);clear QX Hq2;obtain⟨s0,s1,s2,s3,s4,f0,f1,f2,f3,f4⟩:=PR.out.all;go_wp2_with fail;exact Dw PR.out ag ml.out kd.out (fun _ ⟨v0,v1,v2,v3,v4⟩=>by simp [results,Tryz.results186,go_sem,v0,v1,v2,v3,v4]) rfl
     | true=>
       have ND:Ll (b.drop a1) (3 * m) 0=some (L2,a2):=Q9 Hq2.out
       have HQ3:=Aa (by
        have:=QX.out
        rw [ND] at this
        simpa only [Option.bind_some] using this)
       obtain⟨-,-,j3,j4,j5⟩:=Jj (3 * m) 0 [] L2 a2 (Nat.zero_le _) (by simp [Ap]) ND;rw [List.length_drop,Hn.out] at j3;have HJ:=Aa (And.intro j4 j5);obtain⟨ab,hab⟩:∃ x,x=a1+a2:=⟨_,rfl⟩;have WM:(a1:Int)+(a2:Int)=(ab:Int):=by omega
       have habn:ab<=n:=by omega
       have QT:=Aa hab;have y1:(0:Int)<=ab:=by omega
       have y2:(ab:Int)<=n:=by omega
       have y4:(ab:Int)<=c:=by omega
       have y5:IntKind.i64.wrap (ab:Int)=ab:=IntWalk.i64_in _ (by omega);clear QX Hq2 ND j3 j4 j5 hab hw64;have uv:=Aa (fun (W:World) (h:Below w3.heap.size w3 W)=>show RB W W.heap.size A b from (RD.below HR.out (ag.trans (h.mono ag.size))).more (ag.trans (h.mono ag.size)).size);obtain⟨q3,ND⟩:∃ q,Fo (b.drop ab) (Dl kk)=q:=⟨_,rfl⟩;obtain⟨L3,a3,XQ⟩:=q3;obtain⟨SA,SC,ma⟩:∃ SA SC,(c=ab/\SA=A/\SC=0\/¬ c=ab/\SA=Option.map (fun x=>x.add ab) A/\SC=c - ab):=by
        by_cases h:c=ab
        ·exact⟨_,_,.inl ⟨h,rfl,rfl⟩⟩
        ·exact⟨_,_,.inr ⟨h,rfl,rfl⟩⟩
       have OD:=Aa ma;have hbeh:=Zp kk
       have N3:=Aa (fun (W:World) (h:Below w3.heap.size w3 W)=>Kv SA (n - ab) SC (b.drop ab) (Dl kk) W (by
        rcases OD.out with⟨h1,rfl,rfl⟩ | ⟨h1,rfl,rfl⟩
        ·rw [List.drop_eq_nil_of_le (by rw [Hn.out];omega)]
         exact RD.nil_
        ·exact RB.rest (uv.out W h) Hn.out habn hc h1) (by rw [List.length_drop,Hn.out]) (by omega) (by rcases OD.out with⟨h1,-,rfl⟩ | ⟨h1,-,rfl⟩ <;> omega) (by omega))
       rw [ND] at N3;have Hq3:=Aa ND;have BH:=Aa (fun W=>Zo kk W);obtain⟨bhk,WJ⟩:∃ x,x=Dl kk:=⟨_,rfl⟩;rw [<-WJ] at BH N3 Hq3;have WX:=Aa WJ;have D0:=Aa (fun (W:World) (h:Below w3.heap.size w3 W)=>Ac h WR d0');clear ma ND hbeh WJ d0';go_wp2_with fail;refine Cn ([.val (.slice A n c),.val (.int .i64 (a1:Int)),.val (.int .i64 (a2:Int)),.val (.int .i64 (ab:Int)),.val (.slice SA (n - ab) SC),.val (.slice (some ⟨b5,o5,none⟩) 2 c5),.val (.pointer (some ⟨b5,o5,none⟩)),.val (.int .i64 kk),.val (.int .i64 (bhk:Int)),.num L3 a3 XQ,.num L3 a3 XQ,.row L3,.val (.int .i64 (a3:Int)),.val (.bool XQ),.row L3,.val (.int .i64 (a3:Int)),.val (.bool XQ)].map Kq.say) (by kernel_rfl) 111 (by rfl) (by kernel_rfl) (Kh _) ?_ ?_
       ·repeat' (first | exact trivial | refine And.intro ?_ ?_ | fail)
        all_goals
         intro ρ w' hb hf hd;have f0:ρ 0= .slice A n c:=hf 0 (by kernel_rfl);have f6:ρ 6= .int .i64 (a1:Int):=hf 6 (by kernel_rfl);have f9:ρ 9= .int .i64 (a2:Int):=hf 9 (by kernel_rfl);have f5:ρ 5= .slice (some ⟨b5,o5,none⟩) 2 c5:=hf 5 (by kernel_rfl);replace hd:=Lw hd
         repeat (obtain⟨e,hd⟩:=hd;first | change ρ _=_ at e | (obtain⟨_,cx,e,XX⟩:=e;change ρ _=_ at e) | fail)
         clear hf;have y:=D0.out w' hb;refine .inl ⟨rfl,Bt fun R hR=>?_⟩
         first
          | (unfold Ih
             go_simp
             first
              | exact hR _ _ ⟨Below.refl _ _,rfl⟩
              | exact hR _ _ ⟨Below.refl _ _,_,_,rfl,by assumption⟩
              | exact hR _ _ ⟨Below.refl _ _,by rw [WM];rfl⟩
              | exact (Ag BH w').mono fun e w3 ⟨he,ag⟩=>⟨_,he,hR _ _ ⟨ag ▸ Below.refl _ _,rfl⟩⟩
              | exact (Ag N3 w' hb).mono fun e w3 ⟨A',c',he,hr,ag⟩=>⟨_,he,hR _ _ ⟨ag,A',c',rfl,hr⟩⟩)
          | (rcases OD.out with⟨px,jc,CQ⟩ | ⟨px,jc,CQ⟩
             all_goals
              unfold Ih
              go_simp
              exact hR _ _ ⟨Below.refl _ _,by rw [jc,CQ];rfl⟩)
       ·intro a' w4 DX cz ay hf hd;have aw:Below w.heap.size w w4:=ag.trans (DX.mono ag.size);have PQ:=Aa (PR.out.below DX);obtain⟨va,wh,kb,hr10⟩:∃ va wh,Ab a' 10= .slice va L3.length wh/\RN w4 w4.heap.size va L3:=hd 14 (by decide);have ky:Ab a' 11= .int .i64 (a3:Int):=hd 15 (by decide);have h7:Ab a' 7= .bool XQ:=hd 16 (by decide);have h0:Ab a' 0= .slice A n c:=hf 0 (by kernel_rfl);have h2:Ab a' 2= .pointer (some ⟨gs,0,none⟩):=hf 2 (by kernel_rfl);have h5:Ab a' 5= .slice (some ⟨b5,o5,none⟩) 2 c5:=hf 5 (by kernel_rfl);have h6:Ab a' 6= .int .i64 (a1:Int):=hf 6 (by kernel_rfl);have h8:Ab a' 8= .slice A8 L2.length c8:=hf 8 (by kernel_rfl);have h9:Ab a' 9= .int .i64 (a2:Int):=hf 9 (by kernel_rfl);have d0:=D0.out w4 DX;have hB54:=Nat.lt_of_lt_of_le WR DX.size;have WZ:=Aa (show RN w4 w4.heap.size A8 L2 from (RD.below zv.out DX).more DX.size);have AY:=Aa hr10;clear hr10 N3 D0 OD uv zv WR ag PR LF DX BH;obtain⟨T,D⟩:=a';have hD:D= []:=cz;subst hD;obtain⟨f,hT,df⟩:∃ f:Nat->Value,T=((List.range 111).map f).toArray/\Ab ⟨T, []⟩=f:=⟨_,Bm T 111 ay,rfl⟩;rw [df] at h0 h2 h5 h6 h7 h8 h9 kb ky;clear df ay hf hd cz;simp only [List.range,List.range.loop,List.map] at hT;subst hT;rw [h0,h2,h5,h6,h7,h8,h9,kb,ky];clear h0 h2 h5 h6 h7 h8 h9 kb ky
        cases XQ with
        | false=>
          have kd:=Aa (show Ij b=none by rw [HQ3.out,<-QT.out,<-WX.out,P0 Hq3.out];rfl);clear HQ3 Hq3 d0;obtain⟨s0,s1,s2,s3,s4,f0,f1,f2,f3,f4⟩:=PQ.out.all;go_wp2_with fail;exact Dw PQ.out aw ml.out kd.out (fun _ ⟨v0,v1,v2,v3,v4⟩=>by simp [results,Tryz.results186,go_sem,v0,v1,v2,v3,v4]) rfl
        | true=>
          have hq4:=Q9 Hq3.out
          have HQ4:=Aa (by
           have:=HQ3.out
           rw [<-QT.out,<-WX.out,hq4] at this
           simpa only [Option.bind_some] using this)
          obtain⟨-,-,l3,l4,l5⟩:=Jj bhk 0 [] L3 a3 (Nat.zero_le _) (by simp [Ap]) hq4;rw [List.length_drop,Hn.out] at l3;have HJ3:=Aa (And.intro (show L3.length=Dl kk by rw [l4,WX.out]) l5);obtain⟨nn,hnn⟩:∃ x,x=ab+a3:=⟨_,rfl⟩;have hnn':(ab:Int)+(a3:Int)=(nn:Int):=by omega
          have hnnn:nn<=n:=by omega
          have Hnn:=Aa hnn;clear HQ3 Hq3 hq4 l3 l4 l5 hnn;have FT:=Aa (Abt A8 L2.length c8 m L2 w4 WZ.out rfl HJ.out.1 (by omega) (by omega) HJ.out.2);go_wp2_with fail;refine FT.out.mono ?_;rintro e w5 ⟨rfl,DW⟩;have bq:Below w.heap.size w w5:=aw.trans (DW.mono aw.size);have PO:=Aa (PQ.out.below DW);have d05:=Ac DW hB54 d0;have HR85:=Aa (show RN w5 w5.heap.size A8 L2 from (RD.below WZ.out DW).more DW.size);have SO:=Aa (show RN w5 w5.heap.size va L3 from (RD.below AY.out DW).more DW.size);clear d0 PQ WZ AY FT;by_cases AW:D3 0 L2;rotate_left
          ·have kd:=Aa (HQ4.out.trans (if_neg AW));rw [decide_eq_false AW];clear HQ4 AW d05;obtain⟨s0,s1,s2,s3,s4,f0,f1,f2,f3,f4⟩:=PO.out.all;go_wp2_with fail;exact Dw PO.out bq ml.out kd.out (fun _ ⟨v0,v1,v2,v3,v4⟩=>by simp [results,Tryz.results186,go_sem,v0,v1,v2,v3,v4]) rfl
          rw [decide_eq_true AW];have KG:=Aa (HQ4.out.trans (if_pos AW));have WH:=Aa (Aal kk A8 va L2.length c8 wh m L2 L3 w5 HR85.out rfl HJ.out.1 (by omega) (by omega) HJ.out.2 AW SO.out HJ3.out.1 HJ3.out.2 (by omega) (by omega));have PL:=Aa (St L2 0 (Int.le_refl _) (fun x hx=>(HJ.out.2 x hx).1) AW);have LG:0<=(Ck kk L2 L3).2.2.1\/¬ E9 (Cd 0 L2):=by
           by_cases hm:E9 (Cd 0 L2)
           ·left;unfold Ck;simp only;split
            ·omega
            ·have ak:Cd 0 L2≠ []:=fun e=>by have:=hm.1;simp [e] at this
             have GM:(Cd 0 L2).getLastD (0,0,0)∈Cd 0 L2:=by
              rw [List.getLastD_eq_getLast?,List.getLast?_eq_some_getLast ak];exact List.getLast_mem ak
             have:=PL.out _ GM;unfold Gl at this;omega
           ·exact .inr hm
          have hP:(Ck kk L2 L3).2.2.2.1=Cd 0 L2:=rfl;obtain⟨q5,hq5⟩:∃ q,Ck kk L2 L3=q:=⟨_,rfl⟩;obtain⟨K,TT,R,P,Z⟩:=q5;rw [hq5] at WH KG LG hP;simp only at WH KG LG hP;rw [<-hP] at LG PL;have hRnn':=Aa LG;have Hnn2:=Hnn;rw [<-Hnn.out] at KG;clear HQ4 AW hq5 hP LG;go_wp2_with fail;refine WH.out.mono ?_;rintro e w6 ⟨CA,BR,rfl,EC,iq⟩;have bf:=Ad bq iq;have HFs6:=Aa (PO.out.below iq);have hr12:=RR.of_own EC rfl;obtain⟨w7,cc,F7,IM,OY⟩:=Cv w6 (.int .u8 K) (.int .u32 TT) (.int .u8 R) (.slice CA P.length BR) (.int .i64 Z);have bu:=Ad bf OY;have GV:=Aa (HFs6.out.below OY);have dg:=Aa F7;have LS:=Aa (RR.below' hr12 OY);have GU:=Aa (I4 (Ai EC OY (Nat.le_refl _)) bq.size);obtain⟨go,uj⟩:∃ g,g=w6.heap.size:=⟨_,rfl⟩;have kf:=Aa uj;rw [<-uj] at dg;have x1:(0:Int)<=nn:=by omega
          have x2:(nn:Int)<=n:=by omega
          have x4:(nn:Int)<=c:=by omega
          have x5:IntKind.i64.wrap (nn:Int)=nn:=IntWalk.i64_in _ (by omega);have HM:=Aa (fun (W:World) (h:Below w7.heap.size w7 W)=>Nx K TT R Z CA P.length BR P W (RR.below' LS.out h) rfl PL.out);have KF:=Aa (fun (W:World) (h:Below w7.heap.size w7 W)=>RB.opening (show RB W W.heap.size A b from (RD.below HR.out (bu.trans (h.mono bu.size))).more (bu.trans (h.mono bu.size)).size) nn (by rw [Hn.out];exact hnnn));have GN:(b.take nn).length=nn:=by rw [List.length_take,Hn.out];omega
          have WU:=Aa GN;clear d05 PO HFs6 EC hr12 F7 WH HR85 SO iq GN uj;go_wp2_with fail;rw [<-kf.out];clear cc;by_cases bt:Dz K TT R P Z;rotate_left
          ·have kd:=Aa (KG.out.trans (if_neg fun h=>bt h.1));have hdm:=decide_eq_false bt;have Hdm:=Aa hdm;clear KG hdm bt;refine Cn ([.val (Gq K TT R CA P.length BR Z),.val (.bool false),.val (.bool true),.val (.bool true),.val (undef),.val (undef),.val (undef),.val (undef),.val (undef),.val (undef),.val (undef),.val (undef),.val (.bool true)].map Kq.say) (by kernel_rfl) 111 (by rfl) (by kernel_rfl) (Kh _) ?_ ?_
           ·repeat' (first | exact trivial | refine And.intro ?_ ?_ | fail)
            all_goals
             intro ρ w' hb hf hd;have f12:ρ 12= .pointer (some ⟨go,0,none⟩):=hf 12 (by kernel_rfl);have f0:ρ 0= .slice A n c:=hf 0 (by kernel_rfl);have f13:ρ 13= .int .i64 (nn:Int):=hf 13 (by kernel_rfl);replace hd:=Lw hd
             repeat (obtain⟨e,hd⟩:=hd;first | change ρ _=_ at e | (obtain⟨_,cx,e,XX⟩:=e;change ρ _=_ at e) | fail)
             clear hf;obtain⟨y0,vr,vq,y3,y4'⟩:=(dg.out.below hb).cells
             first
              | exact .inr ⟨Ml rfl rfl (by assumption),rfl⟩
              | (first | refine .inl ⟨rfl,Bt fun R hR=>?_⟩ | refine .inl ⟨Du rfl rfl (by assumption),Bt fun R hR=>?_⟩
                 unfold Ih
                 go_simp
                 first
                  | exact hR _ _ ⟨Below.refl _ _,rfl⟩
                  | exact (Ag HM w' hb).mono fun e w3 ⟨he,ag⟩=>⟨_,he,hR _ _ ⟨ag,by rw [Hdm.out];rfl⟩⟩)
           ·intro a' w8 qp cz ay hf hd;have dj:Below w.heap.size w w8:=bu.trans (qp.mono bu.size);have yv:=Aa (GV.out.below qp);have dp:=Aa (dg.out.below qp);have jj:=Aa (Ai GU.out qp (Nat.le_refl _));have vi:Ab a' 107= .bool true:=hd 12 (by decide);have h2:Ab a' 2= .pointer (some ⟨gs,0,none⟩):=hf 2 (by kernel_rfl);have jr:Ab a' 12= .pointer (some ⟨go,0,none⟩):=hf 12 (by kernel_rfl);have kw:Ab a' 13= .int .i64 (nn:Int):=hf 13 (by kernel_rfl);clear GV dg GU HM KF LS;obtain⟨T,D⟩:=a';have hD:D= []:=cz;subst hD;obtain⟨f,hT,df⟩:∃ f:Nat->Value,T=((List.range 111).map f).toArray/\Ab ⟨T, []⟩=f:=⟨_,Bm T 111 ay,rfl⟩;rw [df] at h2 jr kw vi;clear df ay hf hd cz;simp only [List.range,List.range.loop,List.map] at hT;subst hT;rw [h2,jr,kw,vi];clear h2 jr kw vi;obtain⟨s0,s1,s2,s3,s4,f0,f1,f2,f3,f4⟩:=yv.out.all;go_wp2_with fail;exact Dw yv.out dj ml.out kd.out (fun _ ⟨v0,v1,v2,v3,v4⟩=>by simp [results,Tryz.results186,go_sem,v0,v1,v2,v3,v4]) rfl
          have Hdm:=Aa (decide_eq_true bt);have hR0:0<=R:=hRnn'.out.resolve_right (fun h=>h bt.2.1);have HB:=Aa (fun (W:World) (h:Below w7.heap.size w7 W)=>My K TT R Z CA P.length BR P W (RR.below' LS.out h) rfl PL.out bt ⟨by have:=bt.1.1;simp only;omega,by have:=bt.1.2.1;simp only;omega,hR0,by have:=bt.1.2.2;simp only;omega⟩);have Hmay:=Aa bt;obtain⟨X,hX⟩:∃ l,l=Je K TT R P Z:=⟨_,rfl⟩;rw [<-hX] at HB KG;obtain⟨Y,hY⟩:∃ l,l=b.take nn:=⟨_,rfl⟩;rw [<-hY] at KF KG WU;clear hX hY bt hR0;by_cases AH:X=Y;rotate_left
          ·have kd:=Aa (KG.out.trans (if_neg fun h=>AH h.2));replace AH:=Aa AH;clear KG;refine Cn ([.val (Gq K TT R CA P.length BR Z),.val (.bool true),.val (.bool false),.val (.bool false),.val (Gq K TT R CA P.length BR Z),.byt X,.val (.string ⟨X.toArray⟩),.val (.slice A n c),.val (.int .i64 (nn:Int)),.val (.slice A nn c),.val (.string ⟨Y.toArray⟩),.val (.bool true),.val (.bool true)].map Kq.say) (by kernel_rfl) 111 (by rfl) (by kernel_rfl) (Kh _) ?_ ?_
           ·repeat' (first | exact trivial | refine And.intro ?_ ?_ | fail)
            all_goals
             intro ρ w' hb hf hd;have f12:ρ 12= .pointer (some ⟨go,0,none⟩):=hf 12 (by kernel_rfl);have f0:ρ 0= .slice A n c:=hf 0 (by kernel_rfl);have f13:ρ 13= .int .i64 (nn:Int):=hf 13 (by kernel_rfl);replace hd:=Lw hd
             repeat (obtain⟨e,hd⟩:=hd;first | change ρ _=_ at e | (obtain⟨_,cx,e,XX⟩:=e;change ρ _=_ at e) | fail)
             clear hf;obtain⟨y0,vr,vq,y3,y4'⟩:=(dg.out.below hb).cells
             try have q:=Cs (P:=Tryz.prog) XX Tryz.underlying23 Tryz.underlying5 Tryz.underlying9 cx
             have q2:=Cs (P:=Tryz.prog) (KF.out w' hb) Tryz.underlying23 Tryz.underlying5 Tryz.underlying9 c;rw [WU.out] at q2;have ak:(X == Y)=false:=beq_false_of_ne AH.out
             first
              | exact .inr ⟨Ml rfl rfl (by assumption),rfl⟩
              | (first | refine .inl ⟨rfl,Bt fun R hR=>?_⟩ | refine .inl ⟨Du rfl rfl (by assumption),Bt fun R hR=>?_⟩
                 unfold Ih
                 go_simp
                 first
                  | exact hR _ _ ⟨Below.refl _ _,rfl⟩
                  | exact (Ag HM w' hb).mono fun e w3 ⟨he,ag⟩=>⟨_,he,hR _ _ ⟨ag,by rw [Hdm.out];rfl⟩⟩
                  | exact (Ag HB w' hb).mono fun e w3 ⟨v,he,ah,ag⟩=>by
                     obtain⟨A',c',rfl,-,-,-⟩:=Ao ah
                     exact⟨_,he,hR _ _ ⟨ag,A',c',rfl,RD.of_own ah⟩⟩)
           ·intro a' w8 qp cz ay hf hd;have dj:Below w.heap.size w w8:=bu.trans (qp.mono bu.size);have yv:=Aa (GV.out.below qp);have dp:=Aa (dg.out.below qp);have jj:=Aa (Ai GU.out qp (Nat.le_refl _));have vi:Ab a' 107= .bool true:=hd 12 (by decide);have h2:Ab a' 2= .pointer (some ⟨gs,0,none⟩):=hf 2 (by kernel_rfl);have jr:Ab a' 12= .pointer (some ⟨go,0,none⟩):=hf 12 (by kernel_rfl);have kw:Ab a' 13= .int .i64 (nn:Int):=hf 13 (by kernel_rfl);clear GV dg GU HM KF LS;obtain⟨T,D⟩:=a';have hD:D= []:=cz;subst hD;obtain⟨f,hT,df⟩:∃ f:Nat->Value,T=((List.range 111).map f).toArray/\Ab ⟨T, []⟩=f:=⟨_,Bm T 111 ay,rfl⟩;rw [df] at h2 jr kw vi;clear df ay hf hd cz;simp only [List.range,List.range.loop,List.map] at hT;subst hT;rw [h2,jr,kw,vi];clear h2 jr kw vi;obtain⟨s0,s1,s2,s3,s4,f0,f1,f2,f3,f4⟩:=yv.out.all;go_wp2_with fail;exact Dw yv.out dj ml.out kd.out (fun _ ⟨v0,v1,v2,v3,v4⟩=>by simp [results,Tryz.results186,go_sem,v0,v1,v2,v3,v4]) rfl
          subst AH;have Hyes:=Aa (KG.out.trans (if_pos ⟨Hmay.out,rfl⟩));clear KG;refine Cn ([.val (Gq K TT R CA P.length BR Z),.val (.bool true),.val (.bool false),.val (.bool false),.val (Gq K TT R CA P.length BR Z),.byt X,.val (.string ⟨X.toArray⟩),.val (.slice A n c),.val (.int .i64 (nn:Int)),.val (.slice A nn c),.val (.string ⟨X.toArray⟩),.val (.bool false),.val (.bool false)].map Kq.say) (by kernel_rfl) 111 (by rfl) (by kernel_rfl) (Kh _) ?_ ?_
          ·repeat' (first | exact trivial | refine And.intro ?_ ?_ | fail)
           all_goals
            intro ρ w' hb hf hd;have f12:ρ 12= .pointer (some ⟨go,0,none⟩):=hf 12 (by kernel_rfl);have f0:ρ 0= .slice A n c:=hf 0 (by kernel_rfl);have f13:ρ 13= .int .i64 (nn:Int):=hf 13 (by kernel_rfl);replace hd:=Lw hd
            repeat (obtain⟨e,hd⟩:=hd;first | change ρ _=_ at e | (obtain⟨_,cx,e,XX⟩:=e;change ρ _=_ at e) | fail)
            clear hf;obtain⟨y0,vr,vq,y3,y4'⟩:=(dg.out.below hb).cells
            try have q:=Cs (P:=Tryz.prog) XX Tryz.underlying23 Tryz.underlying5 Tryz.underlying9 cx
            have q2:=Cs (P:=Tryz.prog) (KF.out w' hb) Tryz.underlying23 Tryz.underlying5 Tryz.underlying9 c;rw [WU.out] at q2
            first
             | exact .inr ⟨Ml rfl rfl (by assumption),rfl⟩
             | (first | refine .inl ⟨rfl,Bt fun R hR=>?_⟩ | refine .inl ⟨Du rfl rfl (by assumption),Bt fun R hR=>?_⟩
                unfold Ih
                go_simp
                first
                 | exact hR _ _ ⟨Below.refl _ _,rfl⟩
                 | exact (Ag HM w' hb).mono fun e w3 ⟨he,ag⟩=>⟨_,he,hR _ _ ⟨ag,by rw [Hdm.out];rfl⟩⟩
                 | exact (Ag HB w' hb).mono fun e w3 ⟨v,he,ah,ag⟩=>by
                    obtain⟨A',c',rfl,-,-,-⟩:=Ao ah
                    exact⟨_,he,hR _ _ ⟨ag,A',c',rfl,RD.of_own ah⟩⟩)
          ·intro a' w8 qp cz ay hf hd;have dj:Below w.heap.size w w8:=bu.trans (qp.mono bu.size);have yv:=Aa (GV.out.below qp);have dp:=Aa (dg.out.below qp);have jj:=Aa (Ai GU.out qp (Nat.le_refl _));have vi:Ab a' 107= .bool false:=hd 12 (by decide);have h2:Ab a' 2= .pointer (some ⟨gs,0,none⟩):=hf 2 (by kernel_rfl);have jr:Ab a' 12= .pointer (some ⟨go,0,none⟩):=hf 12 (by kernel_rfl);have kw:Ab a' 13= .int .i64 (nn:Int):=hf 13 (by kernel_rfl);clear GV dg GU HM KF LS;obtain⟨T,D⟩:=a';have hD:D= []:=cz;subst hD;obtain⟨f,hT,df⟩:∃ f:Nat->Value,T=((List.range 111).map f).toArray/\Ab ⟨T, []⟩=f:=⟨_,Bm T 111 ay,rfl⟩;rw [df] at h2 jr kw vi;clear df ay hf hd cz;simp only [List.range,List.range.loop,List.map] at hT;subst hT;rw [h2,jr,kw,vi];clear h2 jr kw vi;obtain⟨p0,p1,p2,p3,p4⟩:=dp.out.cells;obtain⟨s0,s1,s2,s3,s4,f0,f1,f2,f3,f4⟩:=yv.out.all;go_wp2_with fail;have F5:=El yv.out (.int .u8 K) (.int .u32 TT) (.int .u8 R) (.slice CA P.length BR) (.int .i64 Z);have tm:Below w.heap.size w (Di w8 gs (.int .u8 K) (.int .u32 TT) (.int .u8 R) (.slice CA P.length BR) (.int .i64 Z)):=Cm dj _ _ _ _ _ _ ml.out;have jm:(Di w8 gs (.int .u8 K) (.int .u32 TT) (.int .u8 R) (.slice CA P.length BR) (.int .i64 Z)).ownsRow w.heap.size 120 3 (.slice CA P.length BR) P.length (Ed P):=Fi jj.out yv.out;change bodyPost _ _ _ _ _ (Di w8 gs (.int .u8 K) (.int .u32 TT) (.int .u8 R) (.slice CA P.length BR) (.int .i64 Z));generalize Di w8 gs (.int .u8 K) (.int .u32 TT) (.int .u8 R) (.slice CA P.length BR) (.int .i64 Z)=WW at F5 tm jm |-;obtain⟨v0,v1,v2,v3,v4⟩:=F5.cells;refine bodyPost_ret (v:= .tuple #[Gq K TT R CA P.length BR Z,.int .i64 (nn:Int),.int .i64 0]) (by simp [results,Tryz.results186,go_sem,v0,v1,v2,v3,v4]) rfl ?_;exact⟨CA,BR,by rw [Hyes.out];rfl,by rw [Hyes.out];exact jm,tm⟩
end Go.Proofs.YtmkpfdcnikgokaaGreat
