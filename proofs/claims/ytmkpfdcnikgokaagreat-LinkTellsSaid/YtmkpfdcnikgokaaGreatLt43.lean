/-
  Texts of this claim, put together: OneRef, OnlyRef. What each theorem asks stands in its statement.
-/
import Derived.Test.YtmkpfdcnikgokaaGreatLt19
import Derived.Test.YtmkpfdcnikgokaaGreatLt27
import Derived.Test.YtmkpfdcnikgokaaGreatLt42
set_option linter.unusedVariables false
set_option linter.unusedSimpArgs false
set_option maxRecDepth 100000
set_option maxHeartbeats 25600000
namespace Go.Proofs.YtmkpfdcnikgokaaGreat
open Go.RowKit
theorem chunks_any (k:Int) (w:World) (h0:0≤k) (h1:k≤1024):
 Calls Tryz.prog 164 #[.int .i64 k] w fun e w'=>e= .returned (.int .i64 ((k+7) / 8))∧Below w.heap.size w w':=by
 have q1:IntKind.i64.wrap (k+8)=k+8:=IntWalk.i64_in _ (by omega)
 have q2:IntKind.i64.wrap (k+8 - 1)=k+8 - 1:=IntWalk.i64_in _ (by omega)
 have q3:=hide (show (k+8 - 1).tdiv 8=(k+7) / 8 by rw [Int.tdiv_eq_ediv_of_nonneg (by omega),show k+8 - 1=k+7 by omega])
 have q5:=hide (show (k+8 - 1) / 8=(k+7) / 8 by rw [show k+8 - 1=k+7 by omega])
 have q4:IntKind.i64.wrap ((k+8 - 1) / 8)=(k+8 - 1) / 8:=IntWalk.i64_in _ (by omega)
 go_enter Tryz.func164,Tryz.ntmps164
 go_wp2_with fail
 go_ret
 exact⟨by first | (rw [←q5.out];rfl) | (rw [←q3.out];rfl),Below.refl _ _⟩
theorem rone_any (t r:Int) (rd kn:Bool) (sA gA:Option Addr) (sn sc gn gc:Nat) (s:List TmL) (g:List Bool) (w:World) (hr:RT w w.heap.size sA s) (ho:∀ y∈s,okT y) (hs9:sn < 1073741824) (hsn:s.length=sn) (hgn:g.length=gn):
 Calls Tryz.prog 129 #[Go.Proofs.YtmkpfdcnikgokaaGreat.env t r rd kn (.slice sA sn sc) (.slice gA gn gc)] w fun e w'=>e= .returned (.bool (decide (oneP ((t,r),(rd,kn),(s.map TmL.pt,g)))))∧Below w.heap.size w w':=by
 obtain⟨w1,hw1,F1,hs1,hb1⟩:=entry_box w (.int .u32 t) (.int .u8 r) (.bool rd) (.bool false) (.int .i64 0) (.bool kn) (.slice sA sn sc) (.slice gA gn gc)
 obtain⟨a0,a1,a2,a3,a4,a5,a6,a7⟩:=F1.cells
 have HF1:=hide F1
 by_cases hsec:secI t r
 rotate_left
 ·have hE:=hide (show decide (oneP ((t,r),(rd,kn),(s.map TmL.pt,g)))=false from decide_eq_false fun h=>hsec h.1)
  rw [hE.out]
  have hz:¬ (t=0∧r=0):=fun h=>hsec (.inl h)
  have hm:¬ mayI t r:=fun h=>hsec (.inr h)
  have P:=hide (refmay_any t r w1)
  rw [decide_eq_false hm] at P
  have hcs:(¬ t=0)∨(t=0∧¬ r=0):=by
   by_cases h0:t=0
   ·exact .inr ⟨h0,fun h=>hz ⟨h0,h⟩⟩
   ·exact .inl h0
  clear hz hE F1 hm hsec hr ho
  rcases hcs with h | ⟨rfl,h⟩
  all_goals
   go_enter Tryz.func129,Tryz.ntmps129
   go_wp2_with fail
   refine P.out.mono ?_
   rintro e w2 ⟨rfl,hb2⟩
   clear a0 a1 a2 a3 a4 a5 a6 a7
   go_wp2_with fail
   go_ret
   exact⟨rfl,fresh hb1 hb2⟩
 have hcs:(t=0∧r=0)∨((¬ t=0)∨(t=0∧¬ r=0))∧mayI t r:=by
  by_cases h0:t=0
  ·by_cases h1:r=0
   ·exact .inl ⟨h0,h1⟩
   ·exact .inr ⟨.inr ⟨h0,h1⟩,hsec.resolve_left fun h=>h1 h.2⟩
  ·exact .inr ⟨.inl h0,hsec.resolve_left fun h=>h0 h.1⟩
 cases kn with
 | false=>
   have hE:=hide (show decide (oneP ((t,r),(rd,false),(s.map TmL.pt,g)))=(decide (sn=0) && decide (gn=0)) by
    simp only [oneP,hsec,true_and,Bool.false_eq_true,if_false,List.length_map,hsn,hgn,Bool.decide_and])
   rw [hE.out]
   have P:=hide (fun h:mayI t r=>by
    have:=refmay_any t r w1
    rwa [decide_eq_true h] at this)
   clear hE hsec F1 hr ho
   by_cases h1:sn=0
   ·subst h1
    by_cases h2:gn=0
    ·subst h2
     rcases hcs with⟨rfl,rfl⟩ | ⟨h | ⟨rfl,h⟩,hm⟩
     ·clear P
      go_enter Tryz.func129,Tryz.ntmps129
      go_wp2_with fail
      go_ret
      exact⟨rfl,hb1⟩
     all_goals
      have P2:=hide (P.out hm)
      clear hm P
      go_enter Tryz.func129,Tryz.ntmps129
      go_wp2_with fail
      refine P2.out.mono ?_
      rintro e w2 ⟨rfl,hb2⟩
      clear a0 a1 a2 a3 a4 a5 a6 a7
      obtain⟨a0,a1,a2,a3,a4,a5,a6,a7⟩:=(HF1.out.below hb2).cells
      go_wp2_with fail
      go_ret
      exact⟨rfl,fresh hb1 hb2⟩
    ·have z:¬ (gn:Int)=0:=by omega
     have zb:((gn:Int) == 0)=false:=beq_eq_false_iff_ne.2 z
     rw [decide_eq_false h2]
     rcases hcs with⟨rfl,rfl⟩ | ⟨h | ⟨rfl,h⟩,hm⟩
     ·clear P
      go_enter Tryz.func129,Tryz.ntmps129
      go_wp2_with fail
      go_ret
      exact⟨rfl,hb1⟩
     all_goals
      have P2:=hide (P.out hm)
      clear hm P
      go_enter Tryz.func129,Tryz.ntmps129
      go_wp2_with fail
      refine P2.out.mono ?_
      rintro e w2 ⟨rfl,hb2⟩
      clear a0 a1 a2 a3 a4 a5 a6 a7
      obtain⟨a0,a1,a2,a3,a4,a5,a6,a7⟩:=(HF1.out.below hb2).cells
      go_wp2_with fail
      go_ret
      exact⟨rfl,fresh hb1 hb2⟩
   ·have z:¬ (sn:Int)=0:=by omega
    have zb:((sn:Int) == 0)=false:=beq_eq_false_iff_ne.2 z
    rw [decide_eq_false h1]
    rcases hcs with⟨rfl,rfl⟩ | ⟨h | ⟨rfl,h⟩,hm⟩
    ·clear P
     go_enter Tryz.func129,Tryz.ntmps129
     go_wp2_with fail
     go_ret
     exact⟨rfl,hb1⟩
    all_goals
     have P2:=hide (P.out hm)
     clear hm P
     go_enter Tryz.func129,Tryz.ntmps129
     go_wp2_with fail
     refine P2.out.mono ?_
     rintro e w2 ⟨rfl,hb2⟩
     clear a0 a1 a2 a3 a4 a5 a6 a7
     obtain⟨a0,a1,a2,a3,a4,a5,a6,a7⟩:=(HF1.out.below hb2).cells
     go_wp2_with fail
     go_ret
     exact⟨rfl,fresh hb1 hb2⟩
 | true=>
   have P:=hide (fun h:mayI t r=>by
    have:=refmay_any t r w1
    rwa [decide_eq_true h] at this)
   have R:=hide (fun W (h:Below w1.heap.size w1 W)=>rtmmay_any sA sn sc s W ((hr.below (fresh hb1 h)).more (fresh hb1 h).size) hsn ho hs9)
   have Q:=hide (fun (hm:mayT (s.map TmL.pt)) W (h:Below w1.heap.size w1 W)=>rtmmany_any sA sn sc s W ((hr.below (fresh hb1 h)).more (fresh hb1 h).size) hsn ho hm)
   cases rd with
   | true=>
     have hE:=hide (show decide (oneP ((t,r),(true,true),(s.map TmL.pt,g)))=false from decide_eq_false fun h=>by have:=h.2;simp at this)
     rw [hE.out]
     clear hE hsec F1 hr ho Q R
     rcases hcs with⟨rfl,rfl⟩ | ⟨h | ⟨rfl,h⟩,hm⟩
     rotate_left
     all_goals
      try have P2:=hide (P.out hm)
      try clear hm
      clear P
      go_enter Tryz.func129,Tryz.ntmps129
      go_wp2_with fail
      first
       | (refine P2.out.mono ?_
          rintro e w2 ⟨rfl,hb2⟩
          clear a0 a1 a2 a3 a4 a5 a6 a7
          obtain⟨a0,a1,a2,a3,a4,a5,a6,a7⟩:=(HF1.out.below hb2).cells
          go_wp2_with fail)
       | (have hb2:Below w1.heap.size w1 w1:=Below.refl _ _)
      go_ret
      exact⟨rfl,fresh hb1 hb2⟩
   | false=>
     by_cases hmt:mayT (s.map TmL.pt)
     rotate_left
     ·have hE:=hide (show decide (oneP ((t,r),(false,true),(s.map TmL.pt,g)))=false from decide_eq_false fun h=>hmt (by have:=h.2;simp only [if_true] at this;exact this.2.1))
      rw [hE.out]
      rw [decide_eq_false hmt] at R
      clear hE hsec F1 hr ho Q hmt
      rcases hcs with⟨rfl,rfl⟩ | ⟨h | ⟨rfl,h⟩,hm⟩
      rotate_left
      all_goals
       try have P2:=hide (P.out hm)
       try clear hm
       clear P
       go_enter Tryz.func129,Tryz.ntmps129
       go_wp2_with fail
       first
        | (refine P2.out.mono ?_
           rintro e w2 ⟨rfl,hb2⟩
           clear a0 a1 a2 a3 a4 a5 a6 a7
           obtain⟨a0,a1,a2,a3,a4,a5,a6,a7⟩:=(HF1.out.below hb2).cells
           go_wp2_with fail)
        | (have hb2:Below w1.heap.size w1 w1:=Below.refl _ _)
       refine (R.out _ hb2).mono ?_
       rintro e w3 ⟨rfl,hb3⟩
       have hb03:=fresh hb2 hb3
       clear a0 a1 a2 a3 a4 a5 a6 a7
       go_wp2_with fail
       go_ret
       exact⟨rfl,fresh hb1 hb03⟩
     ·rw [decide_eq_true hmt] at R
      have Q2:=hide (fun W h=>Q.out hmt W h)
      have hE:=hide (show decide (oneP ((t,r),(false,true),(s.map TmL.pt,g)))=(decide (sumT (s.map TmL.pt)≤1024) && decide ((gn:Int)=(sumT (s.map TmL.pt)+7) / 8)) by
       simp only [oneP,hsec,true_and,if_true,hgn,Bool.decide_and,cntT,hmt])
      rw [hE.out]
      have hk0:=(sumT_le (s.map TmL.pt) fun y hy=>(chainT_all _ _ hmt y hy).1).1
      obtain⟨k,hk⟩:∃ q,q=sumT (s.map TmL.pt):=⟨_,rfl⟩
      rw [←hk] at Q2 hk0 ⊢
      clear hE hsec F1 hr ho hk hmt Q
      by_cases hk9:k≤1024
      ·have E:=hide (fun W=>chunks_any k W hk0 hk9)
       rw [decide_eq_true hk9,Bool.true_and]
       rcases hcs with⟨rfl,rfl⟩ | ⟨h | ⟨rfl,h⟩,hm⟩
       rotate_left
       all_goals
        try have P2:=hide (P.out hm)
        try clear hm
        clear P
        go_enter Tryz.func129,Tryz.ntmps129
        go_wp2_with fail
        first
         | (refine P2.out.mono ?_
            rintro e w2 ⟨rfl,hb2⟩
            clear a0 a1 a2 a3 a4 a5 a6 a7
            obtain⟨a0,a1,a2,a3,a4,a5,a6,a7⟩:=(HF1.out.below hb2).cells
            go_wp2_with fail)
         | (have hb2:Below w1.heap.size w1 w1:=Below.refl _ _)
        refine (R.out _ hb2).mono ?_
        rintro e w3 ⟨rfl,hb3⟩
        have hb03:=fresh hb2 hb3
        clear a0 a1 a2 a3 a4 a5 a6 a7
        obtain⟨a0,a1,a2,a3,a4,a5,a6,a7⟩:=(HF1.out.below hb03).cells
        go_wp2_with fail
        refine (Q2.out _ hb03).mono ?_
        rintro e w4 ⟨rfl,hb4⟩
        have hb04:=fresh hb03 hb4
        clear a0 a1 a2 a3 a4 a5 a6 a7
        obtain⟨a0,a1,a2,a3,a4,a5,a6,a7⟩:=(HF1.out.below hb04).cells
        have hB1:w.heap.size < w4.heap.size:=Nat.lt_of_lt_of_le hs1 hb04.size
        go_wp2_with fail
        refine wp_region_wq (by kernel_rfl) (by kernel_rfl) ?_
        repeat (
         refine WQ.step (fun K hK=>?_)
         go_simp
         first
          | (refine hK _ ?_;clear hK K)
          | (apply Exists.intro
             refine⟨fun _=>?_,hK _ ?_⟩
             (go_at_call 164;with_reducible exact past_call (unhide E _))
             clear hK K))
        refine WQ.nil ?_
        intro u
        have hbu:=fresh hb04 (below_past _ u)
        go_wp2_with fail
        go_ret
        exact⟨ret_bool rfl,fresh hb1 hbu⟩
      ·rw [decide_eq_false hk9,Bool.false_and]
       have hk8:(k≤1024)=False:=eq_false hk9
       have hk7:1024 < k:=by omega
       rcases hcs with⟨rfl,rfl⟩ | ⟨h | ⟨rfl,h⟩,hm⟩
       rotate_left
       all_goals
        try have P2:=hide (P.out hm)
        try clear hm
        clear P
        go_enter Tryz.func129,Tryz.ntmps129
        go_wp2_with fail
        first
         | (refine P2.out.mono ?_
            rintro e w2 ⟨rfl,hb2⟩
            clear a0 a1 a2 a3 a4 a5 a6 a7
            obtain⟨a0,a1,a2,a3,a4,a5,a6,a7⟩:=(HF1.out.below hb2).cells
            go_wp2_with fail)
         | (have hb2:Below w1.heap.size w1 w1:=Below.refl _ _)
        refine (R.out _ hb2).mono ?_
        rintro e w3 ⟨rfl,hb3⟩
        have hb03:=fresh hb2 hb3
        clear a0 a1 a2 a3 a4 a5 a6 a7
        obtain⟨a0,a1,a2,a3,a4,a5,a6,a7⟩:=(HF1.out.below hb03).cells
        go_wp2_with fail
        refine (Q2.out _ hb03).mono ?_
        rintro e w4 ⟨rfl,hb4⟩
        have hb04:=fresh hb03 hb4
        clear a0 a1 a2 a3 a4 a5 a6 a7
        obtain⟨a0,a1,a2,a3,a4,a5,a6,a7⟩:=(HF1.out.below hb04).cells
        have hB1:w.heap.size < w4.heap.size:=Nat.lt_of_lt_of_le hs1 hb04.size
        go_wp2_with fail
        refine wp_region_wq (by kernel_rfl) (by kernel_rfl) ?_
        repeat (
         refine WQ.step (fun K hK=>?_)
         go_simp
         refine hK _ ?_
         clear hK K)
        refine WQ.nil ?_
        intro u
        have hbu:=fresh hb04 (below_past _ u)
        go_wp2_with fail
        go_ret
        exact⟨ret_bool rfl,fresh hb1 hbu⟩
theorem rops_any (A:Option Addr) (n c:Nat) (L:List OpL) (m:Int) (w:World) (hr:RO w w.heap.size A L) (hn:L.length=n) (hl:n < 1073741824) (hok:∀ x∈L,okO x):
 Calls Tryz.prog 89 #[.slice A n c,.int .i64 m] w fun e w'=>e= .returned (.bool (decide (someP (L.map OpL.op) m)))∧Below w.heap.size w w':=by
 have hall:(∀ o∈L.map OpL.op,mayP o)↔∀ x∈L,mayL x:=by
  constructor
  ·intro h x hx
   exact h _ (List.mem_map_of_mem hx)
  ·intro h o ho
   obtain⟨x,hx,rfl⟩:=List.mem_map.1 ho
   exact h x hx
 by_cases h0:n=0
 ·have hE:=hide (show decide (someP (L.map OpL.op) m)=false from decide_eq_false fun h=>by have:=h.1;rw [List.length_map,hn] at this;omega)
  rw [hE.out]
  subst h0
  clear hr hn hok hall hE
  go_enter Tryz.func89,Tryz.ntmps89
  go_wp2_with fail
  go_loopw [5] (fun i wr=>i= .int .i64 0∧Below w.heap.size w wr) (fun _ _=>0)
  case atStart=>exact⟨rfl,Below.refl _ _⟩
  case round=>
   obtain⟨rfl,hb⟩:=hrel
   go_wp2_with fail
   go_ret
   exact⟨rfl,hb⟩
 by_cases h2:(n:Int)≤m
 rotate_left
 ·have hE:=hide (show decide (someP (L.map OpL.op) m)=false from decide_eq_false fun h=>h2 (by have:=h.2.1;rw [List.length_map,hn] at this;exact this))
  rw [hE.out]
  have z1:(0:Int) < n:=by omega
  have z2:(1:Int)≤n:=by omega
  clear hr hn hok hall hE h0
  go_enter Tryz.func89,Tryz.ntmps89
  go_wp2_with fail
  go_loopw [5] (fun i wr=>i= .int .i64 0∧Below w.heap.size w wr) (fun _ _=>0)
  case atStart=>exact⟨rfl,Below.refl _ _⟩
  case round=>
   obtain⟨rfl,hb⟩:=hrel
   go_wp2_with fail
   go_ret
   exact⟨ret_bool (decide_eq_false (by omega)),hb⟩
 have hE:∀ b,decide (∀ x∈L,mayL x)=b→decide (someP (L.map OpL.op) m)=b:=by
  intro b hb
  rw [←hb]
  exact decide_eq_decide.2 ⟨fun h=>hall.1 h.2.2,fun h=>⟨by rw [List.length_map,hn];omega,by rw [List.length_map,hn];exact h2,hall.2 h⟩⟩
 have HE:=hide hE
 have HR:=hide hr
 have Hn:=hide hn
 have Hok:=hide hok
 have z2:(1:Int)≤n:=by omega
 clear hr hn hok hall hE h0
 go_enter Tryz.func89,Tryz.ntmps89
 go_wp2_with fail
 go_loopw [5] (fun i wr=>∃ j:Nat,j≤n∧i= .int .i64 (j:Int)∧Hid (∀ x∈L.take j,mayL x)∧Below w.heap.size w wr) (fun i _=>n - (intOf i).toNat)
 case atStart=>exact⟨0,by omega,rfl,hide (fun x hx=>by cases hx),Below.refl _ _⟩
 case round=>
  obtain⟨j,hj,rfl,HM,hb⟩:=hrel
  by_cases hlt:j < n
  ·have hltL:j < L.length:=by rw [Hn.out];exact hlt
   have z0:(j:Int) < n:=by omega
   have zj:(0:Int)≤j:=by omega
   have HRr:=(HR.out.below hb).more hb.size
   obtain⟨bb,bo,rfl,hB,hC⟩:=RO.cell HRr (by omega)
   obtain⟨d0,d1,d2,d3,d4⟩:=hC j hltL
   obtain⟨x,hx⟩:∃ x,L[j]=x:=⟨_,rfl⟩
   rw [hx] at d0 d1 d2 d3 d4
   have hxm:x∈L:=by rw [←hx];exact List.getElem_mem hltL
   have Hx:=hide hxm
   have Htake:=hide (show L.take (j+1)=L.take j++ [x] by rw [List.take_succ_eq_append_getElem hltL,hx])
   have hox:=Hok.out x hxm
   have hP:=hide (refmayo_any x.k x.t x.r x.z x.A x.p.length x.c x.p wr (HRr.2 x hxm) rfl hox.2.2.1)
   clear hC hx hxm hox HRr
   by_cases hm:mayO x.k x.t x.r x.p x.z
   rotate_left
   ·rw [decide_eq_false hm] at hP
    have Hm:=hide (HE.out false (decide_eq_false fun h=>hm (h x Hx.out)))
    clear hm
    go_wp2_with fail
    refine hP.out.mono ?_
    rintro e w2 ⟨rfl,hb2⟩
    go_wp2_with fail
    go_ret
    exact⟨ret_bool Hm.out.symm,fresh hb hb2⟩
   ·rw [decide_eq_true hm] at hP
    have Hm:=hide hm
    clear hm
    go_wp2_with fail
    refine hP.out.mono ?_
    rintro e w2 ⟨rfl,hb2⟩
    go_wp2_with fail
    go_roundw
    case rel=>
     refine⟨j+1,by omega,by go_num,hide fun q hq=>?_,fresh hb hb2⟩
     rw [Htake.out] at hq
     rcases List.mem_append.1 hq with h | h
     ·exact HM.out q h
     ·simp only [List.mem_singleton] at h
      subst h
      exact Hm.out
    case measure=>simp [intOf];omega
  ·have z0:¬ (j:Int) < n:=by omega
   have Ha:=hide (HE.out true (decide_eq_true (by have:=HM.out;rwa [List.take_of_length_le (by rw [Hn.out];omega)] at this)))
   go_wp2_with fail
   go_ret
   exact⟨ret_bool Ha.out.symm,hb⟩
/-- What mail that may not have something has. -/
theorem only_len {b:Bool} {n:Nat}:b=true∨b=false∧n=0∨b=false∧¬ n=0:=by
 cases b
 ·by_cases h:n=0
  ·exact .inr (.inl ⟨rfl,h⟩)
  ·exact .inr (.inr ⟨rfl,h⟩)
 ·exact .inl rfl
theorem ronly_any (k t r ix:Int) (iA oA sA:Option Addr) (ni ic no oc ns sc:Nat) (bs bi bc bw bo:Bool) (w:World):
 Calls Tryz.prog 88 #[mlv k t r ix (.slice iA ni ic) (.slice oA no oc) (.slice sA ns sc),.bool bs,.bool bi,.bool bc,.bool bw,.bool bo] w fun e w'=>e= .returned (.bool ((bs || decide (t=0∧r=0)) && (bi || decide (ix=0)) && (bc || decide (ni=0)) && (bw || decide (ns=0)) && (bo || decide (no=0))))∧Below w.heap.size w w':=by
 obtain⟨w1,hw1,F1,hs1,hb1⟩:=mail_box w (.int .u8 k) (.int .u32 t) (.int .u8 r) (.int .i64 ix) (.slice iA ni ic) (.slice oA no oc) (.slice sA ns sc)
 obtain⟨a0,a1,a2,a3,a4,a5,a6⟩:=F1.cells
 clear F1
 have q1:bs=true∨bs=false∧(t=0∧r=0)∨bs=false∧¬ t=0∨bs=false∧(t=0∧¬ r=0):=by
  cases bs
  ·by_cases h:t=0
   ·by_cases h':r=0
    ·exact .inr (.inl ⟨rfl,h,h'⟩)
    ·exact .inr (.inr (.inr ⟨rfl,h,h'⟩))
   ·exact .inr (.inr (.inl ⟨rfl,h⟩))
  ·exact .inl rfl
 have q2:bi=true∨bi=false∧ix=0∨bi=false∧¬ ix=0:=by
  cases bi
  ·by_cases h:ix=0
   ·exact .inr (.inl ⟨rfl,h⟩)
   ·exact .inr (.inr ⟨rfl,h⟩)
  ·exact .inl rfl
 have q3:=only_len (b:=bc) (n:=ni)
 have q4:=only_len (b:=bw) (n:=ns)
 have q5:=only_len (b:=bo) (n:=no)
 rcases q1 with rfl | ⟨rfl,rfl,rfl⟩ | ⟨rfl,h1⟩ | ⟨rfl,rfl,h1⟩
 ·rcases q2 with rfl | ⟨rfl,rfl⟩ | ⟨rfl,h1⟩
  ·rcases q3 with rfl | ⟨rfl,rfl⟩ | ⟨rfl,h1⟩
   ·rcases q4 with rfl | ⟨rfl,rfl⟩ | ⟨rfl,h1⟩
    ·rcases q5 with rfl | ⟨rfl,rfl⟩ | ⟨rfl,h1⟩
     ·go_enter Tryz.func88,Tryz.ntmps88
      go_wp2_with fail
      go_ret
      exact⟨ret_bool (by rfl),hb1⟩
     ·go_enter Tryz.func88,Tryz.ntmps88
      go_wp2_with fail
      go_ret
      exact⟨ret_bool (by rfl),hb1⟩
     ·have z:¬ (no:Int)=0:=by omega
      have zb:((no:Int) == 0)=false:=beq_eq_false_iff_ne.2 z
      go_enter Tryz.func88,Tryz.ntmps88
      go_wp2_with fail
      go_ret
      exact⟨ret_bool (by simp [h1]),hb1⟩
    ·rcases q5 with rfl | ⟨rfl,rfl⟩ | ⟨rfl,h1⟩
     ·go_enter Tryz.func88,Tryz.ntmps88
      go_wp2_with fail
      go_ret
      exact⟨ret_bool (by rfl),hb1⟩
     ·go_enter Tryz.func88,Tryz.ntmps88
      go_wp2_with fail
      go_ret
      exact⟨ret_bool (by rfl),hb1⟩
     ·have z:¬ (no:Int)=0:=by omega
      have zb:((no:Int) == 0)=false:=beq_eq_false_iff_ne.2 z
      go_enter Tryz.func88,Tryz.ntmps88
      go_wp2_with fail
      go_ret
      exact⟨ret_bool (by simp [h1]),hb1⟩
    ·have z:¬ (ns:Int)=0:=by omega
     have zb:((ns:Int) == 0)=false:=beq_eq_false_iff_ne.2 z
     go_enter Tryz.func88,Tryz.ntmps88
     go_wp2_with fail
     go_ret
     exact⟨ret_bool (by simp [h1]),hb1⟩
   ·rcases q4 with rfl | ⟨rfl,rfl⟩ | ⟨rfl,h1⟩
    ·rcases q5 with rfl | ⟨rfl,rfl⟩ | ⟨rfl,h1⟩
     ·go_enter Tryz.func88,Tryz.ntmps88
      go_wp2_with fail
      go_ret
      exact⟨ret_bool (by rfl),hb1⟩
     ·go_enter Tryz.func88,Tryz.ntmps88
      go_wp2_with fail
      go_ret
      exact⟨ret_bool (by rfl),hb1⟩
     ·have z:¬ (no:Int)=0:=by omega
      have zb:((no:Int) == 0)=false:=beq_eq_false_iff_ne.2 z
      go_enter Tryz.func88,Tryz.ntmps88
      go_wp2_with fail
      go_ret
      exact⟨ret_bool (by simp [h1]),hb1⟩
    ·rcases q5 with rfl | ⟨rfl,rfl⟩ | ⟨rfl,h1⟩
     ·go_enter Tryz.func88,Tryz.ntmps88
      go_wp2_with fail
      go_ret
      exact⟨ret_bool (by rfl),hb1⟩
     ·go_enter Tryz.func88,Tryz.ntmps88
      go_wp2_with fail
      go_ret
      exact⟨ret_bool (by rfl),hb1⟩
     ·have z:¬ (no:Int)=0:=by omega
      have zb:((no:Int) == 0)=false:=beq_eq_false_iff_ne.2 z
      go_enter Tryz.func88,Tryz.ntmps88
      go_wp2_with fail
      go_ret
      exact⟨ret_bool (by simp [h1]),hb1⟩
    ·have z:¬ (ns:Int)=0:=by omega
     have zb:((ns:Int) == 0)=false:=beq_eq_false_iff_ne.2 z
     go_enter Tryz.func88,Tryz.ntmps88
     go_wp2_with fail
     go_ret
     exact⟨ret_bool (by simp [h1]),hb1⟩
   ·have z:¬ (ni:Int)=0:=by omega
    have zb:((ni:Int) == 0)=false:=beq_eq_false_iff_ne.2 z
    go_enter Tryz.func88,Tryz.ntmps88
    go_wp2_with fail
    go_ret
    exact⟨ret_bool (by simp [h1]),hb1⟩
  ·rcases q3 with rfl | ⟨rfl,rfl⟩ | ⟨rfl,h1⟩
   ·rcases q4 with rfl | ⟨rfl,rfl⟩ | ⟨rfl,h1⟩
    ·rcases q5 with rfl | ⟨rfl,rfl⟩ | ⟨rfl,h1⟩
     ·go_enter Tryz.func88,Tryz.ntmps88
      go_wp2_with fail
      go_ret
      exact⟨ret_bool (by rfl),hb1⟩
     ·go_enter Tryz.func88,Tryz.ntmps88
      go_wp2_with fail
      go_ret
      exact⟨ret_bool (by rfl),hb1⟩
     ·have z:¬ (no:Int)=0:=by omega
      have zb:((no:Int) == 0)=false:=beq_eq_false_iff_ne.2 z
      go_enter Tryz.func88,Tryz.ntmps88
      go_wp2_with fail
      go_ret
      exact⟨ret_bool (by simp [h1]),hb1⟩
    ·rcases q5 with rfl | ⟨rfl,rfl⟩ | ⟨rfl,h1⟩
     ·go_enter Tryz.func88,Tryz.ntmps88
      go_wp2_with fail
      go_ret
      exact⟨ret_bool (by rfl),hb1⟩
     ·go_enter Tryz.func88,Tryz.ntmps88
      go_wp2_with fail
      go_ret
      exact⟨ret_bool (by rfl),hb1⟩
     ·have z:¬ (no:Int)=0:=by omega
      have zb:((no:Int) == 0)=false:=beq_eq_false_iff_ne.2 z
      go_enter Tryz.func88,Tryz.ntmps88
      go_wp2_with fail
      go_ret
      exact⟨ret_bool (by simp [h1]),hb1⟩
    ·have z:¬ (ns:Int)=0:=by omega
     have zb:((ns:Int) == 0)=false:=beq_eq_false_iff_ne.2 z
     go_enter Tryz.func88,Tryz.ntmps88
     go_wp2_with fail
     go_ret
     exact⟨ret_bool (by simp [h1]),hb1⟩
   ·rcases q4 with rfl | ⟨rfl,rfl⟩ | ⟨rfl,h1⟩
    ·rcases q5 with rfl | ⟨rfl,rfl⟩ | ⟨rfl,h1⟩
     ·go_enter Tryz.func88,Tryz.ntmps88
      go_wp2_with fail
      go_ret
      exact⟨ret_bool (by rfl),hb1⟩
     ·go_enter Tryz.func88,Tryz.ntmps88
      go_wp2_with fail
      go_ret
      exact⟨ret_bool (by rfl),hb1⟩
     ·have z:¬ (no:Int)=0:=by omega
      have zb:((no:Int) == 0)=false:=beq_eq_false_iff_ne.2 z
      go_enter Tryz.func88,Tryz.ntmps88
      go_wp2_with fail
      go_ret
      exact⟨ret_bool (by simp [h1]),hb1⟩
    ·rcases q5 with rfl | ⟨rfl,rfl⟩ | ⟨rfl,h1⟩
     ·go_enter Tryz.func88,Tryz.ntmps88
      go_wp2_with fail
      go_ret
      exact⟨ret_bool (by rfl),hb1⟩
     ·go_enter Tryz.func88,Tryz.ntmps88
      go_wp2_with fail
      go_ret
      exact⟨ret_bool (by rfl),hb1⟩
     ·have z:¬ (no:Int)=0:=by omega
      have zb:((no:Int) == 0)=false:=beq_eq_false_iff_ne.2 z
      go_enter Tryz.func88,Tryz.ntmps88
      go_wp2_with fail
      go_ret
      exact⟨ret_bool (by simp [h1]),hb1⟩
    ·have z:¬ (ns:Int)=0:=by omega
     have zb:((ns:Int) == 0)=false:=beq_eq_false_iff_ne.2 z
     go_enter Tryz.func88,Tryz.ntmps88
     go_wp2_with fail
     go_ret
     exact⟨ret_bool (by simp [h1]),hb1⟩
   ·have z:¬ (ni:Int)=0:=by omega
    have zb:((ni:Int) == 0)=false:=beq_eq_false_iff_ne.2 z
    go_enter Tryz.func88,Tryz.ntmps88
    go_wp2_with fail
    go_ret
    exact⟨ret_bool (by simp [h1]),hb1⟩
  ·go_enter Tryz.func88,Tryz.ntmps88
   go_wp2_with fail
   go_ret
   exact⟨ret_bool (by simp [h1]),hb1⟩
 ·rcases q2 with rfl | ⟨rfl,rfl⟩ | ⟨rfl,h1⟩
  ·rcases q3 with rfl | ⟨rfl,rfl⟩ | ⟨rfl,h1⟩
   ·rcases q4 with rfl | ⟨rfl,rfl⟩ | ⟨rfl,h1⟩
    ·rcases q5 with rfl | ⟨rfl,rfl⟩ | ⟨rfl,h1⟩
     ·go_enter Tryz.func88,Tryz.ntmps88
      go_wp2_with fail
      go_ret
      exact⟨ret_bool (by rfl),hb1⟩
     ·go_enter Tryz.func88,Tryz.ntmps88
      go_wp2_with fail
      go_ret
      exact⟨ret_bool (by rfl),hb1⟩
     ·have z:¬ (no:Int)=0:=by omega
      have zb:((no:Int) == 0)=false:=beq_eq_false_iff_ne.2 z
      go_enter Tryz.func88,Tryz.ntmps88
      go_wp2_with fail
      go_ret
      exact⟨ret_bool (by simp [h1]),hb1⟩
    ·rcases q5 with rfl | ⟨rfl,rfl⟩ | ⟨rfl,h1⟩
     ·go_enter Tryz.func88,Tryz.ntmps88
      go_wp2_with fail
      go_ret
      exact⟨ret_bool (by rfl),hb1⟩
     ·go_enter Tryz.func88,Tryz.ntmps88
      go_wp2_with fail
      go_ret
      exact⟨ret_bool (by rfl),hb1⟩
     ·have z:¬ (no:Int)=0:=by omega
      have zb:((no:Int) == 0)=false:=beq_eq_false_iff_ne.2 z
      go_enter Tryz.func88,Tryz.ntmps88
      go_wp2_with fail
      go_ret
      exact⟨ret_bool (by simp [h1]),hb1⟩
    ·have z:¬ (ns:Int)=0:=by omega
     have zb:((ns:Int) == 0)=false:=beq_eq_false_iff_ne.2 z
     go_enter Tryz.func88,Tryz.ntmps88
     go_wp2_with fail
     go_ret
     exact⟨ret_bool (by simp [h1]),hb1⟩
   ·rcases q4 with rfl | ⟨rfl,rfl⟩ | ⟨rfl,h1⟩
    ·rcases q5 with rfl | ⟨rfl,rfl⟩ | ⟨rfl,h1⟩
     ·go_enter Tryz.func88,Tryz.ntmps88
      go_wp2_with fail
      go_ret
      exact⟨ret_bool (by rfl),hb1⟩
     ·go_enter Tryz.func88,Tryz.ntmps88
      go_wp2_with fail
      go_ret
      exact⟨ret_bool (by rfl),hb1⟩
     ·have z:¬ (no:Int)=0:=by omega
      have zb:((no:Int) == 0)=false:=beq_eq_false_iff_ne.2 z
      go_enter Tryz.func88,Tryz.ntmps88
      go_wp2_with fail
      go_ret
      exact⟨ret_bool (by simp [h1]),hb1⟩
    ·rcases q5 with rfl | ⟨rfl,rfl⟩ | ⟨rfl,h1⟩
     ·go_enter Tryz.func88,Tryz.ntmps88
      go_wp2_with fail
      go_ret
      exact⟨ret_bool (by rfl),hb1⟩
     ·go_enter Tryz.func88,Tryz.ntmps88
      go_wp2_with fail
      go_ret
      exact⟨ret_bool (by rfl),hb1⟩
     ·have z:¬ (no:Int)=0:=by omega
      have zb:((no:Int) == 0)=false:=beq_eq_false_iff_ne.2 z
      go_enter Tryz.func88,Tryz.ntmps88
      go_wp2_with fail
      go_ret
      exact⟨ret_bool (by simp [h1]),hb1⟩
    ·have z:¬ (ns:Int)=0:=by omega
     have zb:((ns:Int) == 0)=false:=beq_eq_false_iff_ne.2 z
     go_enter Tryz.func88,Tryz.ntmps88
     go_wp2_with fail
     go_ret
     exact⟨ret_bool (by simp [h1]),hb1⟩
   ·have z:¬ (ni:Int)=0:=by omega
    have zb:((ni:Int) == 0)=false:=beq_eq_false_iff_ne.2 z
    go_enter Tryz.func88,Tryz.ntmps88
    go_wp2_with fail
    go_ret
    exact⟨ret_bool (by simp [h1]),hb1⟩
  ·rcases q3 with rfl | ⟨rfl,rfl⟩ | ⟨rfl,h1⟩
   ·rcases q4 with rfl | ⟨rfl,rfl⟩ | ⟨rfl,h1⟩
    ·rcases q5 with rfl | ⟨rfl,rfl⟩ | ⟨rfl,h1⟩
     ·go_enter Tryz.func88,Tryz.ntmps88
      go_wp2_with fail
      go_ret
      exact⟨ret_bool (by rfl),hb1⟩
     ·go_enter Tryz.func88,Tryz.ntmps88
      go_wp2_with fail
      go_ret
      exact⟨ret_bool (by rfl),hb1⟩
     ·have z:¬ (no:Int)=0:=by omega
      have zb:((no:Int) == 0)=false:=beq_eq_false_iff_ne.2 z
      go_enter Tryz.func88,Tryz.ntmps88
      go_wp2_with fail
      go_ret
      exact⟨ret_bool (by simp [h1]),hb1⟩
    ·rcases q5 with rfl | ⟨rfl,rfl⟩ | ⟨rfl,h1⟩
     ·go_enter Tryz.func88,Tryz.ntmps88
      go_wp2_with fail
      go_ret
      exact⟨ret_bool (by rfl),hb1⟩
     ·go_enter Tryz.func88,Tryz.ntmps88
      go_wp2_with fail
      go_ret
      exact⟨ret_bool (by rfl),hb1⟩
     ·have z:¬ (no:Int)=0:=by omega
      have zb:((no:Int) == 0)=false:=beq_eq_false_iff_ne.2 z
      go_enter Tryz.func88,Tryz.ntmps88
      go_wp2_with fail
      go_ret
      exact⟨ret_bool (by simp [h1]),hb1⟩
    ·have z:¬ (ns:Int)=0:=by omega
     have zb:((ns:Int) == 0)=false:=beq_eq_false_iff_ne.2 z
     go_enter Tryz.func88,Tryz.ntmps88
     go_wp2_with fail
     go_ret
     exact⟨ret_bool (by simp [h1]),hb1⟩
   ·rcases q4 with rfl | ⟨rfl,rfl⟩ | ⟨rfl,h1⟩
    ·rcases q5 with rfl | ⟨rfl,rfl⟩ | ⟨rfl,h1⟩
     ·go_enter Tryz.func88,Tryz.ntmps88
      go_wp2_with fail
      go_ret
      exact⟨ret_bool (by rfl),hb1⟩
     ·go_enter Tryz.func88,Tryz.ntmps88
      go_wp2_with fail
      go_ret
      exact⟨ret_bool (by rfl),hb1⟩
     ·have z:¬ (no:Int)=0:=by omega
      have zb:((no:Int) == 0)=false:=beq_eq_false_iff_ne.2 z
      go_enter Tryz.func88,Tryz.ntmps88
      go_wp2_with fail
      go_ret
      exact⟨ret_bool (by simp [h1]),hb1⟩
    ·rcases q5 with rfl | ⟨rfl,rfl⟩ | ⟨rfl,h1⟩
     ·go_enter Tryz.func88,Tryz.ntmps88
      go_wp2_with fail
      go_ret
      exact⟨ret_bool (by rfl),hb1⟩
     ·go_enter Tryz.func88,Tryz.ntmps88
      go_wp2_with fail
      go_ret
      exact⟨ret_bool (by rfl),hb1⟩
     ·have z:¬ (no:Int)=0:=by omega
      have zb:((no:Int) == 0)=false:=beq_eq_false_iff_ne.2 z
      go_enter Tryz.func88,Tryz.ntmps88
      go_wp2_with fail
      go_ret
      exact⟨ret_bool (by simp [h1]),hb1⟩
    ·have z:¬ (ns:Int)=0:=by omega
     have zb:((ns:Int) == 0)=false:=beq_eq_false_iff_ne.2 z
     go_enter Tryz.func88,Tryz.ntmps88
     go_wp2_with fail
     go_ret
     exact⟨ret_bool (by simp [h1]),hb1⟩
   ·have z:¬ (ni:Int)=0:=by omega
    have zb:((ni:Int) == 0)=false:=beq_eq_false_iff_ne.2 z
    go_enter Tryz.func88,Tryz.ntmps88
    go_wp2_with fail
    go_ret
    exact⟨ret_bool (by simp [h1]),hb1⟩
  ·go_enter Tryz.func88,Tryz.ntmps88
   go_wp2_with fail
   go_ret
   exact⟨ret_bool (by simp [h1]),hb1⟩
 ·go_enter Tryz.func88,Tryz.ntmps88
  go_wp2_with fail
  go_ret
  exact⟨ret_bool (by simp [h1]),hb1⟩
 ·go_enter Tryz.func88,Tryz.ntmps88
  go_wp2_with fail
  go_ret
  exact⟨ret_bool (by simp [h1]),hb1⟩
end Go.Proofs.YtmkpfdcnikgokaaGreat
