/-
  Texts of this claim, put together: CodeRefWrite, RefPut, PenClock, PenWish. What each theorem asks stands in its statement.
-/
import Derived.Test.YtmkpfdcnikgokaaGreatLt8
import Derived.Test.YtmkpfdcnikgokaaGreatLt10
import Derived.Test.YtmkpfdcnikgokaaGreatLt11
import Derived.Test.YtmkpfdcnikgokaaGreatLt14
import Derived.Test.YtmkpfdcnikgokaaGreatLt26
import Derived.Test.YtmkpfdcnikgokaaGreatLt27
set_option linter.unusedVariables false
set_option linter.unusedSimpArgs false
set_option maxRecDepth 100000
set_option maxHeartbeats 25600000
namespace Go.Proofs.YtmkpfdcnikgokaaGreat
open Go.RowKit
theorem refbytes_int (z:Int) (w:World) (h0:0≤z) (h:z≤1099511627776):
 Calls Tryz.prog 132 #[.int .i64 z] w fun e w'=>∃ A c,e= .returned (.slice A (nb z.toNat).length c)∧w'.ownsRow w.heap.size 5 1 (.slice A (nb z.toNat).length c) (nb z.toNat).length (u8s (nb z.toNat))∧Below w.heap.size w w':=by
 obtain⟨n,rfl⟩:=Int.eq_ofNat_of_zero_le h0
 refine (refbytes_ok n w (by omega)).mono ?_
 rintro e w' ⟨v,rfl,hown,hb⟩
 obtain⟨A,c,rfl,-,-,-⟩:=own_slice hown
 exact⟨A,c,by rfl,hown,hb⟩
theorem end10_ok (t r m:Int) (w:World) (h1:0≤t) (h2:t≤1073741824) (h3:1≤m) (h4:m≤4096):
 Calls Tryz.prog 166 #[.agg #[.int .u32 t,.int .u8 r,.int .i64 m]] w fun e w'=>e= .returned (.int .i64 (t+m - 1))∧Below w.heap.size w w':=by
 go_enter Tryz.func166,Tryz.ntmps166
 go_wp2_with fail
 go_ret
 exact⟨rfl,boxed _ _⟩
theorem crefbytes_ok (k t r z:Int) (A:Option Addr) (n c:Nat) (p:List Rn) (w:World) (hr:RR w w.heap.size A p) (hn:p.length=n) (hok:∀ x∈p,okR x) (hm:mayO k t r p z) (hi:okI (t,r)):
 Calls Tryz.prog 134 #[opv k t r A n c z] w fun e w'=>∃ v,e= .returned v∧w'.ownsRow w.heap.size 5 1 v (opB k t r p z).length (u8s (opB k t r p z))∧Below w.heap.size w w':=by
 obtain⟨i0,hi0,hz0,hz1,hz2⟩:=info_parts u8info
 obtain⟨w1,hw1,F1,hs1,hb1⟩:=five_fb w (.int .u8 k) (.int .u32 t) (.int .u8 r) (.slice A n c) (.int .i64 z)
 obtain⟨a0,a1,a2,a3,a4⟩:=F1.cells
 have Hm:=hide hm
 have Ok:=hide hok
 have hn64:n≤64:=by have:=hm.2.1.2.1;omega
 have Hn:=hide hn
 have hk4:1≤k∧k≤4:=by
  have:=hm.2.2
  unfold rightO at this
  omega
 have Hi:=hide hi
 have Hpl:=hide (fun j=>pre_len (k:=k) (by omega) hm.2.1 hok j)
 have Hgood:=hide (may_good hm.2.1 hok)
 have HF1:=hide F1
 have hconv:IntKind.i64.wrap k=k:=IntWalk.i64_in _ (by omega)
 have Hnb:=hide (fun (z:Int) (h:0≤z∧z≤1099511627776)=>nb_six (n:=z.toNat) (by omega))
 clear hm hok hn hi F1
 go_enter Tryz.func134,Tryz.ntmps134
 go_wp2_with fail
 refine (refbytes_int k w1 (by omega) (by omega)).mono ?_
 rintro e w2 ⟨A2,c2,rfl,hown2,hb2⟩
 have hb02:=fresh hb1 hb2
 have HF2:=hide (HF1.out.below hb2)
 have hown2':w2.ownsRow w.heap.size 5 1 (.slice A2 (nb k.toNat).length c2) (nbs [k]).length (u8s (nbs [k])):=by
  have e:nbs [k]=nb k.toNat:=by simp [nbs]
  rw [e]
  exact own_base hown2 hb1.size
 clear a0 a1 a2 a3 a4 hown2
 obtain⟨a0,a1,a2,a3,a4⟩:=HF2.out.cells
 go_wp2_with fail
 refine (refbytes_int (n:Int) w2 (by omega) (by omega)).mono ?_
 rintro e w3 ⟨A3,c3,rfl,hown3,hb3⟩
 have hb03:=fresh hb02 hb3
 have HF3:=hide (HF2.out.below hb3)
 have hown23:=own_below hown2' hb3 (Nat.le_refl _)
 have hsz3:(nbs [k]).length+(nb (n:Int).toNat).length≤1073741824:=by
  have h1:=Hnb.out k (by omega)
  have h2:=Hnb.out n (by omega)
  have e:nbs [k]=nb k.toNat:=by simp [nbs]
  rw [e]
  omega
 clear a0 a1 a2 a3 a4 hown2'
 go_wp2_with (at_builtin;refine wpList_append_held _ rfl (.tmp 11) (.tmp 15) 23 rfl w.heap.size 5 i0 (.int .u8 0) 1 1 Tryz.underlying23 hi0 hz0 hz1 hz2 rfl (by decide) _ _ _ rfl hown23 w3.heap.size A3 _ c3 (u8s (nb (n:Int).toNat)) rfl (RD.of_own hown3) (u8s_one _) hsz3 (by decide) hb03.size ?_;intro v4 w4 hown4 hb4 hk4';obtain⟨a0,a1,a2,a3,a4⟩:=(HF3.out.kept hk4').cells)
 have hb04:=hb03.trans hb4
 have HF4:=hide (HF3.out.kept hk4')
 have hown4':w4.ownsRow w.heap.size 5 1 v4 (nbs [k,(n:Int)]).length (u8s (nbs [k,(n:Int)])):=by
  have e:nbs [k,(n:Int)]=nbs [k]++nb (n:Int).toNat:=by simp [nbs]
  rw [e,u8s_append,List.length_append]
  exact hown4
 clear hown4 hown23 hown3 hk4' a0 a1 a2 a3 a4
 go_loopw [3,4,5] (fun u v i wr=>∃ j:Nat,j≤n∧i= .int .i64 (j:Int)∧v= .int .i64 (wasR 0 (p.take j))∧wr.ownsRow w.heap.size 5 1 u (nbs ([k,(n:Int)]++runNums 0 (p.take j))).length (u8s (nbs ([k,(n:Int)]++runNums 0 (p.take j))))∧Hid (FB wr w.heap.size (.int .u8 k) (.int .u32 t) (.int .u8 r) (.slice A n c) (.int .i64 z))∧Below w.heap.size w wr) (fun _ _ i _=>n - (intOf i).toNat)
 case atStart=>exact⟨0,by omega,rfl,rfl,by simpa [runNums] using hown4',HF4,hb04⟩
 case round=>
  obtain⟨j,hj,rfl,rfl,hown,hF,hb⟩:=hrel
  clear HF4 HF3 HF2 hown4' hb04 hb4 hb03 hb3 hb02 hb2
  obtain⟨a0,a1,a2,a3,a4⟩:=hF.out.cells
  by_cases hlt:j < n
  ·have hltp:j < p.length:=by have:=Hn.out;omega
   obtain⟨bA,oA,rfl,hB,hC⟩:=RR.cell (RD.below hr hb) (by omega)
   obtain⟨d0,d1,d2⟩:=hC j hltp
   obtain⟨t1,ht1⟩:∃ x,p[j].1=x:=⟨_,rfl⟩
   obtain⟨r1,hr1⟩:∃ x,p[j].2.1=x:=⟨_,rfl⟩
   obtain⟨m1,hm1⟩:∃ x,p[j].2.2=x:=⟨_,rfl⟩
   obtain⟨g1,g2,g3⟩:=good_take p 0 j Hgood.out hltp
   replace g2:=g2 (Int.le_refl _)
   replace g3:=g3 (by decide)
   obtain⟨e1,e2,e3,e4,e5,e6⟩:=chainR_mem Hm.out.2.1.2.2.1 p[j] (List.getElem_mem hltp)
   have eok:=Ok.out p[j] (List.getElem_mem hltp)
   unfold okR at eok
   have hnx:runNums 0 (p.take (j+1))=runNums 0 (p.take j)++ [t1 - wasR 0 (p.take j),r1,m1]:=by rw [List.take_succ_eq_append_getElem hltp,runNums_snoc,ht1,hr1,hm1]
   have hws:wasR 0 (p.take (j+1))=t1+m1 - 1:=by rw [List.take_succ_eq_append_getElem hltp,wasR_snoc,ht1,hm1]
   have Hnx:=hide (And.intro hnx hws)
   rw [ht1] at d0 g1 e1 e2 e6 eok
   rw [hr1] at d1 e3 eok
   rw [hm1] at d2 e4 e5 e6 eok
   have HP:=Hpl.out j
   rw [Hn.out] at HP
   obtain⟨ws,hws'⟩:∃ x,wasR 0 (p.take j)=x:=⟨_,rfl⟩
   rw [hws'] at g1 g2 g3 Hnx ⊢
   obtain⟨q1,q2,q3,q4,q5,q6⟩:=eok
   have z0:(j:Int) < n:=by omega
   have hc1:IntKind.i64.wrap t1=t1:=IntWalk.i64_in _ (by omega)
   have hc2:IntKind.i64.wrap r1=r1:=IntWalk.i64_in _ (by omega)
   have hc3:IntKind.i64.wrap (t1 - ws)=t1 - ws:=IntWalk.i64_in _ (by omega)
   obtain⟨wx,hwx,FX,hsx,hbx⟩:=three_xb wr (.int .u32 t1) (.int .u8 r1) (.int .i64 m1)
   obtain⟨x0,x1,x2⟩:=FX.cells
   have hbw:=fresh hb hbx
   have hown':=own_below hown hbx (Nat.le_refl _)
   have HFX:=hide FX
   have HFO:=hide (hF.out.below hbx)
   obtain⟨pre,hpre⟩:∃ l,nbs ([k,(n:Int)]++runNums 0 (p.take j))=l:=⟨_,rfl⟩
   have Hpre:=hide hpre
   rw [hpre] at hown' HP
   have HPre:=hide HP
   have s1:=Hnb.out (t1 - ws) (by omega)
   have s2:=Hnb.out r1 (by omega)
   have s3:=Hnb.out m1 (by omega)
   have HS:=hide (And.intro s1 (And.intro s2 s3))
   obtain⟨gx,hgx⟩:∃ g,g=wr.heap.size:=⟨_,rfl⟩
   clear ht1 hr1 hm1 hnx hws hws' HP FX hC hpre hown s1 s2 s3
   go_wp2_with fail
   rw [←hgx] at HFX x0 x1 x2 ⊢
   clear hwx hgx
   have hbwx:=hbw
   have HFXx:=HFX
   have HFOx:=HFO
   have hown'x:=hown'
   clear hbw HFX HFO hown'
   refine (refbytes_int (t1 - ws) wx (by omega) (by omega)).mono ?_
   rintro e w5 ⟨A5,c5,rfl,hown5,hb5⟩
   have hbw5:=fresh hbwx hb5
   have HFX5:=hide (HFXx.out.below hb5)
   have HFO5:=hide (HFOx.out.below hb5)
   have hownb5:=own_below hown'x hb5 (Nat.le_refl _)
   have hs5:(pre).length+(nb ((t1 - ws)).toNat).length≤1073741824:=by
    have h1:=HPre.out
    have h2:=HS.out
    try simp only [List.length_append]
    omega
   clear x0 x1 x2
   go_wp2_with (at_builtin;refine wpList_append_held _ rfl (.tmp 29) (.tmp 35) 23 rfl w.heap.size 5 i0 (.int .u8 0) 1 1 Tryz.underlying23 hi0 hz0 hz1 hz2 rfl (by decide) _ _ _ rfl hownb5 w5.heap.size A5 _ c5 (u8s (nb ((t1 - ws)).toNat)) rfl (RD.of_own hown5) (u8s_one _) hs5 (by decide) hbw5.size ?_;intro v6 w6 hown'6 hb6 hk6;obtain⟨x0,x1,x2⟩:=(HFX5.out.kept hk6).cells)
   have hbw6:=hbw5.trans hb6
   have HFX6:=hide (HFX5.out.kept hk6)
   have HFO6:=hide (HFO5.out.kept hk6)
   rw [←u8s_append,←List.length_append] at hown'6
   clear hownb5 hown5 hk6 HFX5 HFO5
   refine (refbytes_int r1 w6 (by omega) (by omega)).mono ?_
   rintro e w7 ⟨A7,c7,rfl,hown7,hb7⟩
   have hbw7:=fresh hbw6 hb7
   have HFX7:=hide (HFX6.out.below hb7)
   have HFO7:=hide (HFO6.out.below hb7)
   have hownb7:=own_below hown'6 hb7 (Nat.le_refl _)
   have hs7:(pre++nb (t1 - ws).toNat).length+(nb (r1).toNat).length≤1073741824:=by
    have h1:=HPre.out
    have h2:=HS.out
    try simp only [List.length_append]
    omega
   clear x0 x1 x2
   go_wp2_with (at_builtin;refine wpList_append_held _ rfl (.tmp 37) (.tmp 41) 23 rfl w.heap.size 5 i0 (.int .u8 0) 1 1 Tryz.underlying23 hi0 hz0 hz1 hz2 rfl (by decide) _ _ _ rfl hownb7 w7.heap.size A7 _ c7 (u8s (nb (r1).toNat)) rfl (RD.of_own hown7) (u8s_one _) hs7 (by decide) hbw7.size ?_;intro v8 w8 hown'8 hb8 hk8;obtain⟨x0,x1,x2⟩:=(HFX7.out.kept hk8).cells)
   have hbw8:=hbw7.trans hb8
   have HFX8:=hide (HFX7.out.kept hk8)
   have HFO8:=hide (HFO7.out.kept hk8)
   rw [←u8s_append,←List.length_append] at hown'8
   clear hownb7 hown7 hk8 HFX7 HFO7
   refine (refbytes_int m1 w8 (by omega) (by omega)).mono ?_
   rintro e w9 ⟨A9,c9,rfl,hown9,hb9⟩
   have hbw9:=fresh hbw8 hb9
   have HFX9:=hide (HFX8.out.below hb9)
   have HFO9:=hide (HFO8.out.below hb9)
   have hownb9:=own_below hown'8 hb9 (Nat.le_refl _)
   have hs9:(pre++nb (t1 - ws).toNat++nb r1.toNat).length+(nb (m1).toNat).length≤1073741824:=by
    have h1:=HPre.out
    have h2:=HS.out
    try simp only [List.length_append]
    omega
   clear x0 x1 x2
   go_wp2_with (at_builtin;refine wpList_append_held _ rfl (.tmp 43) (.tmp 46) 23 rfl w.heap.size 5 i0 (.int .u8 0) 1 1 Tryz.underlying23 hi0 hz0 hz1 hz2 rfl (by decide) _ _ _ rfl hownb9 w9.heap.size A9 _ c9 (u8s (nb (m1).toNat)) rfl (RD.of_own hown9) (u8s_one _) hs9 (by decide) hbw9.size ?_;intro v10 w10 hown'10 hb10 hk10;obtain⟨x0,x1,x2⟩:=(HFX9.out.kept hk10).cells)
   have hbw10:=hbw9.trans hb10
   have HFX10:=hide (HFX9.out.kept hk10)
   have HFO10:=hide (HFO9.out.kept hk10)
   rw [←u8s_append,←List.length_append] at hown'10
   clear hownb9 hown9 hk10 HFX9 HFO9
   refine (end10_ok t1 r1 m1 w10 (by omega) (by omega) (by omega) (by omega)).mono ?_
   rintro e w11 ⟨rfl,hb11⟩
   have hbw11:=fresh hbw10 hb11
   have hF11:=hide (HFO10.out.below hb11)
   have hown11:=own_below hown'10 hb11 (Nat.le_refl _)
   clear x0 x1 x2 hown'10
   go_wp2_with fail
   go_roundw
   case rel=>
    refine⟨j+1,by omega,by go_num,by rw [Hnx.out.2],?_,hF11,hbw11⟩
    rw [Hnx.out.1,←List.append_assoc,nbs_append,Hpre.out]
    have e:nbs [t1 - ws,r1,m1]=nb (t1 - ws).toNat++(nb r1.toNat++nb m1.toNat):=by simp [nbs]
    rw [e,←List.append_assoc,←List.append_assoc]
    exact hown11
   case measure=>simp [intOf];omega
  ·have hz:¬ (j:Int) < n:=by omega
   have hjn:j=n:=by omega
   have htp:p.take j=p:=List.take_of_length_le (by have:=Hn.out;omega)
   have HPre:=hide (show (nbs ([k,(n:Int)]++runNums 0 p)).length≤6 * 194 by
    have:=Hpl.out j
    rwa [htp,Hn.out] at this)
   rw [htp] at hown ⊢
   subst hjn
   have hlw:=lastR_was Hm.out.2.1 0
   have hpos:=mayR_last_pos Hm.out.2.1
   have hopn:opB k t r p z=nbs ([k,(j:Int)]++(runNums 0 p++tailNums k t r (wasR 0 p) z)):=by
    unfold opB opNums
    rw [Hn.out]
    rfl
   have hws0:0≤wasR 0 p:=by omega
   have hrt:=Hm.out.2.2
   have hii:=Hi.out
   obtain⟨mi1,mi2,mi3⟩:=Hm.out.1
   unfold okI at hii
   simp only at hii
   obtain⟨ws,hws'⟩:∃ x,wasR 0 p=x:=⟨_,rfl⟩
   rw [hws'] at hlw hws0 hopn ⊢
   obtain⟨pre,hpre⟩:∃ l,nbs ([k,(j:Int)]++runNums 0 p)=l:=⟨_,rfl⟩
   have Hpre:=hide hpre
   rw [hpre] at hown HPre
   clear hws' htp hlt hpre
   have hO:=hide (fun W=>refown_ok k t r z A j c W)
   go_wp2_with fail
   refine (unhide hO wr).mono ?_
   rintro e wq ⟨rfl,hbq⟩
   have hbwq:=fresh hb hbq
   have HFq:=hide (hF.out.below hbq)
   have hown'q:=own_below hown hbq (Nat.le_refl _)
   clear a0 a1 a2 a3 a4 hown
   obtain⟨a0,a1,a2,a3,a4⟩:=HFq.out.cells
   have hkk:k=1∨k=2∨(k=3∨k=4):=by omega
   rcases hkk with rfl | rfl | hkk
   ·have hzz:0≤z∧z≤1114111:=by
     rcases hrt with⟨-,-,h⟩ | ⟨h,-⟩ | ⟨h,-⟩
     ·exact⟨h.1,h.2.1⟩
     ·omega
     ·omega
    have Hop:=hide (show opB 1 t r p z=pre++nb z.toNat by rw [hopn,←List.append_assoc,nbs_append,Hpre.out];simp [tailNums,nbs])
    have HS:=hide (Hnb.out z (by omega))
    have hdt:decide ((1:Int)=1∨(1:Int)=2)=true:=by decide
    clear hopn hlw hpos hrt
    rw [hdt]
    go_wp2_with fail
    refine (refbytes_int z wq (by omega) (by omega)).mono ?_
    rintro e w5 ⟨A5,c5,rfl,hown5,hb5⟩
    have hbw5:=fresh hbwq hb5
    have HF5:=hide (HFq.out.below hb5)
    have hownb5:=own_below hown'q hb5 (Nat.le_refl _)
    have hs5:(pre).length+(nb (z).toNat).length≤1073741824:=by
     have h1:=HPre.out
     have h2:=HS.out
     try simp only [List.length_append]
     omega
    clear a0 a1 a2 a3 a4
    go_wp2_with (at_builtin;refine wpList_append_held _ rfl (.tmp 55) (.tmp 58) 23 rfl w.heap.size 5 i0 (.int .u8 0) 1 1 Tryz.underlying23 hi0 hz0 hz1 hz2 rfl (by decide) _ _ _ rfl hownb5 w5.heap.size A5 _ c5 (u8s (nb (z).toNat)) rfl (RD.of_own hown5) (u8s_one _) hs5 (by decide) hbw5.size ?_;intro v6 w6 hown'6 hb6 hk6;obtain⟨a0,a1,a2,a3,a4⟩:=(HF5.out.kept hk6).cells)
    have hbw6:=hbw5.trans hb6
    have HF6:=hide (HF5.out.kept hk6)
    rw [←u8s_append,←List.length_append] at hown'6
    clear hownb5 hown5 hk6 HF5
    go_ret
    exact⟨_,rfl,by rw [Hop.out];exact hown'6,hbw6⟩
   ·have Hop:=hide (show opB 2 t r p z=pre by rw [hopn,←Hpre.out];simp [tailNums])
    have hdt:decide ((2:Int)=1∨(2:Int)=2)=true:=by decide
    clear hopn hlw hpos hrt
    rw [hdt]
    go_wp2_with fail
    go_ret
    exact⟨_,rfl,by rw [Hop.out];exact hown'q,hbwq⟩
   ·have hlt2:ws < t:=by
     rcases hrt with⟨h,-⟩ | ⟨h,-⟩ | ⟨-,-,h⟩
     ·omega
     ·omega
     ·omega
    have Hop:=hide (show opB k t r p z=pre++nb (t - ws).toNat++nb r.toNat by rw [hopn,←List.append_assoc,nbs_append,Hpre.out];unfold tailNums;rw [if_neg (by omega),if_neg (by omega)];simp [nbs])
    have hc1:IntKind.i64.wrap t=t:=IntWalk.i64_in _ (by omega)
    have hc2:IntKind.i64.wrap r=r:=IntWalk.i64_in _ (by omega)
    have hc3:IntKind.i64.wrap (t - ws)=t - ws:=IntWalk.i64_in _ (by omega)
    obtain⟨i1,i2,i3,i4⟩:=hii
    have HS:=hide (And.intro (Hnb.out (t - ws) (by omega)) (Hnb.out r (by omega)))
    have hdt:decide (k=1∨k=2)=false:=decide_eq_false (by omega)
    clear hopn hlw hpos hrt
    rw [hdt]
    go_wp2_with fail
    refine (refbytes_int (t - ws) wq (by omega) (by omega)).mono ?_
    rintro e w5 ⟨A5,c5,rfl,hown5,hb5⟩
    have hbw5:=fresh hbwq hb5
    have HF5:=hide (HFq.out.below hb5)
    have hownb5:=own_below hown'q hb5 (Nat.le_refl _)
    have hs5:(pre).length+(nb ((t - ws)).toNat).length≤1073741824:=by
     have h1:=HPre.out
     have h2:=HS.out
     try simp only [List.length_append]
     omega
    clear a0 a1 a2 a3 a4
    go_wp2_with (at_builtin;refine wpList_append_held _ rfl (.tmp 61) (.tmp 68) 23 rfl w.heap.size 5 i0 (.int .u8 0) 1 1 Tryz.underlying23 hi0 hz0 hz1 hz2 rfl (by decide) _ _ _ rfl hownb5 w5.heap.size A5 _ c5 (u8s (nb ((t - ws)).toNat)) rfl (RD.of_own hown5) (u8s_one _) hs5 (by decide) hbw5.size ?_;intro v6 w6 hown'6 hb6 hk6;obtain⟨a0,a1,a2,a3,a4⟩:=(HF5.out.kept hk6).cells)
    have hbw6:=hbw5.trans hb6
    have HF6:=hide (HF5.out.kept hk6)
    rw [←u8s_append,←List.length_append] at hown'6
    clear hownb5 hown5 hk6 HF5
    refine (refbytes_int r w6 (by omega) (by omega)).mono ?_
    rintro e w7 ⟨A7,c7,rfl,hown7,hb7⟩
    have hbw7:=fresh hbw6 hb7
    have HF7:=hide (HF6.out.below hb7)
    have hownb7:=own_below hown'6 hb7 (Nat.le_refl _)
    have hs7:(pre++nb (t - ws).toNat).length+(nb (r).toNat).length≤1073741824:=by
     have h1:=HPre.out
     have h2:=HS.out
     try simp only [List.length_append]
     omega
    clear a0 a1 a2 a3 a4
    go_wp2_with (at_builtin;refine wpList_append_held _ rfl (.tmp 70) (.tmp 75) 23 rfl w.heap.size 5 i0 (.int .u8 0) 1 1 Tryz.underlying23 hi0 hz0 hz1 hz2 rfl (by decide) _ _ _ rfl hownb7 w7.heap.size A7 _ c7 (u8s (nb (r).toNat)) rfl (RD.of_own hown7) (u8s_one _) hs7 (by decide) hbw7.size ?_;intro v8 w8 hown'8 hb8 hk8;obtain⟨a0,a1,a2,a3,a4⟩:=(HF7.out.kept hk8).cells)
    have hbw8:=hbw7.trans hb8
    have HF8:=hide (HF7.out.kept hk8)
    rw [←u8s_append,←List.length_append] at hown'8
    clear hownb7 hown7 hk8 HF7
    go_ret
    exact⟨_,rfl,by rw [Hop.out];exact hown'8,hbw8⟩
/-- A box of two cells. -/
def B2 (T:TypeId) (w:World) (g:Nat) (a b:Value):Prop:=w.heap[g]?=some (.cells #[a,b] T (0,0))
theorem B2.new (T:TypeId) (w:World) (a b:Value):∃ w2,w.alloc (.cells #[a,b] T)=w2∧B2 T w2 w.heap.size a b∧w.heap.size < w2.heap.size∧Below w.heap.size w w2:=
 ⟨_,rfl,heap_alloc_new _ _,by simp,(Below.refl w.heap.size w).alloc (Nat.le_refl _) _⟩
theorem B2.cells {T:TypeId} {w:World} {g:Nat} {a b:Value} (h:B2 T w g a b):w.cell? ⟨g,0,none⟩=some a∧w.cell? ⟨g,1,none⟩=some b:=
 ⟨by rw [cell_of_row _ _ _ _ _ _ h];rfl,by rw [cell_of_row _ _ _ _ _ _ h];rfl⟩
theorem B2.kept {T:TypeId} {w w':World} {g:Nat} {a b:Value} (h:B2 T w g a b) (hT:T≠5) (hk:Kept w w'):B2 T w' g a b:=
 hk g _ h fun cur e=>by
  simp only [Obj.cells.injEq] at e
  exact hT e.2.1
theorem rnum (base:Nat) (v:Value) (pre:List UInt8) (z:Int) (w:World) (hr:ByR w base v pre) (hbase:base≤w.heap.size) (h0:0≤z) (h1:z≤1099511627776) (hsz:pre.length≤1000000000):
 Calls Tryz.prog 94 #[v,.int .i64 z] w (Lays base w (pre++nb z.toNat)):=by
 obtain⟨i0,hi0,hz0,hz1,hz2⟩:=info_parts u8info
 obtain⟨A,c,rfl,hown⟩:=hr
 have Hown:=hide hown
 have P:=hide (refbytes_int z w h0 h1)
 have hl:=nb_six (n:=z.toNat) (by omega)
 clear hown
 go_enter Tryz.func94,Tryz.ntmps94
 go_wp2_with fail
 refine P.out.mono ?_
 rintro e w2 ⟨A2,c2,rfl,hown2,hb2⟩
 have ho1:=own_below Hown.out hb2 (Nat.le_refl _)
 have hs2:pre.length+(nb z.toNat).length≤1073741824:=by omega
 clear hl
 go_wp2_with (at_builtin;refine wpList_append_held _ rfl (.tmp 5) (.tmp 7) 23 rfl base 5 i0 (.int .u8 0) 1 1 Tryz.underlying23 hi0 hz0 hz1 hz2 rfl (by decide) _ _ _ rfl ho1 w2.heap.size A2 _ c2 (u8s (nb z.toNat)) rfl (RD.of_own hown2) (u8s_one _) hs2 (by decide) (Nat.le_trans hbase hb2.size) ?_;intro v4 w4 hown4 hb4 hk4;rw [←u8s_append,←List.length_append] at hown4;have HO4:=hide hown4;have HB4:=hide ((hb2.mono hbase).trans hb4);have HK4:=hide ((Kept.below hb2).trans hk4);clear hown4 hb4 hk4 hs2)
 go_ret
 exact Lays.mk (ByR.of HO4.out) HB4.out HK4.out
/-- The region's fixed values. -/
def stV (v0:Value) (g:Nat) (t r:Int):List (Option (Nat×Value)):=
 [some (5,v0),some (6,.pointer (some ⟨g,0,none⟩)),some (7,.int .u32 t),some (8,.int .i64 t),none,some (10,.pointer (some ⟨g,1,none⟩)),some (11,.int .u8 r),some (12,.int .i64 r),none,none]
def stS:List (Option Nat):= [some 5,some 6,some 7,some 8,none,some 10,some 11,some 12,none,none]
theorem stSB:CB stS 0 4 9 8 13 9 4:=⟨by decide,by decide,by decide,by decide,by decide,rfl,rfl,rfl⟩
theorem rstamp (base:Nat) (v0:Value) (pre:List UInt8) (t r:Int) (w:World) (hr:ByR w base v0 pre) (hbase:base≤w.heap.size) (ht0:0≤t) (ht1:t≤1099511627776) (hr0:0≤r) (hr1:r≤1099511627776) (hsz:pre.length≤900000000):
 Calls Tryz.prog 97 #[v0,.agg #[.int .u32 t,.int .u8 r]] w (Lays base w (pre++nbs [t,r])):=by
 obtain⟨w1,hw1,F1,hs1,hb1⟩:=B2.new 46 w (.int .u32 t) (.int .u8 r)
 have hR:=hide (hr.below hb1)
 have hbase1:base≤w1.heap.size:=Nat.le_trans hbase hb1.size
 have hc1:IntKind.i64.wrap t=t:=IntWalk.i64_in _ (by omega)
 have hc2:IntKind.i64.wrap r=r:=IntWalk.i64_in _ (by omega)
 have hsz1:(pre++nb t.toNat).length≤1000000000:=by
  have:=nb_six (n:=t.toNat) (by omega)
  rw [List.length_append]
  omega
 have HF:=hide F1
 have HS:=hide (show pre++nb t.toNat++nb r.toNat=pre++nbs [t,r] by simp [nbs])
 clear hr F1
 go_enter Tryz.func97,Tryz.ntmps97
 go_wp2_with fail
 have F1:=HF.out
 refine wp_region_inv (fun done ρ W=>CH w1 base (stV v0 w.heap.size t r) 0 4 9 8 13 9 4 v0 (.slice none 0 0) pre (pre++nb t.toNat) (pre++nb t.toNat++nb r.toNat) done ρ W) (by kernel_rfl) 14 rfl (by kernel_rfl) ?_ ?_ ?_
 ·exact CH.start (Below.refl _ _).drew (Kept.refl _) hR.out rfl
 ·refine⟨?_,?_,?_,?_,?_,?_,?_,?_,?_,?_,trivial⟩
  ·
   intro done ρ W hn hf hd h
   have qs0:ρ 0=v0:=hf 0 (by kernel_rfl)
   clear hf
   refine .inl ⟨rfl,opOK_step fun R9 hR9=>?_⟩
   unfold opOK
   go_simp
   exact hR9 _ _ (h.plain stS rfl stSB 0 5 _ rfl)
  ·
   intro done ρ W hn hf hd h
   have qs3:ρ 3= .pointer (some ⟨w.heap.size,0,none⟩):=hf 3 (by kernel_rfl)
   clear hf
   refine .inl ⟨rfl,opOK_step fun R9 hR9=>?_⟩
   unfold opOK
   go_simp
   exact hR9 _ _ (h.plain stS rfl stSB 1 6 _ rfl)
  ·
   intro done ρ W hn hf hd h
   have qd1:=h.get 1 6 _ rfl (hd 1 (by kernel_rfl))
   obtain⟨d0,d1⟩:=(F1.kept (by decide) h.k).cells
   clear hf
   refine .inl ⟨rfl,opOK_step fun R9 hR9=>?_⟩
   unfold opOK
   go_simp
   exact hR9 _ _ (h.plain stS rfl stSB 2 7 _ rfl)
  ·
   intro done ρ W hn hf hd h
   have qd2:=h.get 2 7 _ rfl (hd 2 (by kernel_rfl))
   clear hf
   refine .inl ⟨rfl,opOK_step fun R9 hR9=>?_⟩
   unfold opOK
   go_simp
   exact hR9 _ _ (h.plain stS rfl stSB 3 8 _ rfl)
  ·
   intro done ρ W hn hf hd h
   have qd0:=h.get 0 5 _ rfl (hd 0 (by kernel_rfl))
   have qd3:=h.get 3 8 _ rfl (hd 3 (by kernel_rfl))
   have h0:=h.c0 hn
   have hd0:=hd 0 (by kernel_rfl)
   clear hf
   refine .inl ⟨rfl,opOK_step fun R9 hR9=>?_⟩
   unfold opOK
   go_simp
   refine (rnum base v0 pre t W h0 (Nat.le_trans hbase1 h.b.size) ht0 (by omega) (by omega)).mono ?_
   rintro e w' ⟨v',rfl,hr',hb',hk'⟩
   exact⟨v',rfl,hR9 _ _ (h.call1 stS rfl stSB hn hd0 hr' hb' hk')⟩
  ·
   intro done ρ W hn hf hd h
   have qs3:ρ 3= .pointer (some ⟨w.heap.size,0,none⟩):=hf 3 (by kernel_rfl)
   clear hf
   refine .inl ⟨rfl,opOK_step fun R9 hR9=>?_⟩
   unfold opOK
   go_simp
   exact hR9 _ _ (h.plain stS rfl stSB 5 10 _ rfl)
  ·
   intro done ρ W hn hf hd h
   have qd5:=h.get 5 10 _ rfl (hd 5 (by kernel_rfl))
   obtain⟨d0,d1⟩:=(F1.kept (by decide) h.k).cells
   clear hf
   refine .inl ⟨rfl,opOK_step fun R9 hR9=>?_⟩
   unfold opOK
   go_simp
   exact hR9 _ _ (h.plain stS rfl stSB 6 11 _ rfl)
  ·
   intro done ρ W hn hf hd h
   have qd6:=h.get 6 11 _ rfl (hd 6 (by kernel_rfl))
   clear hf
   refine .inl ⟨rfl,opOK_step fun R9 hR9=>?_⟩
   unfold opOK
   go_simp
   exact hR9 _ _ (h.plain stS rfl stSB 7 12 _ rfl)
  ·
   intro done ρ W hn hf hd h
   have qd7:=h.get 7 12 _ rfl (hd 7 (by kernel_rfl))
   have h1:=hd 4 (by kernel_rfl)
   have hR1:=h.c1 h1 hn
   clear hf
   refine .inl ⟨rfl,opOK_step fun R9 hR9=>?_⟩
   unfold opOK
   go_simp
   refine (rnum base _ (pre++nb t.toNat) r W hR1 (Nat.le_trans hbase1 h.b.size) hr0 (by omega) hsz1).mono ?_
   rintro e w' ⟨v',rfl,hr',hb',hk'⟩
   exact⟨v',rfl,hR9 _ _ (h.call2 stS rfl stSB hn h1 hr' hb' hk')⟩
  ·
   intro done ρ W hn hf hd h
   have h2:=hd 8 (by kernel_rfl)
   clear hf
   refine .inl ⟨rfl,opOK_step fun R9 hR9=>?_⟩
   unfold opOK
   go_simp
   exact hR9 _ _ (h.lay stS rfl stSB h2 rfl)
 ·intro a' w6 hdf hsz hf h
  have hb6:Below base w1 w6:=h.b
  have hk6:=h.k
  have hR6:=h.c3 (by kernel_rfl)
  obtain⟨T,D⟩:=a'
  have hD:D= []:=hdf
  subst hD
  obtain⟨f,hT,hff⟩:∃ f:Nat→Value,T=((List.range 14).map f).toArray∧slotsOf ⟨T, []⟩=f:=⟨_,arr_list T 14 hsz,rfl⟩
  rw [hff] at hR6
  clear hff hsz hf h hdf
  simp only [List.range,List.range.loop,List.map] at hT
  subst hT
  rw [HS.out] at hR6
  have HFin:=hide (Lays.mk hR6 ((hb1.mono hbase).trans hb6) ((Kept.below hb1).trans hk6))
  clear hR6 hb6 hk6 HS hsz1 hsz
  go_wp2_with fail
  go_ret
  exact HFin.out
/-- A clock's numbers. -/
def spNums:Int→List Sp→List Int
 | _, []=> []
 | was,x :: l=>(x.1 - was) :: (x.2 - x.1) :: spNums x.2 l
def wasS:Int→List Sp→Int
 | was, []=>was
 | _,x :: l=>wasS x.2 l
def tmNums (x:PT):List Int:=x.1 :: (x.2.length:Int) :: spNums 0 x.2
def ckNums (P:List PT):List Int:=(P.length:Int) :: P.flatMap tmNums
theorem spNums_snoc:∀ (l:List Sp) (was:Int) (x:Sp),spNums was (l++ [x])=spNums was l++ [x.1 - wasS was l,x.2 - x.1]
 | [],_,_=>rfl
 | y :: l,was,x=>by simp only [List.cons_append,spNums,wasS,spNums_snoc l y.2 x]
theorem wasS_snoc:∀ (l:List Sp) (was:Int) (x:Sp),wasS was (l++ [x])=x.2
 | [],_,_=>rfl
 | y :: l,was,x=>by simp only [List.cons_append,wasS,wasS_snoc l y.2 x]
theorem wasS_take:∀ (l:List Sp) (was least:Int) (k:Nat) (h:k < l.length),0≤was→was≤least→chainS least l→0≤wasS was (l.take k)∧wasS was (l.take k)≤l[k].1
 | x :: l,was,least,0,_,h0,h1,hc=>by
   obtain⟨c1,c2,c3,c4⟩:=hc
   simp only [List.take_zero,wasS,List.getElem_cons_zero]
   omega
 | x :: l,was,least,k+1,h,h0,h1,hc=>by
   obtain⟨c1,c2,c3,c4⟩:=hc
   have hk:k < l.length:=by simpa using h
   have:=wasS_take l x.2 (x.2+2) k hk (by omega) (by omega) c4
   simpa only [List.take_succ_cons,wasS,List.getElem_cons_succ] using this
theorem spNums_ok:∀ (l:List Sp) (was least:Int),0≤was→was≤least→chainS least l→(∀ z∈spNums was l,0≤z∧z≤1073741824)∧(spNums was l).length=2 * l.length
 | [],_,_,_,_,_=>⟨fun z hz=>(by cases hz),rfl⟩
 | x :: l,was,least,h0,h1,hc=>by
   obtain⟨c1,c2,c3,c4⟩:=hc
   obtain⟨i1,i2⟩:=spNums_ok l x.2 (x.2+2) (by omega) (by omega) c4
   refine⟨fun z hz=>?_,by simp only [spNums,List.length_cons,i2];omega⟩
   simp only [spNums,List.mem_cons] at hz
   rcases hz with rfl | rfl | hz
   ·omega
   ·omega
   ·exact i1 z hz
theorem flatTm_ok:∀ (l:List PT) (last:Int),-1≤last→chainT last l→(∀ z∈l.flatMap tmNums,0≤z∧z≤1073741824)∧(l.flatMap tmNums).length≤2050 * l.length
 | [],_,_,_=>⟨fun z hz=>(by cases hz),by simp⟩
 | x :: l,last,h0,hc=>by
   obtain⟨c1,c2,c3,c4,c5⟩:=hc
   obtain⟨i1,i2⟩:=flatTm_ok l x.1 (by omega) c5
   obtain⟨j1,j2⟩:=spNums_ok x.2 0 1 (by omega) (by omega) c4.2
   have c6:=c4.1
   refine⟨fun z hz=>?_,by simp only [List.flatMap_cons,List.length_append,tmNums,List.length_cons,j2];omega⟩
   simp only [List.flatMap_cons,tmNums,List.cons_append,List.mem_cons,List.mem_append] at hz
   rcases hz with rfl | rfl | hz | hz
   ·omega
   ·omega
   ·exact j1 z hz
   ·exact i1 z hz
theorem mayT_len {P:List PT} (h:mayT P):P.length≤8:=by
 rcases chainT_len P (-1) (by omega) h with h | h
 ·omega
 ·rw [h];exact Nat.zero_le _
theorem ckNums_ok {P:List PT} (h:mayT P):(∀ z∈ckNums P,0≤z∧z≤1099511627776)∧(ckNums P).length≤16401:=by
 obtain⟨h1,h2⟩:=flatTm_ok P (-1) (by omega) h
 have h3:=mayT_len h
 refine⟨fun z hz=>?_,by simp only [ckNums,List.length_cons];omega⟩
 simp only [ckNums,List.mem_cons] at hz
 rcases hz with rfl | hz
 ·omega
 ·have:=h1 z hz
  omega
theorem ck_len {P:List PT} (h:mayT P):(nbs (ckNums P)).length≤100000:=by
 obtain⟨h1,h2⟩:=ckNums_ok h
 have:=nbs_len h1
 omega
/-- A wish's numbers. -/
def bn (b:Bool):Int:=if b=true then 1 else 0
def stN (rd kn:Bool):Int:=if rd=true then 1 else if kn=true then 2 else 0
def gtNums (l:List Bool):List Int:=(l.length:Int) :: l.map bn
def wsNums (x:WP):List Int:= [x.t,x.r,stN x.rd x.kn]++ckNums x.H++ckNums x.S++gtNums x.G
theorem stN_ok (rd kn:Bool):0≤stN rd kn∧stN rd kn≤2:=by
 cases rd <;> cases kn <;> decide
theorem bn_ok (b:Bool):0≤bn b∧bn b≤1:=by cases b <;> decide
theorem three_ok {a b c:Int} (ha:0≤a∧a≤1099511627776) (hb:0≤b∧b≤1099511627776) (hc:0≤c∧c≤1099511627776):∀ z∈ [a,b,c],0≤z∧z≤1099511627776:=by
 intro z hz
 simp only [List.mem_cons,List.not_mem_nil,or_false] at hz
 rcases hz with rfl | rfl | rfl <;> assumption
theorem one_ok {a:Int} (ha:0≤a∧a≤1099511627776):∀ z∈ [a],0≤z∧z≤1099511627776:=by
 intro z hz
 simp only [List.mem_singleton] at hz
 subst hz
 exact ha
end Go.Proofs.YtmkpfdcnikgokaaGreat
