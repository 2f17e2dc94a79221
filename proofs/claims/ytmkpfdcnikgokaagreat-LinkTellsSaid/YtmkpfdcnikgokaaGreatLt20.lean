/-
  Texts of this claim, put together: CodeGet. What each theorem asks stands in its statement.
-/
import Derived.Test.YtmkpfdcnikgokaaGreatLt3
import Derived.Test.YtmkpfdcnikgokaaGreatLt6
import Derived.Test.YtmkpfdcnikgokaaGreatLt12
set_option linter.unusedVariables false
set_option linter.unusedSimpArgs false
set_option maxRecDepth 100000
set_option maxHeartbeats 25600000
namespace Go.Proofs.YtmkpfdcnikgokaaGreat
open Go.RowKit
theorem cget_any (A:Option Addr) (b:List UInt8) (n c:Nat) (w:World) (hr:RB w w.heap.size A b) (hn:b.length=n) (hl:n < 1073741824) (hc:n≤c) (hA:A=none→c=0):
 Calls Tryz.prog 136 #[.slice A n c] w fun e w'=>∃ A' c',e= .returned (.tuple #[opv (outP (getP b)).1 (outP (getP b)).2.1 (outP (getP b)).2.2.1 A' (outP (getP b)).2.2.2.1.length c' (outP (getP b)).2.2.2.2.1,.int .i64 ((outP (getP b)).2.2.2.2.2.1:Int),.int .i64 (outP (getP b)).2.2.2.2.2.2])∧w'.ownsRow w.heap.size 120 3 (.slice A' (outP (getP b)).2.2.2.1.length c') (outP (getP b)).2.2.2.1.length (rns (outP (getP b)).2.2.2.1)∧Below w.heap.size w w':=by
 obtain⟨i0,hi0,hz0,hz1,hz2⟩:=info_parts rinfo
 obtain⟨w1,hw1,F1,hs1,hb1⟩:=five_fb w (.int .u8 0) (.int .u32 0) (.int .u8 0) (.slice none 0 0) (.int .i64 0)
 obtain⟨w2,hw2⟩:∃ w2,w1.alloc (.cells #[.slice A n c,.int .i64 0,.bool false] 178)=w2:=⟨_,rfl⟩
 have hR2:RDR w2 w1.heap.size A n c 0 false:=by rw [←hw2];exact heap_alloc_new _ _
 have hbn2:Below w1.heap.size w1 w2:=by rw [←hw2];exact boxed _ _
 have hb2:Below w.heap.size w w2:=fresh hb1 hbn2
 obtain⟨go,hgo⟩:∃ g,g=w.heap.size:=⟨_,rfl⟩
 obtain⟨gr,hgr⟩:∃ g,g=w1.heap.size:=⟨_,rfl⟩
 rw [←hgo] at F1
 rw [←hgr] at hR2
 have HF2:=hide (F1.below hbn2)
 have HR2:=hide hR2
 have Hgr:=hide (show w.heap.size≤gr by rw [hgr];exact hb1.size)
 have Hgo:=hide (show w.heap.size≤go by rw [hgo];exact Nat.le_refl _)
 have Hne:=hide (show go≠gr by rw [hgo,hgr];omega)
 have HA:=hide hA
 have Hn:=hide hn
 have ha2:0≤n:=Nat.zero_le _
 obtain⟨a2,ea2⟩:∃ a,a=0:=⟨_,rfl⟩
 obtain⟨d2,ed2⟩:∃ a,a=false:=⟨_,rfl⟩
 have HG2:Hid ((d2=false→getP b=(nxt b a2 1 4).bind fun k=>(nxt b k.2 1 64).bind fun m=>(rdRuns b m.1.toNat m.2 0).bind fun q=>(rdTail b k.1 q.1 q.2.1 q.2.2).bind finP)∧(d2=true→getP b=none)):=hide (by rw [ea2,ed2];exact⟨fun _=>getP_start b,fun e=>by cases e⟩)
 rw [←ea2,←ed2] at HR2
 rw [←ea2] at ha2
 clear hA hn F1 hR2 ea2 ed2
 go_enter Tryz.func136,Tryz.ntmps136
 have hmf:∀ (fn:Fn) (first cap:Array Value) (W:World),(Instr.makeFunc fn first cap).run Tryz.prog W= .ok (.func fn first cap) W:=fun _ _ _ _=>rfl
 go_wp2_with fail
 rw [←hgr,←hgo]
 clear hw1 hw2 hbn2 hb1 hs1 hgr hgo
 refine (next_any A b n c gr a2 d2 1 4 w2 HR2.out ((RD.below hr hb2).more hb2.size) Hn.out hl ha2 hc HA.out (by decide)).mono ?_
 rintro e w3 ⟨k,a3,d3,rfl,hR3,ho3,ha3,k1,k2,hs3,hn3,hq3⟩
 have hb3:Below w.heap.size w w3:=hb2.trans (ho3.1.mono Hgr.out)
 have HF3:=hide (HF2.out.only ho3 Hne.out)
 have HG3:Hid ((d3=false→getP b=(nxt b a3 1 64).bind fun m=>(rdRuns b m.1.toNat m.2 0).bind fun q=>(rdTail b k q.1 q.2.1 q.2.2).bind finP)∧(d3=true→getP b=none)):=hide (read_step HG2.out.1 HG2.out.2 hs3 hn3 hq3)
 have HR3:=hide hR3
 clear hs3 hn3 hq3 hR3 ho3
 have hku:IntKind.u8.wrap k=k:=by simp [IntKind.wrap,IntKind.bits,IntKind.signed];omega
 obtain⟨w4,hw4⟩:∃ w4,w3.setCell ⟨go,0,none⟩ (.int .u8 k)=w4:=⟨_,rfl⟩
 have HF4:Hid (FB w4 go (.int .u8 k) (.int .u32 0) (.int .u8 0) (.slice none 0 0) (.int .i64 0)):=hide (by rw [←hw4];exact HF3.out.set0 _)
 have HR4:Hid (RDR w4 gr A n c a3 d3):=hide (by rw [←hw4];exact HR3.out.other (fun e=>Hne.out e.symm) 0 _)
 have hb4:Below w.heap.size w w4:=by rw [←hw4];exact hb3.setCell Hgo.out _
 obtain⟨o0,o1,o2,o3,o4⟩:=HF3.out.cells
 have f0:=HF3.out.fr 0
 go_wp2_with fail
 try rw [hw4]
 clear o0 o1 o2 o3 o4 f0 hw4
 obtain⟨a4,ea4⟩:∃ a,a=a3:=⟨_,rfl⟩
 obtain⟨d4,ed4⟩:∃ a,a=d3:=⟨_,rfl⟩
 rw [←ea4] at HR4 HG3 ha3
 rw [←ed4] at HR4 HG3
 have HG4:=HG3
 have ha4:=ha3
 clear ea4 ed4 HG3 ha3 HF3 HR3 hb3
 refine (next_any A b n c gr a4 d4 1 64 w4 HR4.out ((RD.below hr hb4).more hb4.size) Hn.out hl ha4 hc HA.out (by decide)).mono ?_
 rintro e w5 ⟨m,a5,d5,rfl,hR5,ho5,ha5,m1,m2,hs5,hn5,hq5⟩
 have hb5:Below w.heap.size w w5:=hb4.trans (ho5.1.mono Hgr.out)
 have HF5:=hide (HF4.out.only ho5 Hne.out)
 have HG5:Hid ((d5=false→getP b=(rdRuns b m.toNat a5 0).bind fun q=>(rdTail b k q.1 q.2.1 q.2.2).bind finP)∧(d5=true→getP b=none)):=hide (read_step HG4.out.1 HG4.out.2 hs5 hn5 hq5)
 have HR5:=hide hR5
 clear hs5 hn5 hq5 hR5 ho5
 obtain⟨M,rfl⟩:∃ M:Nat,m=M:=⟨m.toNat,by omega⟩
 clear HG4 HF4 HR4 HG2 HF2 HR2 hb4 hb2
 have hxx:Hid (((M:Int)).toNat=M):=hide (Int.toNat_natCast M)
 rw [hxx.out] at HG5
 go_wp2_with fail
 go_loopw [7,20] (fun v i wr=>∃ (j:Nat) (was:Int) (p:List Rn) (a:Nat) (d:Bool) (A':Option Addr) (c':Nat),j≤M∧i= .int .i64 (j:Int)∧v= .int .i64 was∧0≤was∧was≤1073741824∧p.length=j∧a≤n∧Hid (RDR wr gr A n c a d)∧
  Hid (FB wr go (.int .u8 k) (.int .u32 0) (.int .u8 0) (.slice A' (List.length (α:=Rn) p) c') (.int .i64 0))∧Hid (wr.ownsRow w.heap.size 120 3 (.slice A' (List.length (α:=Rn) p) c') p.length (rns p))∧Hid (∀ x∈p,okR x)∧
  Hid ((d=false→getP b=(rdRuns b (M - j) a was).bind fun q=>(rdTail b k (p++q.1) q.2.1 q.2.2).bind finP)∧(d=true→getP b=none))∧Below w.heap.size w wr) (fun _ i _=>M - (intOf i).toNat)
 case atStart=>exact⟨0,0, [],a5,d5,none,0,by omega,rfl,rfl,by decide,by decide,rfl,ha5,HR5,HF5,hide (World.ownsRow_nil _ _ _ _),hide (fun x hx=>by cases hx),HG5,hb5⟩
 case round=>
  obtain⟨j,was,p,ar,dr,A',c',hj,rfl,rfl,hw0,hw9,hpl,har,HRr,HFr,HOr,HKr,HGr0,hbr⟩:=hrel
  clear HG5 HF5 HR5 hb5 hxx
  by_cases hlt:j < M
  ·have hjm:M - j=(M - (j+1))+1:=by omega
   rw [hjm,run_start] at HGr0
   have HGr:=HGr0
   have z0:(j:Int) < M:=by omega
   have Hpl:=hide hpl
   clear HGr0 hjm hpl
   go_wp2_with fail
   refine (next_any A b n c gr ar dr 1 1073741824 wr HRr.out ((RD.below hr hbr).more hbr.size) Hn.out hl har hc HA.out (by decide)).mono ?_
   rintro e w6 ⟨x,a6,d6,rfl,hR6,ho6,ha6,x1,x2,hs6,hn6,hq6⟩
   have hb6:Below w.heap.size w w6:=hbr.trans (ho6.1.mono Hgr.out)
   have HF6:=hide (HFr.out.only ho6 Hne.out)
   have HG6:Hid ((d6=false→getP b=(nxt b a6 0 7).bind fun r=>(nxt b r.2 1 4096).bind fun mm=>if 1073741824 < was+x+mm.1 - 1 then none else (rdRuns b (M - (j+1)) mm.2 (was+x+mm.1 - 1)).bind fun q=>(rdTail b k ((p++ [(was+x,r.1,mm.1)])++q.1) q.2.1 q.2.2).bind finP)∧(d6=true→getP b=none)):=hide (read_step HGr.out.1 HGr.out.2 hs6 hn6 hq6)
   have HO6:=hide (own_only HOr.out HRr.out ho6)
   have HR6:=hide hR6
   clear hs6 hn6 hq6 hR6 ho6
   have hx64:IntKind.i64.wrap (was+x)=was+x:=IntWalk.i64_in _ (by omega)
   have hx32:IntKind.u32.wrap (was+x)=was+x:=IntWalk.u32_in _ (by omega)
   go_wp2_with fail
   refine (next_any A b n c gr a6 d6 0 7 w6 HR6.out ((RD.below hr hb6).more hb6.size) Hn.out hl ha6 hc HA.out (by decide)).mono ?_
   rintro e w7 ⟨y,a7,d7,rfl,hR7,ho7,ha7,y1,y2,hs7,hn7,hq7⟩
   have hb7:Below w.heap.size w w7:=hb6.trans (ho7.1.mono Hgr.out)
   have HF7:=hide (HF6.out.only ho7 Hne.out)
   have HG7:Hid ((d7=false→getP b=(nxt b a7 1 4096).bind fun mm=>if 1073741824 < was+x+mm.1 - 1 then none else (rdRuns b (M - (j+1)) mm.2 (was+x+mm.1 - 1)).bind fun q=>(rdTail b k ((p++ [(was+x,y,mm.1)])++q.1) q.2.1 q.2.2).bind finP)∧(d7=true→getP b=none)):=hide (read_step HG6.out.1 HG6.out.2 hs7 hn7 hq7)
   have HO7:=hide (own_only HO6.out HR6.out ho7)
   have HR7:=hide hR7
   clear hs7 hn7 hq7 hR7 ho7
   have hy8:IntKind.u8.wrap y=y:=by simp [IntKind.wrap,IntKind.bits,IntKind.signed];omega
   go_wp2_with fail
   refine (next_any A b n c gr a7 d7 1 4096 w7 HR7.out ((RD.below hr hb7).more hb7.size) Hn.out hl ha7 hc HA.out (by decide)).mono ?_
   rintro e w8 ⟨z,a8,d8,rfl,hR8,ho8,ha8,z1,z2,hs8,hn8,hq8⟩
   have hb8:Below w.heap.size w w8:=hb7.trans (ho8.1.mono Hgr.out)
   have HF8:=hide (HF7.out.only ho8 Hne.out)
   have HG8:Hid ((d8=false→getP b=if 1073741824 < was+x+z - 1 then none else (rdRuns b (M - (j+1)) a8 (was+x+z - 1)).bind fun q=>(rdTail b k ((p++ [(was+x,y,z)])++q.1) q.2.1 q.2.2).bind finP)∧(d8=true→getP b=none)):=hide (read_step HG7.out.1 HG7.out.2 hs8 hn8 hq8)
   have HO8:=hide (own_only HO7.out HR7.out ho8)
   have HR8:=hide hR8
   clear hs8 hn8 hq8 hR8 ho8
   clear HG6 HG7 HGr HF6 HF7 HFr HR6 HR7 HRr HO6 HO7 HOr hb6 hb7 hbr
   obtain⟨wx,hwx,FX,hsx,hbx⟩:=three_xb w8 (.int .u32 (was+x)) (.int .u8 y) (.int .i64 z)
   obtain⟨x0,x1',x2'⟩:=FX.cells
   have HFX:=hide FX
   have hbxx:=fresh hb8 hbx
   have HFx:=hide (HF8.out.below hbx)
   have HRx:=hide (HR8.out.below hbx)
   have HOx:=hide (own_below HO8.out hbx (Nat.le_refl _))
   have hc64:IntKind.i64.wrap (was+x+z)=was+x+z:=IntWalk.i64_in _ (by omega)
   have hc65:IntKind.i64.wrap (was+x+z - 1)=was+x+z - 1:=IntWalk.i64_in _ (by omega)
   have hcc:IntKind.i64.wrap (was+x)=was+x:=IntWalk.i64_in _ (by omega)
   obtain⟨o0,o1,o2,o3,o4⟩:=HFx.out.cells
   have f0:=HFx.out.fr 0
   have f1:=HFx.out.fr 1
   have f2:=HFx.out.fr 2
   have f3:=HFx.out.fr 3
   have f4:=HFx.out.fr 4
   clear FX HF8 HR8 HO8 hb8
   by_cases hbig:(1073741824:Int) < was+x+z - 1
   ·have Hnone:=hide (show getP b=none by
     cases hd:d8 with
     | true=>exact HG8.out.2 hd
     | false=>exact (HG8.out.1 hd).trans (if_pos hbig))
    go_wp2_with fail
    have F5:=put5_fb HFx.out (.int .u8 0) (.int .u32 0) (.int .u8 0) (.slice none 0 0) (.int .i64 0)
    have Hb5:Below w.heap.size w (put5 wx go (.int .u8 0) (.int .u32 0) (.int .u8 0) (.slice none 0 0) (.int .i64 0)):=put5_below hbxx _ _ _ _ _ _ Hgo.out
    change bodyPost _ _ _ _ _ (put5 wx go (.int .u8 0) (.int .u32 0) (.int .u8 0) (.slice none 0 0) (.int .i64 0))
    generalize put5 wx go (.int .u8 0) (.int .u32 0) (.int .u8 0) (.slice none 0 0) (.int .i64 0)=WW at F5 Hb5 ⊢
    obtain⟨v0,v1,v2,v3,v4⟩:=F5.cells
    refine bodyPost_ret (v:= .tuple #[opv 0 0 0 none 0 0 0,.int .i64 0,.int .i64 8]) (by simp [results,Tryz.results136,go_sem,v0,v1,v2,v3,v4]) rfl ?_
    exact⟨none,0,by rw [Hnone.out];rfl,by rw [Hnone.out];exact World.ownsRow_nil _ _ _ _,Hb5⟩
   ·have HGn:Hid ((d8=false→getP b=(rdRuns b (M - (j+1)) a8 (was+x+z - 1)).bind fun q=>(rdTail b k ((p++ [(was+x,y,z)])++q.1) q.2.1 q.2.2).bind finP)∧(d8=true→getP b=none)):=hide ⟨fun hd=>(HG8.out.1 hd).trans (if_neg hbig),HG8.out.2⟩
    have HKn:=hide (show ∀ q∈p++ [(was+x,y,z)],okR q by
     intro q hq
     rcases List.mem_append.1 hq with h | h
     ·exact HKr.out q h
     ·simp only [List.mem_singleton] at h
      subst h
      exact⟨by simp only;omega,by simp only;omega,by simp only;omega,by simp only;omega,by simp only;omega,by simp only;omega⟩)
    obtain⟨wy,hwy,FY,hsy,hby⟩:=three_xb wx (.int .u32 (was+x)) (.int .u8 y) (.int .i64 z)
    have HFy:=hide (HFx.out.below hby)
    have HRy:=hide (HRx.out.below hby)
    have hownY:=own_below HOx.out hby (Nat.le_refl _)
    have hbyy:=fresh hbxx hby
    have hrow:RD wy wy.heap.size 3 (some ⟨wx.heap.size,0,none⟩) 1 (rns [(was+x,y,z)]):=by rw [←hwy];exact run_row (was+x) y z wx
    have hsz:p.length+1≤1073741824:=by have:=Hpl.out;omega
    have hby9:w.heap.size≤wy.heap.size:=hbyy.size
    clear FY
    go_wp2_with (at_builtin;refine wpList_append_held _ rfl (.tmp 44) (.tmp 46) 102 rfl w.heap.size 120 i0 (.agg #[.int .u32 0,.int .u8 0,.int .i64 0]) 3 16 Tryz.underlying102 hi0 hz0 hz1 hz2 rfl (by decide) _ p.length (rns p) rfl hownY wy.heap.size (some ⟨wx.heap.size,0,none⟩) 1 1 (rns [(was+x,y,z)]) rfl hrow (rns_one _) hsz (by decide) hby9 ?_;intro v9 w9 hown9 hb9 hk9;obtain⟨A9,c9,rfl,-,-,-⟩:=own_slice hown9;have HF9:=hide (HFy.out.keptR hk9);have HR9:=hide (HRy.out.kept hk9);obtain⟨p0,p1,p2,p3,p4⟩:=HF9.out.cells;have q3:=HF9.out.fr 3)
    go_roundw
    case rel=>
     refine⟨j+1,was+x+z - 1,p++ [(was+x,y,z)],a8,d8,A9,c9,by omega,by go_num,rfl,by omega,by omega,by rw [List.length_append,Hpl.out];rfl,ha8,hide (HR9.out.other (fun e=>Hne.out e.symm) 3 _),hide ?_,hide ?_,HKn,HGn,(hbyy.trans hb9).setCell Hgo.out _⟩
     ·rw [List.length_append,List.length_singleton]
      exact HF9.out.set3 _
     ·rw [List.length_append,List.length_singleton,rns_append]
      exact own_set hown9 HF9.out 3 _
    case measure=>simp [intOf];omega
  ·have hz:¬ (j:Int) < M:=by omega
   have hjM:j=M:=by omega
   have HGx:Hid ((dr=false→getP b=(rdTail b k p was ar).bind finP)∧(dr=true→getP b=none)):=hide (by
    have:=HGr0.out
    rw [show M - j=0 by omega] at this
    simpa [rdRuns] using this)
   have hpl9:p.length < 1000:=by omega
   have HL:=hide (plast_any A' p.length c' p wr (RR.of_own HOr.out rfl) rfl (by omega) HKr.out)
   have HKK:=hide (show ∀ W,RR W W.heap.size A' p→∀ kk T R Z:Int,0≤kk→Calls Tryz.prog 122 #[opv kk T R A' p.length c' Z] W fun e w'=>e= .returned (.int .i64 (chkO kk T R p Z))∧Below W.heap.size W w' from fun W h kk T R Z h0=>opcheck_any kk T R Z A' p.length c' p W h rfl (by omega) HKr.out h0)
   have hkk:k=1∨k=2∨k=3∨k=4:=by omega
   obtain⟨pl,hpl'⟩:∃ l,l=p.length:=⟨_,rfl⟩
   have Hpl:=hide hpl'
   rw [←hpl'] at HFr HOr HL HKK hpl9
   clear HGr0 hpl hpl' hjM
   rcases hkk with rfl | rfl | rfl | rfl
   ·obtain⟨LT,hLT⟩:∃ q,q=(lastR p).1:=⟨_,rfl⟩
    obtain⟨LR,hLR⟩:∃ q,q=(lastR p).2:=⟨_,rfl⟩
    rw [←hLT,←hLR] at HL
    have HG7:Hid ((dr=false→getP b=(nxt b ar 0 1114111).bind fun z=>finP (1,LT,LR,p,z.1,z.2))∧(dr=true→getP b=none)):=hide ⟨fun hd=>by
     rw [HGx.out.1 hd,hLT,hLR]
     simp [rdTail,Option.map_eq_bind,Option.bind_assoc]
     try rfl,HGx.out.2⟩
    obtain⟨o0,o1,o2,o3,o4⟩:=HFr.out.cells
    have f0:=HFr.out.fr 0
    have f1:=HFr.out.fr 1
    have f2:=HFr.out.fr 2
    have f3:=HFr.out.fr 3
    have f4:=HFr.out.fr 4
    go_wp2_with fail
    refine HL.out.mono ?_
    rintro e w6 ⟨rfl,hb6'⟩
    have hb6:=fresh hbr hb6'
    have HF6:=hide (HFr.out.below hb6')
    have HR6:=hide (HRr.out.below hb6')
    have HO6:=hide (own_below HOr.out hb6' (Nat.le_refl _))
    obtain⟨w7,hw7⟩:∃ w7,(w6.setCell ⟨go,1,none⟩ (.int .u32 LT)).setCell ⟨go,2,none⟩ (.int .u8 LR)=w7:=⟨_,rfl⟩
    have HF7:Hid (FB w7 go (.int .u8 1) (.int .u32 LT) (.int .u8 LR) (.slice A' pl c') (.int .i64 0)):=hide (by rw [←hw7];exact HF6.out.set12 _ _)
    have HR7:Hid (RDR w7 gr A n c ar dr):=hide (by rw [←hw7];exact (HR6.out.other (fun e=>Hne.out e.symm) 1 _).other (fun e=>Hne.out e.symm) 2 _)
    have HO7:Hid (w7.ownsRow w.heap.size 120 3 (.slice A' pl c') pl (rns p)):=hide (by rw [←hw7];exact own_set2 HO6.out HF6.out _ _)
    have hb7:Below w.heap.size w w7:=by rw [←hw7];exact (hb6.setCell Hgo.out _).setCell Hgo.out _
    clear o0 o1 o2 o3 o4 f0 f1 f2 f3 f4
    obtain⟨o0,o1,o2,o3,o4⟩:=HF6.out.cells
    have f0:=HF6.out.fr 0
    have f1:=HF6.out.fr 1
    have f2:=HF6.out.fr 2
    have f3:=HF6.out.fr 3
    have f4:=HF6.out.fr 4
    obtain⟨a7,ea7⟩:∃ q,q=ar:=⟨_,rfl⟩
    obtain⟨d7,ed7⟩:∃ q,q=dr:=⟨_,rfl⟩
    rw [←ea7] at HG7 HR7
    rw [←ed7] at HG7 HR7
    have ha7:a7≤n:=by rw [ea7];exact har
    clear ea7 ed7 HFr HRr HOr HGx hbr HF6 HR6 HO6 hb6 hb6'
    have Hlt:=hide (And.intro hLT hLR)
    clear hLT hLR HL
    obtain⟨p0,p1,p2,p3,p4⟩:=HF7.out.cells
    have g0:=HF7.out.fr 0
    have g1:=HF7.out.fr 1
    have g2:=HF7.out.fr 2
    have g3:=HF7.out.fr 3
    have g4:=HF7.out.fr 4
    obtain⟨r0,r1,r2⟩:=HR7.out.cells
    go_wp2_with fail
    try rw [hw7]
    clear hw7 p0 p1 p2 p3 p4 g0 g1 g2 g3 g4 r0 r1 r2
    clear o0 o1 o2 o3 o4 f0 f1 f2 f3 f4
    refine (next_any A b n c gr a7 d7 0 1114111 w7 HR7.out ((RD.below hr hb7).more hb7.size) Hn.out hl ha7 hc HA.out (by decide)).mono ?_
    rintro e w8 ⟨x,a8,d8,rfl,hR8,ho8,ha8,x1,x2,hs8,hn8,hq8⟩
    have hb8:Below w.heap.size w w8:=hb7.trans (ho8.1.mono Hgr.out)
    have HF8:=hide (HF7.out.only ho8 Hne.out)
    have HG8:Hid ((d8=false→getP b=finP (1,LT,LR,p,x,a8))∧(d8=true→getP b=none)):=hide (read_step HG7.out.1 HG7.out.2 hs8 hn8 hq8)
    have HO8:=hide (own_only HO7.out HR7.out ho8)
    have HR8:=hide hR8
    clear hs8 hn8 hq8 hR8 ho8
    obtain⟨w9,hw9⟩:∃ w9,w8.setCell ⟨go,4,none⟩ (.int .i64 x)=w9:=⟨_,rfl⟩
    have HF9:Hid (FB w9 go (.int .u8 1) (.int .u32 LT) (.int .u8 LR) (.slice A' pl c') (.int .i64 x)):=hide (by rw [←hw9];exact HF8.out.set4 _)
    have HR9:Hid (RDR w9 gr A n c a8 d8):=hide (by rw [←hw9];exact HR8.out.other (fun e=>Hne.out e.symm) 4 _)
    have HO9:Hid (w9.ownsRow w.heap.size 120 3 (.slice A' pl c') pl (rns p)):=hide (by rw [←hw9];exact own_set HO8.out HF8.out 4 _)
    have hb9:Below w.heap.size w w9:=by rw [←hw9];exact hb8.setCell Hgo.out _
    obtain⟨o0,o1,o2,o3,o4⟩:=HF8.out.cells
    have f0:=HF8.out.fr 0
    have f1:=HF8.out.fr 1
    have f2:=HF8.out.fr 2
    have f3:=HF8.out.fr 3
    have f4:=HF8.out.fr 4
    obtain⟨a9,ea9⟩:∃ q,q=a8:=⟨_,rfl⟩
    obtain⟨d9,ed9⟩:∃ q,q=d8:=⟨_,rfl⟩
    rw [←ea9] at HR9 HG8
    rw [←ed9] at HR9 HG8
    have HG9:=HG8
    clear ea9 ed9 HG8 HF8 HR8 HO8 hb8
    cases hd:d9 with
    | true=>
      have HRt:=HR9
      rw [hd] at HRt
      obtain⟨r0,r1,r2⟩:=HRt.out.cells
      obtain⟨o0,o1,o2,o3,o4⟩:=HF9.out.cells
      have f0:=HF9.out.fr 0
      have f1:=HF9.out.fr 1
      have f2:=HF9.out.fr 2
      have f3:=HF9.out.fr 3
      have f4:=HF9.out.fr 4
      have Hnone:=hide (HG9.out.2 hd)
      clear hd HG9 HR9
      go_wp2_with fail
      have F5:=put5_fb HF9.out (.int .u8 0) (.int .u32 0) (.int .u8 0) (.slice none 0 0) (.int .i64 0)
      have Hb5:Below w.heap.size w (put5 w9 go (.int .u8 0) (.int .u32 0) (.int .u8 0) (.slice none 0 0) (.int .i64 0)):=put5_below hb9 _ _ _ _ _ _ Hgo.out
      change bodyPost _ _ _ _ _ (put5 w9 go (.int .u8 0) (.int .u32 0) (.int .u8 0) (.slice none 0 0) (.int .i64 0))
      generalize put5 w9 go (.int .u8 0) (.int .u32 0) (.int .u8 0) (.slice none 0 0) (.int .i64 0)=WW at F5 Hb5 ⊢
      obtain⟨v0,v1,v2,v3,v4⟩:=F5.cells
      refine bodyPost_ret (v:= .tuple #[opv 0 0 0 none 0 0 0,.int .i64 0,.int .i64 8]) (by simp [results,Tryz.results136,go_sem,v0,v1,v2,v3,v4]) rfl ?_
      exact⟨none,0,by rw [Hnone.out];rfl,by rw [Hnone.out];exact World.ownsRow_nil _ _ _ _,Hb5⟩
    | false=>
      have HRt:=HR9
      rw [hd] at HRt
      obtain⟨r0,r1,r2⟩:=HRt.out.cells
      obtain⟨o0,o1,o2,o3,o4⟩:=HF9.out.cells
      have f0:=HF9.out.fr 0
      have f1:=HF9.out.fr 1
      have f2:=HF9.out.fr 2
      have f3:=HF9.out.fr 3
      have f4:=HF9.out.fr 4
      have HGf:=hide (HG9.out.1 hd)
      clear hd HG9 HR9
      go_wp2_with fail
      refine (unhide HKK w9 (RR.of_own HO9.out Hpl.out.symm) 1 LT LR x (by decide)).mono ?_
      rintro e wc ⟨rfl,hbc'⟩
      have hbc:=fresh hb9 hbc'
      have HFc:=hide (HF9.out.below hbc')
      have HRc:=hide (HRt.out.below hbc')
      have HOc:=hide (own_below HO9.out hbc' (Nat.le_refl _))
      clear r0 r1 r2 HF9 HRt HO9 hb9
      clear o0 o1 o2 o3 o4 f0 f1 f2 f3 f4
      obtain⟨o0,o1,o2,o3,o4⟩:=HFc.out.cells
      have f0:=HFc.out.fr 0
      have f1:=HFc.out.fr 1
      have f2:=HFc.out.fr 2
      have f3:=HFc.out.fr 3
      have f4:=HFc.out.fr 4
      by_cases hm:mayO 1 LT LR p x
      rotate_left
      ·rw [show chkO 1 LT LR p x=8 from if_neg hm]
       have Hnone:=hide (show getP b=none from HGf.out.trans (if_neg hm))
       clear hm HGf
       go_wp2_with fail
       have F5:=put5_fb HFc.out (.int .u8 0) (.int .u32 0) (.int .u8 0) (.slice none 0 0) (.int .i64 0)
       have Hb5:Below w.heap.size w (put5 wc go (.int .u8 0) (.int .u32 0) (.int .u8 0) (.slice none 0 0) (.int .i64 0)):=put5_below hbc _ _ _ _ _ _ Hgo.out
       change bodyPost _ _ _ _ _ (put5 wc go (.int .u8 0) (.int .u32 0) (.int .u8 0) (.slice none 0 0) (.int .i64 0))
       generalize put5 wc go (.int .u8 0) (.int .u32 0) (.int .u8 0) (.slice none 0 0) (.int .i64 0)=WW at F5 Hb5 ⊢
       obtain⟨v0,v1,v2,v3,v4⟩:=F5.cells
       refine bodyPost_ret (v:= .tuple #[opv 0 0 0 none 0 0 0,.int .i64 0,.int .i64 8]) (by simp [results,Tryz.results136,go_sem,v0,v1,v2,v3,v4]) rfl ?_
       exact⟨none,0,by rw [Hnone.out];rfl,by rw [Hnone.out];exact World.ownsRow_nil _ _ _ _,Hb5⟩
      rw [show chkO 1 LT LR p x=0 from if_pos hm]
      have Hsome:=hide (show getP b=some (1,LT,LR,p,x,a9) from HGf.out.trans (if_pos hm))
      clear hm HGf
      go_wp2_with fail
      clear o0 o1 o2 o3 o4 f0 f1 f2 f3 f4
      refine wp_region_inv (LI [some (84,opv 1 LT LR A' pl c' x),some (85,.pointer (some ⟨gr,0,none⟩)),some (86,.pointer (some ⟨gr,0,none⟩)),some (87,.pointer (some ⟨gr,1,none⟩)),some (88,.int .i64 (a9:Int)),none,some (3,.int .i64 (a9:Int)),some (4,.int .i64 0)] (fun W=>Below w.heap.size w W∧FB W go (.int .u8 1) (.int .u32 LT) (.int .u8 LR) (.slice A' pl c') (.int .i64 x)∧RDR W gr A n c a9 false∧W.ownsRow w.heap.size 120 3 (.slice A' pl c') pl (rns p))) (by kernel_rfl) 89 (by rfl) (by kernel_rfl) ?_ ?_ ?_
      ·exact LI.start _ ⟨hbc.drew,HFc.out,HRc.out,HOc.out⟩
      ·refine⟨?_,?_,?_,?_,?_,?_,?_,?_,trivial⟩
       ·intro done ρ w' hn hf hd h
        have q2:ρ 2= .pointer (some ⟨go,0,none⟩):=hf 2 (by kernel_rfl)
        obtain⟨y0,y1',y2',y3,y4⟩:=h.1.2.1.cells
        clear hf
        refine .inl ⟨rfl,opOK_step fun R hR=>?_⟩
        unfold opOK
        go_simp
        exact hR _ _ (h.put [some 84,some 85,some 86,some 87,some 88,none,some 3,some 4] rfl (by decide) 0 84 _ rfl h.1)
       ·intro done ρ w' hn hf hd h
        have q5:ρ 5= .pointer (some ⟨gr,0,none⟩):=hf 5 (by kernel_rfl)
        clear hf
        refine .inl ⟨rfl,opOK_step fun R hR=>?_⟩
        unfold opOK
        go_simp
        exact hR _ _ (h.put [some 84,some 85,some 86,some 87,some 88,none,some 3,some 4] rfl (by decide) 1 85 _ rfl h.1)
       ·intro done ρ w' hn hf hd h
        have q:=h.get 1 85 _ rfl (hd 1 (by kernel_rfl))
        clear hf
        refine .inl ⟨rfl,opOK_step fun R hR=>?_⟩
        unfold opOK
        go_simp
        exact hR _ _ (h.put [some 84,some 85,some 86,some 87,some 88,none,some 3,some 4] rfl (by decide) 2 86 _ rfl h.1)
       ·intro done ρ w' hn hf hd h
        have q:=h.get 2 86 _ rfl (hd 2 (by kernel_rfl))
        clear hf
        refine .inl ⟨rfl,opOK_step fun R hR=>?_⟩
        unfold opOK
        go_simp
        exact hR _ _ (h.put [some 84,some 85,some 86,some 87,some 88,none,some 3,some 4] rfl (by decide) 3 87 _ rfl h.1)
       ·intro done ρ w' hn hf hd h
        have q:=h.get 3 87 _ rfl (hd 3 (by kernel_rfl))
        obtain⟨y0,y1',y2'⟩:=h.1.2.2.1.cells
        clear hf
        refine .inl ⟨rfl,opOK_step fun R hR=>?_⟩
        unfold opOK
        go_simp
        exact hR _ _ (h.put [some 84,some 85,some 86,some 87,some 88,none,some 3,some 4] rfl (by decide) 4 88 _ rfl h.1)
       ·intro done ρ w' hn hf hd h
        have q2:ρ 2= .pointer (some ⟨go,0,none⟩):=hf 2 (by kernel_rfl)
        have q:=h.get 0 84 _ rfl (hd 0 (by kernel_rfl))
        obtain⟨y0,y1',y2',y3,y4⟩:=h.1.2.1.cells
        have g0:=h.1.2.1.fr 0
        have g1:=h.1.2.1.fr 1
        have g2:=h.1.2.1.fr 2
        have g3:=h.1.2.1.fr 3
        have g4:=h.1.2.1.fr 4
        clear hf
        refine .inl ⟨rfl,opOK_step fun R hR=>?_⟩
        unfold opOK
        go_simp
        refine hR _ _ (h.world 5 _ rfl ?_)
        change _∧FB (put5 w' go (.int .u8 1) (.int .u32 LT) (.int .u8 LR) (.slice A' pl c') (.int .i64 x)) go _ _ _ _ _∧_∧_
        exact⟨put5_below h.1.1 _ _ _ _ _ _ Hgo.out,put5_fb h.1.2.1 _ _ _ _ _,(put5_other (fun e=>Hne.out e.symm)).trans h.1.2.2.1,own_put5 h.1.2.2.2 h.1.2.1⟩
       ·intro done ρ w' hn hf hd h
        have q:=h.get 4 88 _ rfl (hd 4 (by kernel_rfl))
        clear hf
        refine .inl ⟨rfl,opOK_step fun R hR=>?_⟩
        unfold opOK
        go_simp
        exact hR _ _ (h.put [some 84,some 85,some 86,some 87,some 88,none,some 3,some 4] rfl (by decide) 6 3 _ rfl h.1)
       ·intro done ρ w' hn hf hd h
        clear hf
        refine .inl ⟨rfl,opOK_step fun R hR=>?_⟩
        unfold opOK
        go_simp
        exact hR _ _ (h.put [some 84,some 85,some 86,some 87,some 88,none,some 3,some 4] rfl (by decide) 7 4 _ rfl h.1)
      ·intro a' wf hdf hsz hf h
       have h2:slotsOf a' 2= .pointer (some ⟨go,0,none⟩):=hf 2 (by kernel_rfl)
       have h3:=h.get 6 3 _ rfl (by kernel_rfl)
       have h4:=h.get 7 4 _ rfl (by kernel_rfl)
       obtain⟨hbf,HFf,-,HOf⟩:=h.1
       obtain⟨y0,y1',y2',y3,y4⟩:=HFf.cells
       obtain⟨T,D⟩:=a'
       have hD:D= []:=hdf
       subst hD
       obtain⟨f,hT,hff⟩:∃ f:Nat→Value,T=((List.range 89).map f).toArray∧slotsOf ⟨T, []⟩=f:=⟨_,arr_list T 89 hsz,rfl⟩
       rw [hff] at h2 h3 h4
       clear hff hsz hf h hdf
       simp only [List.range,List.range.loop,List.map] at hT
       subst hT
       rw [h2,h3,h4]
       clear h2 h3 h4
       go_wp2_with fail
       refine bodyPost_ret (v:= .tuple #[opv 1 LT LR A' pl c' x,.int .i64 (a9:Int),.int .i64 0]) (by simp [results,Tryz.results136,go_sem,y0,y1',y2',y3,y4]) rfl ?_
       exact⟨A',c',by rw [Hsome.out,Hpl.out];rfl,by
        rw [Hsome.out]
        have e:=HOf
        rw [Hpl.out] at e
        exact e,hbf⟩
   ·obtain⟨LT,hLT⟩:∃ q,q=(lastR p).1:=⟨_,rfl⟩
    obtain⟨LR,hLR⟩:∃ q,q=(lastR p).2:=⟨_,rfl⟩
    rw [←hLT,←hLR] at HL
    have HG7:Hid ((dr=false→getP b=finP (2,LT,LR,p,0,ar))∧(dr=true→getP b=none)):=hide ⟨fun hd=>by
     rw [HGx.out.1 hd,hLT,hLR]
     simp [rdTail]
     try rfl,HGx.out.2⟩
    obtain⟨o0,o1,o2,o3,o4⟩:=HFr.out.cells
    have f0:=HFr.out.fr 0
    have f1:=HFr.out.fr 1
    have f2:=HFr.out.fr 2
    have f3:=HFr.out.fr 3
    have f4:=HFr.out.fr 4
    go_wp2_with fail
    refine HL.out.mono ?_
    rintro e w6 ⟨rfl,hb6'⟩
    have hb6:=fresh hbr hb6'
    have HF6:=hide (HFr.out.below hb6')
    have HR6:=hide (HRr.out.below hb6')
    have HO6:=hide (own_below HOr.out hb6' (Nat.le_refl _))
    obtain⟨w7,hw7⟩:∃ w7,(w6.setCell ⟨go,1,none⟩ (.int .u32 LT)).setCell ⟨go,2,none⟩ (.int .u8 LR)=w7:=⟨_,rfl⟩
    have HF7:Hid (FB w7 go (.int .u8 2) (.int .u32 LT) (.int .u8 LR) (.slice A' pl c') (.int .i64 0)):=hide (by rw [←hw7];exact HF6.out.set12 _ _)
    have HR7:Hid (RDR w7 gr A n c ar dr):=hide (by rw [←hw7];exact (HR6.out.other (fun e=>Hne.out e.symm) 1 _).other (fun e=>Hne.out e.symm) 2 _)
    have HO7:Hid (w7.ownsRow w.heap.size 120 3 (.slice A' pl c') pl (rns p)):=hide (by rw [←hw7];exact own_set2 HO6.out HF6.out _ _)
    have hb7:Below w.heap.size w w7:=by rw [←hw7];exact (hb6.setCell Hgo.out _).setCell Hgo.out _
    clear o0 o1 o2 o3 o4 f0 f1 f2 f3 f4
    obtain⟨o0,o1,o2,o3,o4⟩:=HF6.out.cells
    have f0:=HF6.out.fr 0
    have f1:=HF6.out.fr 1
    have f2:=HF6.out.fr 2
    have f3:=HF6.out.fr 3
    have f4:=HF6.out.fr 4
    obtain⟨a7,ea7⟩:∃ q,q=ar:=⟨_,rfl⟩
    obtain⟨d7,ed7⟩:∃ q,q=dr:=⟨_,rfl⟩
    rw [←ea7] at HG7 HR7
    rw [←ed7] at HG7 HR7
    have ha7:a7≤n:=by rw [ea7];exact har
    clear ea7 ed7 HFr HRr HOr HGx hbr HF6 HR6 HO6 hb6 hb6'
    have Hlt:=hide (And.intro hLT hLR)
    clear hLT hLR HL
    obtain⟨p0,p1,p2,p3,p4⟩:=HF7.out.cells
    have g0:=HF7.out.fr 0
    have g1:=HF7.out.fr 1
    have g2:=HF7.out.fr 2
    have g3:=HF7.out.fr 3
    have g4:=HF7.out.fr 4
    obtain⟨r0,r1,r2⟩:=HR7.out.cells
    have HF9:=HF7
    have HR9:=HR7
    have HO9:=HO7
    have hb9:=hb7
    have HG9:=HG7
    obtain⟨w9,hw99⟩:∃ q,q=w7:=⟨_,rfl⟩
    obtain⟨a9,ea9⟩:∃ q,q=a7:=⟨_,rfl⟩
    obtain⟨d9,ed9⟩:∃ q,q=d7:=⟨_,rfl⟩
    rw [←hw99] at HF9 HR9 HO9 hb9 hw7
    rw [←ea9] at HR9 HG9
    rw [←ed9] at HR9 HG9
    clear HF7 HR7 HO7 hb7 HG7 hw99 ea9 ed9 p0 p1 p2 p3 p4 r0 r1 r2 g0 g1 g2 g3 g4
    cases hd:d9 with
    | true=>
      have HRt:=HR9
      rw [hd] at HRt
      obtain⟨r0,r1,r2⟩:=HRt.out.cells
      obtain⟨o0,o1,o2,o3,o4⟩:=HF9.out.cells
      have f0:=HF9.out.fr 0
      have f1:=HF9.out.fr 1
      have f2:=HF9.out.fr 2
      have f3:=HF9.out.fr 3
      have f4:=HF9.out.fr 4
      have Hnone:=hide (HG9.out.2 hd)
      clear hd HG9 HR9
      go_wp2_with fail
      have F5:=put5_fb HF9.out (.int .u8 0) (.int .u32 0) (.int .u8 0) (.slice none 0 0) (.int .i64 0)
      have Hb5:Below w.heap.size w (put5 w9 go (.int .u8 0) (.int .u32 0) (.int .u8 0) (.slice none 0 0) (.int .i64 0)):=put5_below hb9 _ _ _ _ _ _ Hgo.out
      change bodyPost _ _ _ _ _ (put5 w9 go (.int .u8 0) (.int .u32 0) (.int .u8 0) (.slice none 0 0) (.int .i64 0))
      generalize put5 w9 go (.int .u8 0) (.int .u32 0) (.int .u8 0) (.slice none 0 0) (.int .i64 0)=WW at F5 Hb5 ⊢
      obtain⟨v0,v1,v2,v3,v4⟩:=F5.cells
      refine bodyPost_ret (v:= .tuple #[opv 0 0 0 none 0 0 0,.int .i64 0,.int .i64 8]) (by simp [results,Tryz.results136,go_sem,v0,v1,v2,v3,v4]) rfl ?_
      exact⟨none,0,by rw [Hnone.out];rfl,by rw [Hnone.out];exact World.ownsRow_nil _ _ _ _,Hb5⟩
    | false=>
      have HRt:=HR9
      rw [hd] at HRt
      obtain⟨r0,r1,r2⟩:=HRt.out.cells
      obtain⟨o0,o1,o2,o3,o4⟩:=HF9.out.cells
      have f0:=HF9.out.fr 0
      have f1:=HF9.out.fr 1
      have f2:=HF9.out.fr 2
      have f3:=HF9.out.fr 3
      have f4:=HF9.out.fr 4
      have HGf:=hide (HG9.out.1 hd)
      clear hd HG9 HR9
      go_wp2_with fail
      refine (unhide HKK w9 (RR.of_own HO9.out Hpl.out.symm) 2 LT LR 0 (by decide)).mono ?_
      rintro e wc ⟨rfl,hbc'⟩
      have hbc:=fresh hb9 hbc'
      have HFc:=hide (HF9.out.below hbc')
      have HRc:=hide (HRt.out.below hbc')
      have HOc:=hide (own_below HO9.out hbc' (Nat.le_refl _))
      clear r0 r1 r2 HF9 HRt HO9 hb9
      clear o0 o1 o2 o3 o4 f0 f1 f2 f3 f4
      obtain⟨o0,o1,o2,o3,o4⟩:=HFc.out.cells
      have f0:=HFc.out.fr 0
      have f1:=HFc.out.fr 1
      have f2:=HFc.out.fr 2
      have f3:=HFc.out.fr 3
      have f4:=HFc.out.fr 4
      by_cases hm:mayO 2 LT LR p 0
      rotate_left
      ·rw [show chkO 2 LT LR p 0=8 from if_neg hm]
       have Hnone:=hide (show getP b=none from HGf.out.trans (if_neg hm))
       clear hm HGf
       go_wp2_with fail
       have F5:=put5_fb HFc.out (.int .u8 0) (.int .u32 0) (.int .u8 0) (.slice none 0 0) (.int .i64 0)
       have Hb5:Below w.heap.size w (put5 wc go (.int .u8 0) (.int .u32 0) (.int .u8 0) (.slice none 0 0) (.int .i64 0)):=put5_below hbc _ _ _ _ _ _ Hgo.out
       change bodyPost _ _ _ _ _ (put5 wc go (.int .u8 0) (.int .u32 0) (.int .u8 0) (.slice none 0 0) (.int .i64 0))
       generalize put5 wc go (.int .u8 0) (.int .u32 0) (.int .u8 0) (.slice none 0 0) (.int .i64 0)=WW at F5 Hb5 ⊢
       obtain⟨v0,v1,v2,v3,v4⟩:=F5.cells
       refine bodyPost_ret (v:= .tuple #[opv 0 0 0 none 0 0 0,.int .i64 0,.int .i64 8]) (by simp [results,Tryz.results136,go_sem,v0,v1,v2,v3,v4]) rfl ?_
       exact⟨none,0,by rw [Hnone.out];rfl,by rw [Hnone.out];exact World.ownsRow_nil _ _ _ _,Hb5⟩
      rw [show chkO 2 LT LR p 0=0 from if_pos hm]
      have Hsome:=hide (show getP b=some (2,LT,LR,p,0,a9) from HGf.out.trans (if_pos hm))
      clear hm HGf
      go_wp2_with fail
      clear o0 o1 o2 o3 o4 f0 f1 f2 f3 f4
      refine wp_region_inv (LI [some (84,opv 2 LT LR A' pl c' 0),some (85,.pointer (some ⟨gr,0,none⟩)),some (86,.pointer (some ⟨gr,0,none⟩)),some (87,.pointer (some ⟨gr,1,none⟩)),some (88,.int .i64 (a9:Int)),none,some (3,.int .i64 (a9:Int)),some (4,.int .i64 0)] (fun W=>Below w.heap.size w W∧FB W go (.int .u8 2) (.int .u32 LT) (.int .u8 LR) (.slice A' pl c') (.int .i64 0)∧RDR W gr A n c a9 false∧W.ownsRow w.heap.size 120 3 (.slice A' pl c') pl (rns p))) (by kernel_rfl) 89 (by rfl) (by kernel_rfl) ?_ ?_ ?_
      ·exact LI.start _ ⟨hbc.drew,HFc.out,HRc.out,HOc.out⟩
      ·refine⟨?_,?_,?_,?_,?_,?_,?_,?_,trivial⟩
       ·intro done ρ w' hn hf hd h
        have q2:ρ 2= .pointer (some ⟨go,0,none⟩):=hf 2 (by kernel_rfl)
        obtain⟨y0,y1',y2',y3,y4⟩:=h.1.2.1.cells
        clear hf
        refine .inl ⟨rfl,opOK_step fun R hR=>?_⟩
        unfold opOK
        go_simp
        exact hR _ _ (h.put [some 84,some 85,some 86,some 87,some 88,none,some 3,some 4] rfl (by decide) 0 84 _ rfl h.1)
       ·intro done ρ w' hn hf hd h
        have q5:ρ 5= .pointer (some ⟨gr,0,none⟩):=hf 5 (by kernel_rfl)
        clear hf
        refine .inl ⟨rfl,opOK_step fun R hR=>?_⟩
        unfold opOK
        go_simp
        exact hR _ _ (h.put [some 84,some 85,some 86,some 87,some 88,none,some 3,some 4] rfl (by decide) 1 85 _ rfl h.1)
       ·intro done ρ w' hn hf hd h
        have q:=h.get 1 85 _ rfl (hd 1 (by kernel_rfl))
        clear hf
        refine .inl ⟨rfl,opOK_step fun R hR=>?_⟩
        unfold opOK
        go_simp
        exact hR _ _ (h.put [some 84,some 85,some 86,some 87,some 88,none,some 3,some 4] rfl (by decide) 2 86 _ rfl h.1)
       ·intro done ρ w' hn hf hd h
        have q:=h.get 2 86 _ rfl (hd 2 (by kernel_rfl))
        clear hf
        refine .inl ⟨rfl,opOK_step fun R hR=>?_⟩
        unfold opOK
        go_simp
        exact hR _ _ (h.put [some 84,some 85,some 86,some 87,some 88,none,some 3,some 4] rfl (by decide) 3 87 _ rfl h.1)
       ·intro done ρ w' hn hf hd h
        have q:=h.get 3 87 _ rfl (hd 3 (by kernel_rfl))
        obtain⟨y0,y1',y2'⟩:=h.1.2.2.1.cells
        clear hf
        refine .inl ⟨rfl,opOK_step fun R hR=>?_⟩
        unfold opOK
        go_simp
        exact hR _ _ (h.put [some 84,some 85,some 86,some 87,some 88,none,some 3,some 4] rfl (by decide) 4 88 _ rfl h.1)
       ·intro done ρ w' hn hf hd h
        have q2:ρ 2= .pointer (some ⟨go,0,none⟩):=hf 2 (by kernel_rfl)
        have q:=h.get 0 84 _ rfl (hd 0 (by kernel_rfl))
        obtain⟨y0,y1',y2',y3,y4⟩:=h.1.2.1.cells
        have g0:=h.1.2.1.fr 0
        have g1:=h.1.2.1.fr 1
        have g2:=h.1.2.1.fr 2
        have g3:=h.1.2.1.fr 3
        have g4:=h.1.2.1.fr 4
        clear hf
        refine .inl ⟨rfl,opOK_step fun R hR=>?_⟩
        unfold opOK
        go_simp
        refine hR _ _ (h.world 5 _ rfl ?_)
        change _∧FB (put5 w' go (.int .u8 2) (.int .u32 LT) (.int .u8 LR) (.slice A' pl c') (.int .i64 0)) go _ _ _ _ _∧_∧_
        exact⟨put5_below h.1.1 _ _ _ _ _ _ Hgo.out,put5_fb h.1.2.1 _ _ _ _ _,(put5_other (fun e=>Hne.out e.symm)).trans h.1.2.2.1,own_put5 h.1.2.2.2 h.1.2.1⟩
       ·intro done ρ w' hn hf hd h
        have q:=h.get 4 88 _ rfl (hd 4 (by kernel_rfl))
        clear hf
        refine .inl ⟨rfl,opOK_step fun R hR=>?_⟩
        unfold opOK
        go_simp
        exact hR _ _ (h.put [some 84,some 85,some 86,some 87,some 88,none,some 3,some 4] rfl (by decide) 6 3 _ rfl h.1)
       ·intro done ρ w' hn hf hd h
        clear hf
        refine .inl ⟨rfl,opOK_step fun R hR=>?_⟩
        unfold opOK
        go_simp
        exact hR _ _ (h.put [some 84,some 85,some 86,some 87,some 88,none,some 3,some 4] rfl (by decide) 7 4 _ rfl h.1)
      ·intro a' wf hdf hsz hf h
       have h2:slotsOf a' 2= .pointer (some ⟨go,0,none⟩):=hf 2 (by kernel_rfl)
       have h3:=h.get 6 3 _ rfl (by kernel_rfl)
       have h4:=h.get 7 4 _ rfl (by kernel_rfl)
       obtain⟨hbf,HFf,-,HOf⟩:=h.1
       obtain⟨y0,y1',y2',y3,y4⟩:=HFf.cells
       obtain⟨T,D⟩:=a'
       have hD:D= []:=hdf
       subst hD
       obtain⟨f,hT,hff⟩:∃ f:Nat→Value,T=((List.range 89).map f).toArray∧slotsOf ⟨T, []⟩=f:=⟨_,arr_list T 89 hsz,rfl⟩
       rw [hff] at h2 h3 h4
       clear hff hsz hf h hdf
       simp only [List.range,List.range.loop,List.map] at hT
       subst hT
       rw [h2,h3,h4]
       clear h2 h3 h4
       go_wp2_with fail
       refine bodyPost_ret (v:= .tuple #[opv 2 LT LR A' pl c' 0,.int .i64 (a9:Int),.int .i64 0]) (by simp [results,Tryz.results136,go_sem,y0,y1',y2',y3,y4]) rfl ?_
       exact⟨A',c',by rw [Hsome.out,Hpl.out];rfl,by
        rw [Hsome.out]
        have e:=HOf
        rw [Hpl.out] at e
        exact e,hbf⟩
   ·obtain⟨LT,hLT⟩:∃ q,q=(lastR p).1:=⟨_,rfl⟩
    obtain⟨LR,hLR⟩:∃ q,q=(lastR p).2:=⟨_,rfl⟩
    rw [←hLT,←hLR] at HL
    have HG7:Hid ((dr=false→getP b=(nxt b ar 1 1073741824).bind fun d=>(nxt b d.2 0 7).bind fun r=>finP (3,was+d.1,r.1,p,0,r.2))∧(dr=true→getP b=none)):=hide ⟨fun hd=>by
     rw [HGx.out.1 hd]
     simp [rdTail,Option.map_eq_bind,Option.bind_assoc]
     try rfl,HGx.out.2⟩
    obtain⟨o0,o1,o2,o3,o4⟩:=HFr.out.cells
    have f0:=HFr.out.fr 0
    have f1:=HFr.out.fr 1
    have f2:=HFr.out.fr 2
    have f3:=HFr.out.fr 3
    have f4:=HFr.out.fr 4
    go_wp2_with fail
    refine HL.out.mono ?_
    rintro e w6 ⟨rfl,hb6'⟩
    have hb6:=fresh hbr hb6'
    have HF6:=hide (HFr.out.below hb6')
    have HR6:=hide (HRr.out.below hb6')
    have HO6:=hide (own_below HOr.out hb6' (Nat.le_refl _))
    obtain⟨w7,hw7⟩:∃ w7,(w6.setCell ⟨go,1,none⟩ (.int .u32 LT)).setCell ⟨go,2,none⟩ (.int .u8 LR)=w7:=⟨_,rfl⟩
    have HF7:Hid (FB w7 go (.int .u8 3) (.int .u32 LT) (.int .u8 LR) (.slice A' pl c') (.int .i64 0)):=hide (by rw [←hw7];exact HF6.out.set12 _ _)
    have HR7:Hid (RDR w7 gr A n c ar dr):=hide (by rw [←hw7];exact (HR6.out.other (fun e=>Hne.out e.symm) 1 _).other (fun e=>Hne.out e.symm) 2 _)
    have HO7:Hid (w7.ownsRow w.heap.size 120 3 (.slice A' pl c') pl (rns p)):=hide (by rw [←hw7];exact own_set2 HO6.out HF6.out _ _)
    have hb7:Below w.heap.size w w7:=by rw [←hw7];exact (hb6.setCell Hgo.out _).setCell Hgo.out _
    clear o0 o1 o2 o3 o4 f0 f1 f2 f3 f4
    obtain⟨o0,o1,o2,o3,o4⟩:=HF6.out.cells
    have f0:=HF6.out.fr 0
    have f1:=HF6.out.fr 1
    have f2:=HF6.out.fr 2
    have f3:=HF6.out.fr 3
    have f4:=HF6.out.fr 4
    obtain⟨a7,ea7⟩:∃ q,q=ar:=⟨_,rfl⟩
    obtain⟨d7,ed7⟩:∃ q,q=dr:=⟨_,rfl⟩
    rw [←ea7] at HG7 HR7
    rw [←ed7] at HG7 HR7
    have ha7:a7≤n:=by rw [ea7];exact har
    clear ea7 ed7 HFr HRr HOr HGx hbr HF6 HR6 HO6 hb6 hb6'
    have Hlt:=hide (And.intro hLT hLR)
    clear hLT hLR HL
    obtain⟨p0,p1,p2,p3,p4⟩:=HF7.out.cells
    have g0:=HF7.out.fr 0
    have g1:=HF7.out.fr 1
    have g2:=HF7.out.fr 2
    have g3:=HF7.out.fr 3
    have g4:=HF7.out.fr 4
    obtain⟨r0,r1,r2⟩:=HR7.out.cells
    go_wp2_with fail
    try rw [hw7]
    clear hw7 p0 p1 p2 p3 p4 g0 g1 g2 g3 g4 r0 r1 r2
    clear o0 o1 o2 o3 o4 f0 f1 f2 f3 f4
    refine (next_any A b n c gr a7 d7 1 1073741824 w7 HR7.out ((RD.below hr hb7).more hb7.size) Hn.out hl ha7 hc HA.out (by decide)).mono ?_
    rintro e w8 ⟨x,a8,d8,rfl,hR8,ho8,ha8,x1,x2,hs8,hn8,hq8⟩
    have hb8:Below w.heap.size w w8:=hb7.trans (ho8.1.mono Hgr.out)
    have HF8:=hide (HF7.out.only ho8 Hne.out)
    have HG8:Hid ((d8=false→getP b=(nxt b a8 0 7).bind fun r=>finP (3,was+x,r.1,p,0,r.2))∧(d8=true→getP b=none)):=hide (read_step HG7.out.1 HG7.out.2 hs8 hn8 hq8)
    have HO8:=hide (own_only HO7.out HR7.out ho8)
    have HR8:=hide hR8
    clear hs8 hn8 hq8 hR8 ho8
    have hx64:IntKind.i64.wrap (was+x)=was+x:=IntWalk.i64_in _ (by omega)
    have hx32:IntKind.u32.wrap (was+x)=was+x:=IntWalk.u32_in _ (by omega)
    go_wp2_with fail
    refine (next_any A b n c gr a8 d8 0 7 w8 HR8.out ((RD.below hr hb8).more hb8.size) Hn.out hl ha8 hc HA.out (by decide)).mono ?_
    rintro e w10 ⟨y,a10,d10,rfl,hR10,ho10,ha10,y1,y2,hs10,hn10,hq10⟩
    have hb10:Below w.heap.size w w10:=hb8.trans (ho10.1.mono Hgr.out)
    have HF10:=hide (HF8.out.only ho10 Hne.out)
    have HG10:Hid ((d10=false→getP b=finP (3,was+x,y,p,0,a10))∧(d10=true→getP b=none)):=hide (read_step HG8.out.1 HG8.out.2 hs10 hn10 hq10)
    have HO10:=hide (own_only HO8.out HR8.out ho10)
    have HR10:=hide hR10
    clear hs10 hn10 hq10 hR10 ho10
    have hy8:IntKind.u8.wrap y=y:=by simp [IntKind.wrap,IntKind.bits,IntKind.signed];omega
    obtain⟨w9,hw9⟩:∃ w9,(w10.setCell ⟨go,1,none⟩ (.int .u32 (was+x))).setCell ⟨go,2,none⟩ (.int .u8 y)=w9:=⟨_,rfl⟩
    have HF9:Hid (FB w9 go (.int .u8 3) (.int .u32 (was+x)) (.int .u8 y) (.slice A' pl c') (.int .i64 0)):=hide (by rw [←hw9];exact HF10.out.set12 _ _)
    have HR9:Hid (RDR w9 gr A n c a10 d10):=hide (by rw [←hw9];exact (HR10.out.other (fun e=>Hne.out e.symm) 1 _).other (fun e=>Hne.out e.symm) 2 _)
    have HO9:Hid (w9.ownsRow w.heap.size 120 3 (.slice A' pl c') pl (rns p)):=hide (by rw [←hw9];exact own_set2 HO10.out HF10.out _ _)
    have hb9:Below w.heap.size w w9:=by rw [←hw9];exact (hb10.setCell Hgo.out _).setCell Hgo.out _
    obtain⟨o0,o1,o2,o3,o4⟩:=HF10.out.cells
    have f0:=HF10.out.fr 0
    have f1:=HF10.out.fr 1
    have f2:=HF10.out.fr 2
    have f3:=HF10.out.fr 3
    have f4:=HF10.out.fr 4
    obtain⟨a9,ea9⟩:∃ q,q=a10:=⟨_,rfl⟩
    obtain⟨d9,ed9⟩:∃ q,q=d10:=⟨_,rfl⟩
    rw [←ea9] at HR9 HG10
    rw [←ed9] at HR9 HG10
    have HG9:=HG10
    clear ea9 ed9 HG10 HF10 HR10 HO10 hb10
    cases hd:d9 with
    | true=>
      have HRt:=HR9
      rw [hd] at HRt
      obtain⟨r0,r1,r2⟩:=HRt.out.cells
      obtain⟨o0,o1,o2,o3,o4⟩:=HF9.out.cells
      have f0:=HF9.out.fr 0
      have f1:=HF9.out.fr 1
      have f2:=HF9.out.fr 2
      have f3:=HF9.out.fr 3
      have f4:=HF9.out.fr 4
      have Hnone:=hide (HG9.out.2 hd)
      clear hd HG9 HR9
      go_wp2_with fail
      have F5:=put5_fb HF9.out (.int .u8 0) (.int .u32 0) (.int .u8 0) (.slice none 0 0) (.int .i64 0)
      have Hb5:Below w.heap.size w (put5 w9 go (.int .u8 0) (.int .u32 0) (.int .u8 0) (.slice none 0 0) (.int .i64 0)):=put5_below hb9 _ _ _ _ _ _ Hgo.out
      change bodyPost _ _ _ _ _ (put5 w9 go (.int .u8 0) (.int .u32 0) (.int .u8 0) (.slice none 0 0) (.int .i64 0))
      generalize put5 w9 go (.int .u8 0) (.int .u32 0) (.int .u8 0) (.slice none 0 0) (.int .i64 0)=WW at F5 Hb5 ⊢
      obtain⟨v0,v1,v2,v3,v4⟩:=F5.cells
      refine bodyPost_ret (v:= .tuple #[opv 0 0 0 none 0 0 0,.int .i64 0,.int .i64 8]) (by simp [results,Tryz.results136,go_sem,v0,v1,v2,v3,v4]) rfl ?_
      exact⟨none,0,by rw [Hnone.out];rfl,by rw [Hnone.out];exact World.ownsRow_nil _ _ _ _,Hb5⟩
    | false=>
      have HRt:=HR9
      rw [hd] at HRt
      obtain⟨r0,r1,r2⟩:=HRt.out.cells
      obtain⟨o0,o1,o2,o3,o4⟩:=HF9.out.cells
      have f0:=HF9.out.fr 0
      have f1:=HF9.out.fr 1
      have f2:=HF9.out.fr 2
      have f3:=HF9.out.fr 3
      have f4:=HF9.out.fr 4
      have HGf:=hide (HG9.out.1 hd)
      clear hd HG9 HR9
      go_wp2_with fail
      refine (unhide HKK w9 (RR.of_own HO9.out Hpl.out.symm) 3 (was+x) y 0 (by decide)).mono ?_
      rintro e wc ⟨rfl,hbc'⟩
      have hbc:=fresh hb9 hbc'
      have HFc:=hide (HF9.out.below hbc')
      have HRc:=hide (HRt.out.below hbc')
      have HOc:=hide (own_below HO9.out hbc' (Nat.le_refl _))
      clear r0 r1 r2 HF9 HRt HO9 hb9
      clear o0 o1 o2 o3 o4 f0 f1 f2 f3 f4
      obtain⟨o0,o1,o2,o3,o4⟩:=HFc.out.cells
      have f0:=HFc.out.fr 0
      have f1:=HFc.out.fr 1
      have f2:=HFc.out.fr 2
      have f3:=HFc.out.fr 3
      have f4:=HFc.out.fr 4
      by_cases hm:mayO 3 (was+x) y p 0
      rotate_left
      ·rw [show chkO 3 (was+x) y p 0=8 from if_neg hm]
       have Hnone:=hide (show getP b=none from HGf.out.trans (if_neg hm))
       clear hm HGf
       go_wp2_with fail
       have F5:=put5_fb HFc.out (.int .u8 0) (.int .u32 0) (.int .u8 0) (.slice none 0 0) (.int .i64 0)
       have Hb5:Below w.heap.size w (put5 wc go (.int .u8 0) (.int .u32 0) (.int .u8 0) (.slice none 0 0) (.int .i64 0)):=put5_below hbc _ _ _ _ _ _ Hgo.out
       change bodyPost _ _ _ _ _ (put5 wc go (.int .u8 0) (.int .u32 0) (.int .u8 0) (.slice none 0 0) (.int .i64 0))
       generalize put5 wc go (.int .u8 0) (.int .u32 0) (.int .u8 0) (.slice none 0 0) (.int .i64 0)=WW at F5 Hb5 ⊢
       obtain⟨v0,v1,v2,v3,v4⟩:=F5.cells
       refine bodyPost_ret (v:= .tuple #[opv 0 0 0 none 0 0 0,.int .i64 0,.int .i64 8]) (by simp [results,Tryz.results136,go_sem,v0,v1,v2,v3,v4]) rfl ?_
       exact⟨none,0,by rw [Hnone.out];rfl,by rw [Hnone.out];exact World.ownsRow_nil _ _ _ _,Hb5⟩
      rw [show chkO 3 (was+x) y p 0=0 from if_pos hm]
      have Hsome:=hide (show getP b=some (3,(was+x),y,p,0,a9) from HGf.out.trans (if_pos hm))
      clear hm HGf
      go_wp2_with fail
      clear o0 o1 o2 o3 o4 f0 f1 f2 f3 f4
      refine wp_region_inv (LI [some (84,opv 3 (was+x) y A' pl c' 0),some (85,.pointer (some ⟨gr,0,none⟩)),some (86,.pointer (some ⟨gr,0,none⟩)),some (87,.pointer (some ⟨gr,1,none⟩)),some (88,.int .i64 (a9:Int)),none,some (3,.int .i64 (a9:Int)),some (4,.int .i64 0)] (fun W=>Below w.heap.size w W∧FB W go (.int .u8 3) (.int .u32 (was+x)) (.int .u8 y) (.slice A' pl c') (.int .i64 0)∧RDR W gr A n c a9 false∧W.ownsRow w.heap.size 120 3 (.slice A' pl c') pl (rns p))) (by kernel_rfl) 89 (by rfl) (by kernel_rfl) ?_ ?_ ?_
      ·exact LI.start _ ⟨hbc.drew,HFc.out,HRc.out,HOc.out⟩
      ·refine⟨?_,?_,?_,?_,?_,?_,?_,?_,trivial⟩
       ·intro done ρ w' hn hf hd h
        have q2:ρ 2= .pointer (some ⟨go,0,none⟩):=hf 2 (by kernel_rfl)
        obtain⟨y0,y1',y2',y3,y4⟩:=h.1.2.1.cells
        clear hf
        refine .inl ⟨rfl,opOK_step fun R hR=>?_⟩
        unfold opOK
        go_simp
        exact hR _ _ (h.put [some 84,some 85,some 86,some 87,some 88,none,some 3,some 4] rfl (by decide) 0 84 _ rfl h.1)
       ·intro done ρ w' hn hf hd h
        have q5:ρ 5= .pointer (some ⟨gr,0,none⟩):=hf 5 (by kernel_rfl)
        clear hf
        refine .inl ⟨rfl,opOK_step fun R hR=>?_⟩
        unfold opOK
        go_simp
        exact hR _ _ (h.put [some 84,some 85,some 86,some 87,some 88,none,some 3,some 4] rfl (by decide) 1 85 _ rfl h.1)
       ·intro done ρ w' hn hf hd h
        have q:=h.get 1 85 _ rfl (hd 1 (by kernel_rfl))
        clear hf
        refine .inl ⟨rfl,opOK_step fun R hR=>?_⟩
        unfold opOK
        go_simp
        exact hR _ _ (h.put [some 84,some 85,some 86,some 87,some 88,none,some 3,some 4] rfl (by decide) 2 86 _ rfl h.1)
       ·intro done ρ w' hn hf hd h
        have q:=h.get 2 86 _ rfl (hd 2 (by kernel_rfl))
        clear hf
        refine .inl ⟨rfl,opOK_step fun R hR=>?_⟩
        unfold opOK
        go_simp
        exact hR _ _ (h.put [some 84,some 85,some 86,some 87,some 88,none,some 3,some 4] rfl (by decide) 3 87 _ rfl h.1)
       ·intro done ρ w' hn hf hd h
        have q:=h.get 3 87 _ rfl (hd 3 (by kernel_rfl))
        obtain⟨y0,y1',y2'⟩:=h.1.2.2.1.cells
        clear hf
        refine .inl ⟨rfl,opOK_step fun R hR=>?_⟩
        unfold opOK
        go_simp
        exact hR _ _ (h.put [some 84,some 85,some 86,some 87,some 88,none,some 3,some 4] rfl (by decide) 4 88 _ rfl h.1)
       ·intro done ρ w' hn hf hd h
        have q2:ρ 2= .pointer (some ⟨go,0,none⟩):=hf 2 (by kernel_rfl)
        have q:=h.get 0 84 _ rfl (hd 0 (by kernel_rfl))
        obtain⟨y0,y1',y2',y3,y4⟩:=h.1.2.1.cells
        have g0:=h.1.2.1.fr 0
        have g1:=h.1.2.1.fr 1
        have g2:=h.1.2.1.fr 2
        have g3:=h.1.2.1.fr 3
        have g4:=h.1.2.1.fr 4
        clear hf
        refine .inl ⟨rfl,opOK_step fun R hR=>?_⟩
        unfold opOK
        go_simp
        refine hR _ _ (h.world 5 _ rfl ?_)
        change _∧FB (put5 w' go (.int .u8 3) (.int .u32 (was+x)) (.int .u8 y) (.slice A' pl c') (.int .i64 0)) go _ _ _ _ _∧_∧_
        exact⟨put5_below h.1.1 _ _ _ _ _ _ Hgo.out,put5_fb h.1.2.1 _ _ _ _ _,(put5_other (fun e=>Hne.out e.symm)).trans h.1.2.2.1,own_put5 h.1.2.2.2 h.1.2.1⟩
       ·intro done ρ w' hn hf hd h
        have q:=h.get 4 88 _ rfl (hd 4 (by kernel_rfl))
        clear hf
        refine .inl ⟨rfl,opOK_step fun R hR=>?_⟩
        unfold opOK
        go_simp
        exact hR _ _ (h.put [some 84,some 85,some 86,some 87,some 88,none,some 3,some 4] rfl (by decide) 6 3 _ rfl h.1)
       ·intro done ρ w' hn hf hd h
        clear hf
        refine .inl ⟨rfl,opOK_step fun R hR=>?_⟩
        unfold opOK
        go_simp
        exact hR _ _ (h.put [some 84,some 85,some 86,some 87,some 88,none,some 3,some 4] rfl (by decide) 7 4 _ rfl h.1)
      ·intro a' wf hdf hsz hf h
       have h2:slotsOf a' 2= .pointer (some ⟨go,0,none⟩):=hf 2 (by kernel_rfl)
       have h3:=h.get 6 3 _ rfl (by kernel_rfl)
       have h4:=h.get 7 4 _ rfl (by kernel_rfl)
       obtain⟨hbf,HFf,-,HOf⟩:=h.1
       obtain⟨y0,y1',y2',y3,y4⟩:=HFf.cells
       obtain⟨T,D⟩:=a'
       have hD:D= []:=hdf
       subst hD
       obtain⟨f,hT,hff⟩:∃ f:Nat→Value,T=((List.range 89).map f).toArray∧slotsOf ⟨T, []⟩=f:=⟨_,arr_list T 89 hsz,rfl⟩
       rw [hff] at h2 h3 h4
       clear hff hsz hf h hdf
       simp only [List.range,List.range.loop,List.map] at hT
       subst hT
       rw [h2,h3,h4]
       clear h2 h3 h4
       go_wp2_with fail
       refine bodyPost_ret (v:= .tuple #[opv 3 (was+x) y A' pl c' 0,.int .i64 (a9:Int),.int .i64 0]) (by simp [results,Tryz.results136,go_sem,y0,y1',y2',y3,y4]) rfl ?_
       exact⟨A',c',by rw [Hsome.out,Hpl.out];rfl,by
        rw [Hsome.out]
        have e:=HOf
        rw [Hpl.out] at e
        exact e,hbf⟩
   ·obtain⟨LT,hLT⟩:∃ q,q=(lastR p).1:=⟨_,rfl⟩
    obtain⟨LR,hLR⟩:∃ q,q=(lastR p).2:=⟨_,rfl⟩
    rw [←hLT,←hLR] at HL
    have HG7:Hid ((dr=false→getP b=(nxt b ar 1 1073741824).bind fun d=>(nxt b d.2 0 7).bind fun r=>finP (4,was+d.1,r.1,p,0,r.2))∧(dr=true→getP b=none)):=hide ⟨fun hd=>by
     rw [HGx.out.1 hd]
     simp [rdTail,Option.map_eq_bind,Option.bind_assoc]
     try rfl,HGx.out.2⟩
    obtain⟨o0,o1,o2,o3,o4⟩:=HFr.out.cells
    have f0:=HFr.out.fr 0
    have f1:=HFr.out.fr 1
    have f2:=HFr.out.fr 2
    have f3:=HFr.out.fr 3
    have f4:=HFr.out.fr 4
    go_wp2_with fail
    refine HL.out.mono ?_
    rintro e w6 ⟨rfl,hb6'⟩
    have hb6:=fresh hbr hb6'
    have HF6:=hide (HFr.out.below hb6')
    have HR6:=hide (HRr.out.below hb6')
    have HO6:=hide (own_below HOr.out hb6' (Nat.le_refl _))
    obtain⟨w7,hw7⟩:∃ w7,(w6.setCell ⟨go,1,none⟩ (.int .u32 LT)).setCell ⟨go,2,none⟩ (.int .u8 LR)=w7:=⟨_,rfl⟩
    have HF7:Hid (FB w7 go (.int .u8 4) (.int .u32 LT) (.int .u8 LR) (.slice A' pl c') (.int .i64 0)):=hide (by rw [←hw7];exact HF6.out.set12 _ _)
    have HR7:Hid (RDR w7 gr A n c ar dr):=hide (by rw [←hw7];exact (HR6.out.other (fun e=>Hne.out e.symm) 1 _).other (fun e=>Hne.out e.symm) 2 _)
    have HO7:Hid (w7.ownsRow w.heap.size 120 3 (.slice A' pl c') pl (rns p)):=hide (by rw [←hw7];exact own_set2 HO6.out HF6.out _ _)
    have hb7:Below w.heap.size w w7:=by rw [←hw7];exact (hb6.setCell Hgo.out _).setCell Hgo.out _
    clear o0 o1 o2 o3 o4 f0 f1 f2 f3 f4
    obtain⟨o0,o1,o2,o3,o4⟩:=HF6.out.cells
    have f0:=HF6.out.fr 0
    have f1:=HF6.out.fr 1
    have f2:=HF6.out.fr 2
    have f3:=HF6.out.fr 3
    have f4:=HF6.out.fr 4
    obtain⟨a7,ea7⟩:∃ q,q=ar:=⟨_,rfl⟩
    obtain⟨d7,ed7⟩:∃ q,q=dr:=⟨_,rfl⟩
    rw [←ea7] at HG7 HR7
    rw [←ed7] at HG7 HR7
    have ha7:a7≤n:=by rw [ea7];exact har
    clear ea7 ed7 HFr HRr HOr HGx hbr HF6 HR6 HO6 hb6 hb6'
    have Hlt:=hide (And.intro hLT hLR)
    clear hLT hLR HL
    obtain⟨p0,p1,p2,p3,p4⟩:=HF7.out.cells
    have g0:=HF7.out.fr 0
    have g1:=HF7.out.fr 1
    have g2:=HF7.out.fr 2
    have g3:=HF7.out.fr 3
    have g4:=HF7.out.fr 4
    obtain⟨r0,r1,r2⟩:=HR7.out.cells
    go_wp2_with fail
    try rw [hw7]
    clear hw7 p0 p1 p2 p3 p4 g0 g1 g2 g3 g4 r0 r1 r2
    clear o0 o1 o2 o3 o4 f0 f1 f2 f3 f4
    refine (next_any A b n c gr a7 d7 1 1073741824 w7 HR7.out ((RD.below hr hb7).more hb7.size) Hn.out hl ha7 hc HA.out (by decide)).mono ?_
    rintro e w8 ⟨x,a8,d8,rfl,hR8,ho8,ha8,x1,x2,hs8,hn8,hq8⟩
    have hb8:Below w.heap.size w w8:=hb7.trans (ho8.1.mono Hgr.out)
    have HF8:=hide (HF7.out.only ho8 Hne.out)
    have HG8:Hid ((d8=false→getP b=(nxt b a8 0 7).bind fun r=>finP (4,was+x,r.1,p,0,r.2))∧(d8=true→getP b=none)):=hide (read_step HG7.out.1 HG7.out.2 hs8 hn8 hq8)
    have HO8:=hide (own_only HO7.out HR7.out ho8)
    have HR8:=hide hR8
    clear hs8 hn8 hq8 hR8 ho8
    have hx64:IntKind.i64.wrap (was+x)=was+x:=IntWalk.i64_in _ (by omega)
    have hx32:IntKind.u32.wrap (was+x)=was+x:=IntWalk.u32_in _ (by omega)
    go_wp2_with fail
    refine (next_any A b n c gr a8 d8 0 7 w8 HR8.out ((RD.below hr hb8).more hb8.size) Hn.out hl ha8 hc HA.out (by decide)).mono ?_
    rintro e w10 ⟨y,a10,d10,rfl,hR10,ho10,ha10,y1,y2,hs10,hn10,hq10⟩
    have hb10:Below w.heap.size w w10:=hb8.trans (ho10.1.mono Hgr.out)
    have HF10:=hide (HF8.out.only ho10 Hne.out)
    have HG10:Hid ((d10=false→getP b=finP (4,was+x,y,p,0,a10))∧(d10=true→getP b=none)):=hide (read_step HG8.out.1 HG8.out.2 hs10 hn10 hq10)
    have HO10:=hide (own_only HO8.out HR8.out ho10)
    have HR10:=hide hR10
    clear hs10 hn10 hq10 hR10 ho10
    have hy8:IntKind.u8.wrap y=y:=by simp [IntKind.wrap,IntKind.bits,IntKind.signed];omega
    obtain⟨w9,hw9⟩:∃ w9,(w10.setCell ⟨go,1,none⟩ (.int .u32 (was+x))).setCell ⟨go,2,none⟩ (.int .u8 y)=w9:=⟨_,rfl⟩
    have HF9:Hid (FB w9 go (.int .u8 4) (.int .u32 (was+x)) (.int .u8 y) (.slice A' pl c') (.int .i64 0)):=hide (by rw [←hw9];exact HF10.out.set12 _ _)
    have HR9:Hid (RDR w9 gr A n c a10 d10):=hide (by rw [←hw9];exact (HR10.out.other (fun e=>Hne.out e.symm) 1 _).other (fun e=>Hne.out e.symm) 2 _)
    have HO9:Hid (w9.ownsRow w.heap.size 120 3 (.slice A' pl c') pl (rns p)):=hide (by rw [←hw9];exact own_set2 HO10.out HF10.out _ _)
    have hb9:Below w.heap.size w w9:=by rw [←hw9];exact (hb10.setCell Hgo.out _).setCell Hgo.out _
    obtain⟨o0,o1,o2,o3,o4⟩:=HF10.out.cells
    have f0:=HF10.out.fr 0
    have f1:=HF10.out.fr 1
    have f2:=HF10.out.fr 2
    have f3:=HF10.out.fr 3
    have f4:=HF10.out.fr 4
    obtain⟨a9,ea9⟩:∃ q,q=a10:=⟨_,rfl⟩
    obtain⟨d9,ed9⟩:∃ q,q=d10:=⟨_,rfl⟩
    rw [←ea9] at HR9 HG10
    rw [←ed9] at HR9 HG10
    have HG9:=HG10
    clear ea9 ed9 HG10 HF10 HR10 HO10 hb10
    cases hd:d9 with
    | true=>
      have HRt:=HR9
      rw [hd] at HRt
      obtain⟨r0,r1,r2⟩:=HRt.out.cells
      obtain⟨o0,o1,o2,o3,o4⟩:=HF9.out.cells
      have f0:=HF9.out.fr 0
      have f1:=HF9.out.fr 1
      have f2:=HF9.out.fr 2
      have f3:=HF9.out.fr 3
      have f4:=HF9.out.fr 4
      have Hnone:=hide (HG9.out.2 hd)
      clear hd HG9 HR9
      go_wp2_with fail
      have F5:=put5_fb HF9.out (.int .u8 0) (.int .u32 0) (.int .u8 0) (.slice none 0 0) (.int .i64 0)
      have Hb5:Below w.heap.size w (put5 w9 go (.int .u8 0) (.int .u32 0) (.int .u8 0) (.slice none 0 0) (.int .i64 0)):=put5_below hb9 _ _ _ _ _ _ Hgo.out
      change bodyPost _ _ _ _ _ (put5 w9 go (.int .u8 0) (.int .u32 0) (.int .u8 0) (.slice none 0 0) (.int .i64 0))
      generalize put5 w9 go (.int .u8 0) (.int .u32 0) (.int .u8 0) (.slice none 0 0) (.int .i64 0)=WW at F5 Hb5 ⊢
      obtain⟨v0,v1,v2,v3,v4⟩:=F5.cells
      refine bodyPost_ret (v:= .tuple #[opv 0 0 0 none 0 0 0,.int .i64 0,.int .i64 8]) (by simp [results,Tryz.results136,go_sem,v0,v1,v2,v3,v4]) rfl ?_
      exact⟨none,0,by rw [Hnone.out];rfl,by rw [Hnone.out];exact World.ownsRow_nil _ _ _ _,Hb5⟩
    | false=>
      have HRt:=HR9
      rw [hd] at HRt
      obtain⟨r0,r1,r2⟩:=HRt.out.cells
      obtain⟨o0,o1,o2,o3,o4⟩:=HF9.out.cells
      have f0:=HF9.out.fr 0
      have f1:=HF9.out.fr 1
      have f2:=HF9.out.fr 2
      have f3:=HF9.out.fr 3
      have f4:=HF9.out.fr 4
      have HGf:=hide (HG9.out.1 hd)
      clear hd HG9 HR9
      go_wp2_with fail
      refine (unhide HKK w9 (RR.of_own HO9.out Hpl.out.symm) 4 (was+x) y 0 (by decide)).mono ?_
      rintro e wc ⟨rfl,hbc'⟩
      have hbc:=fresh hb9 hbc'
      have HFc:=hide (HF9.out.below hbc')
      have HRc:=hide (HRt.out.below hbc')
      have HOc:=hide (own_below HO9.out hbc' (Nat.le_refl _))
      clear r0 r1 r2 HF9 HRt HO9 hb9
      clear o0 o1 o2 o3 o4 f0 f1 f2 f3 f4
      obtain⟨o0,o1,o2,o3,o4⟩:=HFc.out.cells
      have f0:=HFc.out.fr 0
      have f1:=HFc.out.fr 1
      have f2:=HFc.out.fr 2
      have f3:=HFc.out.fr 3
      have f4:=HFc.out.fr 4
      by_cases hm:mayO 4 (was+x) y p 0
      rotate_left
      ·rw [show chkO 4 (was+x) y p 0=8 from if_neg hm]
       have Hnone:=hide (show getP b=none from HGf.out.trans (if_neg hm))
       clear hm HGf
       go_wp2_with fail
       have F5:=put5_fb HFc.out (.int .u8 0) (.int .u32 0) (.int .u8 0) (.slice none 0 0) (.int .i64 0)
       have Hb5:Below w.heap.size w (put5 wc go (.int .u8 0) (.int .u32 0) (.int .u8 0) (.slice none 0 0) (.int .i64 0)):=put5_below hbc _ _ _ _ _ _ Hgo.out
       change bodyPost _ _ _ _ _ (put5 wc go (.int .u8 0) (.int .u32 0) (.int .u8 0) (.slice none 0 0) (.int .i64 0))
       generalize put5 wc go (.int .u8 0) (.int .u32 0) (.int .u8 0) (.slice none 0 0) (.int .i64 0)=WW at F5 Hb5 ⊢
       obtain⟨v0,v1,v2,v3,v4⟩:=F5.cells
       refine bodyPost_ret (v:= .tuple #[opv 0 0 0 none 0 0 0,.int .i64 0,.int .i64 8]) (by simp [results,Tryz.results136,go_sem,v0,v1,v2,v3,v4]) rfl ?_
       exact⟨none,0,by rw [Hnone.out];rfl,by rw [Hnone.out];exact World.ownsRow_nil _ _ _ _,Hb5⟩
      rw [show chkO 4 (was+x) y p 0=0 from if_pos hm]
      have Hsome:=hide (show getP b=some (4,(was+x),y,p,0,a9) from HGf.out.trans (if_pos hm))
      clear hm HGf
      go_wp2_with fail
      clear o0 o1 o2 o3 o4 f0 f1 f2 f3 f4
      refine wp_region_inv (LI [some (84,opv 4 (was+x) y A' pl c' 0),some (85,.pointer (some ⟨gr,0,none⟩)),some (86,.pointer (some ⟨gr,0,none⟩)),some (87,.pointer (some ⟨gr,1,none⟩)),some (88,.int .i64 (a9:Int)),none,some (3,.int .i64 (a9:Int)),some (4,.int .i64 0)] (fun W=>Below w.heap.size w W∧FB W go (.int .u8 4) (.int .u32 (was+x)) (.int .u8 y) (.slice A' pl c') (.int .i64 0)∧RDR W gr A n c a9 false∧W.ownsRow w.heap.size 120 3 (.slice A' pl c') pl (rns p))) (by kernel_rfl) 89 (by rfl) (by kernel_rfl) ?_ ?_ ?_
      ·exact LI.start _ ⟨hbc.drew,HFc.out,HRc.out,HOc.out⟩
      ·refine⟨?_,?_,?_,?_,?_,?_,?_,?_,trivial⟩
       ·intro done ρ w' hn hf hd h
        have q2:ρ 2= .pointer (some ⟨go,0,none⟩):=hf 2 (by kernel_rfl)
        obtain⟨y0,y1',y2',y3,y4⟩:=h.1.2.1.cells
        clear hf
        refine .inl ⟨rfl,opOK_step fun R hR=>?_⟩
        unfold opOK
        go_simp
        exact hR _ _ (h.put [some 84,some 85,some 86,some 87,some 88,none,some 3,some 4] rfl (by decide) 0 84 _ rfl h.1)
       ·intro done ρ w' hn hf hd h
        have q5:ρ 5= .pointer (some ⟨gr,0,none⟩):=hf 5 (by kernel_rfl)
        clear hf
        refine .inl ⟨rfl,opOK_step fun R hR=>?_⟩
        unfold opOK
        go_simp
        exact hR _ _ (h.put [some 84,some 85,some 86,some 87,some 88,none,some 3,some 4] rfl (by decide) 1 85 _ rfl h.1)
       ·intro done ρ w' hn hf hd h
        have q:=h.get 1 85 _ rfl (hd 1 (by kernel_rfl))
        clear hf
        refine .inl ⟨rfl,opOK_step fun R hR=>?_⟩
        unfold opOK
        go_simp
        exact hR _ _ (h.put [some 84,some 85,some 86,some 87,some 88,none,some 3,some 4] rfl (by decide) 2 86 _ rfl h.1)
       ·intro done ρ w' hn hf hd h
        have q:=h.get 2 86 _ rfl (hd 2 (by kernel_rfl))
        clear hf
        refine .inl ⟨rfl,opOK_step fun R hR=>?_⟩
        unfold opOK
        go_simp
        exact hR _ _ (h.put [some 84,some 85,some 86,some 87,some 88,none,some 3,some 4] rfl (by decide) 3 87 _ rfl h.1)
       ·intro done ρ w' hn hf hd h
        have q:=h.get 3 87 _ rfl (hd 3 (by kernel_rfl))
        obtain⟨y0,y1',y2'⟩:=h.1.2.2.1.cells
        clear hf
        refine .inl ⟨rfl,opOK_step fun R hR=>?_⟩
        unfold opOK
        go_simp
        exact hR _ _ (h.put [some 84,some 85,some 86,some 87,some 88,none,some 3,some 4] rfl (by decide) 4 88 _ rfl h.1)
       ·intro done ρ w' hn hf hd h
        have q2:ρ 2= .pointer (some ⟨go,0,none⟩):=hf 2 (by kernel_rfl)
        have q:=h.get 0 84 _ rfl (hd 0 (by kernel_rfl))
        obtain⟨y0,y1',y2',y3,y4⟩:=h.1.2.1.cells
        have g0:=h.1.2.1.fr 0
        have g1:=h.1.2.1.fr 1
        have g2:=h.1.2.1.fr 2
        have g3:=h.1.2.1.fr 3
        have g4:=h.1.2.1.fr 4
        clear hf
        refine .inl ⟨rfl,opOK_step fun R hR=>?_⟩
        unfold opOK
        go_simp
        refine hR _ _ (h.world 5 _ rfl ?_)
        change _∧FB (put5 w' go (.int .u8 4) (.int .u32 (was+x)) (.int .u8 y) (.slice A' pl c') (.int .i64 0)) go _ _ _ _ _∧_∧_
        exact⟨put5_below h.1.1 _ _ _ _ _ _ Hgo.out,put5_fb h.1.2.1 _ _ _ _ _,(put5_other (fun e=>Hne.out e.symm)).trans h.1.2.2.1,own_put5 h.1.2.2.2 h.1.2.1⟩
       ·intro done ρ w' hn hf hd h
        have q:=h.get 4 88 _ rfl (hd 4 (by kernel_rfl))
        clear hf
        refine .inl ⟨rfl,opOK_step fun R hR=>?_⟩
        unfold opOK
        go_simp
        exact hR _ _ (h.put [some 84,some 85,some 86,some 87,some 88,none,some 3,some 4] rfl (by decide) 6 3 _ rfl h.1)
       ·intro done ρ w' hn hf hd h
        clear hf
        refine .inl ⟨rfl,opOK_step fun R hR=>?_⟩
        unfold opOK
        go_simp
        exact hR _ _ (h.put [some 84,some 85,some 86,some 87,some 88,none,some 3,some 4] rfl (by decide) 7 4 _ rfl h.1)
      ·intro a' wf hdf hsz hf h
       have h2:slotsOf a' 2= .pointer (some ⟨go,0,none⟩):=hf 2 (by kernel_rfl)
       have h3:=h.get 6 3 _ rfl (by kernel_rfl)
       have h4:=h.get 7 4 _ rfl (by kernel_rfl)
       obtain⟨hbf,HFf,-,HOf⟩:=h.1
       obtain⟨y0,y1',y2',y3,y4⟩:=HFf.cells
       obtain⟨T,D⟩:=a'
       have hD:D= []:=hdf
       subst hD
       obtain⟨f,hT,hff⟩:∃ f:Nat→Value,T=((List.range 89).map f).toArray∧slotsOf ⟨T, []⟩=f:=⟨_,arr_list T 89 hsz,rfl⟩
       rw [hff] at h2 h3 h4
       clear hff hsz hf h hdf
       simp only [List.range,List.range.loop,List.map] at hT
       subst hT
       rw [h2,h3,h4]
       clear h2 h3 h4
       go_wp2_with fail
       refine bodyPost_ret (v:= .tuple #[opv 4 (was+x) y A' pl c' 0,.int .i64 (a9:Int),.int .i64 0]) (by simp [results,Tryz.results136,go_sem,y0,y1',y2',y3,y4]) rfl ?_
       exact⟨A',c',by rw [Hsome.out,Hpl.out];rfl,by
        rw [Hsome.out]
        have e:=HOf
        rw [Hpl.out] at e
        exact e,hbf⟩
end Go.Proofs.YtmkpfdcnikgokaaGreat
