/-
  Texts of this claim, put together: RefBytes. What each theorem asks stands in its statement.
-/
import Derived.Test.YtmkpfdcnikgokaaGreatLt30
import Derived.Test.YtmkpfdcnikgokaaGreatLt31
set_option linter.unusedVariables false
set_option linter.unusedSimpArgs false
set_option maxRecDepth 100000
set_option maxHeartbeats 25600000
namespace Go.Proofs.YtmkpfdcnikgokaaGreat
open Go.RowKit
/-- The regions' fixed values. -/
def by3V (v2:Value) (gx:Nat) (t r ix:Int) (iA sA:Option Addr) (ic sc:Nat) (i:List TmL) (s:List WsL):List (Option (Nat×Value)):=
 [some (19,v2),some (20,.pointer (some ⟨gx,4,none⟩)),some (21,.slice iA i.length ic),none,some (23,.pointer (some ⟨gx,6,none⟩)),some (24,.slice sA s.length sc),some (25,.int .i64 (s.length:Int)),none,none]
def by3S:List (Option Nat):= [some 19,some 20,some 21,none,some 23,some 24,some 25,none,none]
theorem by3SB:CB by3S 0 3 22 7 26 8 3:=⟨by decide,by decide,by decide,by decide,by decide,rfl,rfl,rfl⟩
def by5V (v2:Value) (gx:Nat) (t r ix:Int) (iA sA:Option Addr) (ic sc:Nat) (i:List TmL) (s:List WsL):List (Option (Nat×Value)):=
 [some (44,v2),some (45,.pointer (some ⟨gx,1,none⟩)),some (46,.agg #[.int .u32 t,.int .u8 r]),none,some (48,.pointer (some ⟨gx,4,none⟩)),some (49,.slice iA i.length ic),none,none]
def by5S:List (Option Nat):= [some 44,some 45,some 46,none,some 48,some 49,none,none]
theorem by5SB:CB by5S 0 3 47 6 50 7 2:=⟨by decide,by decide,by decide,by decide,by decide,rfl,rfl,rfl⟩
def by6V (v2:Value) (gx:Nat) (t r ix:Int) (iA sA:Option Addr) (ic sc:Nat) (i:List TmL) (s:List WsL):List (Option (Nat×Value)):=
 [some (53,v2),some (54,.pointer (some ⟨gx,1,none⟩)),some (55,.agg #[.int .u32 t,.int .u8 r]),none,some (57,.pointer (some ⟨gx,3,none⟩)),some (58,.int .i64 ix),none,none]
def by6S:List (Option Nat):= [some 53,some 54,some 55,none,some 57,some 58,none,none]
theorem by6SB:CB by6S 0 3 56 6 59 7 3:=⟨by decide,by decide,by decide,by decide,by decide,rfl,rfl,rfl⟩
theorem nb_one (z:Int):nb z.toNat=nbs [z]:=by rw [nbs_cons,nbs_nil,List.append_nil]
theorem rbytes_1 (t r ix:Int) (iA oA sA:Option Addr) (ic oc sc:Nat) (i:List TmL) (o:List OpL) (s:List WsL) (w:World) (hx:RM w w.heap.size ⟨1,t,r,ix,iA,ic,i,oA,oc,o,sA,sc,s⟩) (ox:okM ⟨1,t,r,ix,iA,ic,i,oA,oc,o,sA,sc,s⟩) (hm:mayM (MlL.mp ⟨1,t,r,ix,iA,ic,i,oA,oc,o,sA,sc,s⟩)):
 Calls Tryz.prog 55 #[MlL.val ⟨1,t,r,ix,iA,ic,i,oA,oc,o,sA,sc,s⟩] w (Lays w.heap.size w (bodyB (MlL.mp ⟨1,t,r,ix,iA,ic,i,oA,oc,o,sA,sc,s⟩))):=by
 obtain⟨w1,hw1,F1,hs1,hb1⟩:=mail_box w (.int .u8 1) (.int .u32 t) (.int .u8 r) (.int .i64 ix) (.slice iA i.length ic) (.slice oA o.length oc) (.slice sA s.length sc)
 obtain⟨gx,hgx⟩:∃ q,q=w.heap.size:=⟨_,rfl⟩
 have Hgx:=hide hgx
 rw [←hgx] at F1
 have HF1:=hide F1
 obtain⟨y0,y1,y2,y3,y4,y5,y6⟩:=F1.cells
 obtain⟨B,hB⟩:∃ q,q=w1.heap.size:=⟨_,rfl⟩
 have HBs:=hide hB
 have hgB:gx < B:=by rw [hgx,hB];exact hs1
 have hBw:w.heap.size≤B:=by rw [←hgx];omega
 have hbase1:B≤w1.heap.size:=by omega
 have hmo:=may_ops hm (by simp [MlL.mp])
 simp only [MlL.mp] at hmo
 obtain⟨⟨q1,q2,q3,q4⟩,⟨ki,ko,ks⟩,-⟩:=ox
 simp only at q1 q2 q3 q4 ki ko ks
 have Hki:=hide ki
 have Hko:=hide ko
 have Hks:=hide ks
 have HX1:=hide ((hx.below hb1).more hBw)
 have Hall:=hide (show ∀ x∈o,mayL x from fun x hx=>hmo.2.2 _ (List.mem_map_of_mem hx))
 have Hol:=hide (show o.length≤1024 by have:=hmo.2.1;rw [List.length_map] at this;omega)
 have Hob:=hide (show (allB o).length≤1300000 by
  unfold allB
  rw [List.length_append]
  have h1:=flat_len o (fun x hx=>⟨Hall.out x hx,ko x hx⟩)
  have h2:=nbs_len (one_ok ⟨by omega,by have:=Hol.out;omega⟩:∀ z∈ [(o.length:Int)],0≤z∧z≤1099511627776)
  have h3:=Hol.out
  simp only [List.length_cons,List.length_nil] at h2
  omega)
 have Hbo:=hide (show allB o=opsB (o.map OpL.op) from allB_op o)
 clear hmo
 have Hw1:=hide hw1
 have HB1:=hide hb1
 obtain⟨BB,hBB⟩:∃ q,q=bodyB (MlL.mp ⟨1,t,r,ix,iA,ic,i,oA,oc,o,sA,sc,s⟩):=⟨_,rfl⟩
 have HBB:=hide hBB
 rw [←hBB]
 clear hx hm F1 hw1 hb1 hs1 ki ko ks hBB hgx hB
 show Calls Tryz.prog 55 #[mlv 1 t r ix (.slice iA i.length ic) (.slice oA o.length oc) (.slice sA s.length sc)] w _
 go_enter Tryz.func55,Tryz.ntmps55
 go_wp2_with fail
 rw [Hw1.out,←Hgx.out]
 refine (rnum B (.slice none 0 0) [] 1 w1 (ByR.nil _ _) hbase1 (by decide) (by decide) (by decide)).mono ?_
 rintro e w2 ⟨v2,rfl,hp2,hb2,hk2⟩
 rw [List.nil_append,nb_one] at hp2
 have HP2:=hide hp2
 have HF2:=hide (HF1.out.belowB hb2 hgB)
 have HB2:=hide hb2
 have Hl2:=hide (show (nbs [(1:Int)]).length≤6 from nbs_len (one_ok ⟨by decide,by decide⟩))
 have hbase2:B≤w2.heap.size:=Nat.le_trans hbase1 hb2.size
 have hl2:(nbs [(1:Int)]).length≤500000000:=by have:=Hl2.out;omega
 clear hp2 hb2 hk2 HF1 y0 y1 y2 y3 y4 y5 y6
 obtain⟨y0,y1,y2,y3,y4,y5,y6⟩:=HF2.out.cells
 go_wp2_with fail
 refine (reflist_ok oA o.length oc o w2 ((HX1.out.2.1.below HB2.out).more hbase2) rfl Hol.out Hko.out Hall.out).mono ?_
 rintro e w7 ⟨v7,rfl,ho7,hb7⟩
 obtain⟨A7,c7,rfl,-,-,-⟩:=own_slice ho7
 have HB7:=hide (HB2.out.trans (hb7.mono hbase2))
 have ho5:=(HP2.out.below hb7).row
 have hsz7:(nbs [(1:Int)]).length+(allB o).length≤1073741824:=by
  have:=Hl2.out
  have:=Hob.out
  omega
 have hg7:B≤w7.heap.size:=Nat.le_trans hbase2 hb7.size
 obtain⟨q,hq⟩:∃ q,q=nbs [(1:Int)]:=⟨_,rfl⟩
 have Hq:=hide hq
 rw [←hq] at ho5 hsz7
 obtain⟨i0,hi0,hz0,hz1,hz2⟩:=info_parts u8info
 clear hq HP2 Hl2 hl2 y0 y1 y2 y3 y4 y5 y6
 go_wp2_with (at_builtin;refine wpList_append_held _ rfl (.tmp 60) (.tmp 63) 23 rfl B 5 i0 (.int .u8 0) 1 1 Tryz.underlying23 hi0 hz0 hz1 hz2 rfl (by decide) _ _ _ rfl ho5 w7.heap.size A7 (allB o).length c7 (u8s (allB o)) rfl (RD.of_own ho7) (u8s_one _) hsz7 (by decide) hg7 ?_;intro v8 w8 ho8 hb8 hk8;rw [←u8s_append,←List.length_append] at ho8;have HO8:=hide ho8;have HB8:=hide (HB7.out.trans hb8);clear ho8 hb8 hk8)
 go_ret
 have e9:BB=q++allB o:=by
  rw [HBB.out,Hq.out,Hbo.out]
  rfl
 rw [e9]
 exact Lays.mk ((ByR.of HO8.out).less hBw) (HB1.out.trans (HB8.out.mono hBw)) (Kept.below (HB1.out.trans (HB8.out.mono hBw)))
theorem rbytes_2 (t r ix:Int) (iA oA sA:Option Addr) (ic oc sc:Nat) (i:List TmL) (o:List OpL) (s:List WsL) (w:World) (hx:RM w w.heap.size ⟨2,t,r,ix,iA,ic,i,oA,oc,o,sA,sc,s⟩) (ox:okM ⟨2,t,r,ix,iA,ic,i,oA,oc,o,sA,sc,s⟩) (hm:mayM (MlL.mp ⟨2,t,r,ix,iA,ic,i,oA,oc,o,sA,sc,s⟩)):
 Calls Tryz.prog 55 #[MlL.val ⟨2,t,r,ix,iA,ic,i,oA,oc,o,sA,sc,s⟩] w (Lays w.heap.size w (bodyB (MlL.mp ⟨2,t,r,ix,iA,ic,i,oA,oc,o,sA,sc,s⟩))):=by
 obtain⟨w1,hw1,F1,hs1,hb1⟩:=mail_box w (.int .u8 2) (.int .u32 t) (.int .u8 r) (.int .i64 ix) (.slice iA i.length ic) (.slice oA o.length oc) (.slice sA s.length sc)
 obtain⟨gx,hgx⟩:∃ q,q=w.heap.size:=⟨_,rfl⟩
 have Hgx:=hide hgx
 rw [←hgx] at F1
 have HF1:=hide F1
 obtain⟨y0,y1,y2,y3,y4,y5,y6⟩:=F1.cells
 obtain⟨B,hB⟩:∃ q,q=w1.heap.size:=⟨_,rfl⟩
 have HBs:=hide hB
 have hgB:gx < B:=by rw [hgx,hB];exact hs1
 have hBw:w.heap.size≤B:=by rw [←hgx];omega
 have hbase1:B≤w1.heap.size:=by omega
 obtain⟨⟨q1,q2,q3,q4⟩,⟨ki,ko,ks⟩,-⟩:=ox
 simp only at q1 q2 q3 q4 ki ko ks
 have Hki:=hide ki
 have Hko:=hide ko
 have Hks:=hide ks
 have HX1:=hide ((hx.below hb1).more hBw)
 have Hmi:=hide (may_ids hm (by simp [MlL.mp])).1
 simp only [MlL.mp] at Hmi
 have Hw1:=hide hw1
 have HB1:=hide hb1
 obtain⟨BB,hBB⟩:∃ q,q=bodyB (MlL.mp ⟨2,t,r,ix,iA,ic,i,oA,oc,o,sA,sc,s⟩):=⟨_,rfl⟩
 have HBB:=hide hBB
 rw [←hBB]
 clear hx hm F1 hw1 hb1 hs1 ki ko ks hBB hgx hB
 show Calls Tryz.prog 55 #[mlv 2 t r ix (.slice iA i.length ic) (.slice oA o.length oc) (.slice sA s.length sc)] w _
 go_enter Tryz.func55,Tryz.ntmps55
 go_wp2_with fail
 rw [Hw1.out,←Hgx.out]
 refine (rnum B (.slice none 0 0) [] 2 w1 (ByR.nil _ _) hbase1 (by decide) (by decide) (by decide)).mono ?_
 rintro e w2 ⟨v2,rfl,hp2,hb2,hk2⟩
 rw [List.nil_append,nb_one] at hp2
 have HP2:=hide hp2
 have HF2:=hide (HF1.out.belowB hb2 hgB)
 have HB2:=hide hb2
 have Hl2:=hide (show (nbs [(2:Int)]).length≤6 from nbs_len (one_ok ⟨by decide,by decide⟩))
 have hbase2:B≤w2.heap.size:=Nat.le_trans hbase1 hb2.size
 have hl2:(nbs [(2:Int)]).length≤500000000:=by have:=Hl2.out;omega
 clear hp2 hb2 hk2 HF1 y0 y1 y2 y3 y4 y5 y6
 obtain⟨y0,y1,y2,y3,y4,y5,y6⟩:=HF2.out.cells
 go_wp2_with fail
 refine (rclock B v2 (nbs [2]) iA i.length ic i w2 HP2.out hbase2 (HX1.out.1.below HB2.out) rfl Hki.out Hmi.out hl2).mono ?_
 rintro e w3 ⟨v3,rfl,hp3,hb3,hk3⟩
 have HP3:=hide hp3
 have HB3:=hide (HB2.out.trans hb3)
 clear hp3 hb3 hk3 y0 y1 y2 y3 y4 y5 y6
 go_wp2_with fail
 go_ret
 have e9:BB=nbs [2]++nbs (ckNums (i.map TmL.pt)):=HBB.out
 rw [e9]
 exact Lays.mk (HP3.out.less hBw) (HB1.out.trans (HB3.out.mono hBw)) (Kept.below (HB1.out.trans (HB3.out.mono hBw)))
theorem rbytes_3 (t r ix:Int) (iA oA sA:Option Addr) (ic oc sc:Nat) (i:List TmL) (o:List OpL) (s:List WsL) (w:World) (hx:RM w w.heap.size ⟨3,t,r,ix,iA,ic,i,oA,oc,o,sA,sc,s⟩) (ox:okM ⟨3,t,r,ix,iA,ic,i,oA,oc,o,sA,sc,s⟩) (hm:mayM (MlL.mp ⟨3,t,r,ix,iA,ic,i,oA,oc,o,sA,sc,s⟩)):
 Calls Tryz.prog 55 #[MlL.val ⟨3,t,r,ix,iA,ic,i,oA,oc,o,sA,sc,s⟩] w (Lays w.heap.size w (bodyB (MlL.mp ⟨3,t,r,ix,iA,ic,i,oA,oc,o,sA,sc,s⟩))):=by
 obtain⟨w1,hw1,F1,hs1,hb1⟩:=mail_box w (.int .u8 3) (.int .u32 t) (.int .u8 r) (.int .i64 ix) (.slice iA i.length ic) (.slice oA o.length oc) (.slice sA s.length sc)
 obtain⟨gx,hgx⟩:∃ q,q=w.heap.size:=⟨_,rfl⟩
 have Hgx:=hide hgx
 rw [←hgx] at F1
 have HF1:=hide F1
 obtain⟨y0,y1,y2,y3,y4,y5,y6⟩:=F1.cells
 obtain⟨B,hB⟩:∃ q,q=w1.heap.size:=⟨_,rfl⟩
 have HBs:=hide hB
 have hgB:gx < B:=by rw [hgx,hB];exact hs1
 have hBw:w.heap.size≤B:=by rw [←hgx];omega
 have hbase1:B≤w1.heap.size:=by omega
 have Hfw:=hide (wants_fit (may_want hm rfl) (okM_good ox).2.2.2)
 obtain⟨⟨q1,q2,q3,q4⟩,⟨ki,ko,ks⟩,-⟩:=ox
 simp only at q1 q2 q3 q4 ki ko ks
 have Hki:=hide ki
 have Hko:=hide ko
 have Hks:=hide ks
 have HX1:=hide ((hx.below hb1).more hBw)
 have Hmi:=hide (may_ids hm (by simp [MlL.mp])).1
 simp only [MlL.mp] at Hmi
 obtain⟨hs65,hwa⟩:=wants_all (may_want hm rfl)
 simp only [MlL.mp,List.length_map] at hs65
 clear hwa
 have Hw1:=hide hw1
 have HB1:=hide hb1
 obtain⟨BB,hBB⟩:∃ q,q=bodyB (MlL.mp ⟨3,t,r,ix,iA,ic,i,oA,oc,o,sA,sc,s⟩):=⟨_,rfl⟩
 have HBB:=hide hBB
 rw [←hBB]
 clear hx hm F1 hw1 hb1 hs1 ki ko ks hBB hgx hB
 show Calls Tryz.prog 55 #[mlv 3 t r ix (.slice iA i.length ic) (.slice oA o.length oc) (.slice sA s.length sc)] w _
 go_enter Tryz.func55,Tryz.ntmps55
 go_wp2_with fail
 rw [Hw1.out,←Hgx.out]
 refine (rnum B (.slice none 0 0) [] 3 w1 (ByR.nil _ _) hbase1 (by decide) (by decide) (by decide)).mono ?_
 rintro e w2 ⟨v2,rfl,hp2,hb2,hk2⟩
 rw [List.nil_append,nb_one] at hp2
 have HP2:=hide hp2
 have HF2:=hide (HF1.out.belowB hb2 hgB)
 have HB2:=hide hb2
 have Hl2:=hide (show (nbs [(3:Int)]).length≤6 from nbs_len (one_ok ⟨by decide,by decide⟩))
 have hbase2:B≤w2.heap.size:=Nat.le_trans hbase1 hb2.size
 have hl2:(nbs [(3:Int)]).length≤500000000:=by have:=Hl2.out;omega
 clear hp2 hb2 hk2 HF1 y0 y1 y2 y3 y4 y5 y6
 obtain⟨y0,y1,y2,y3,y4,y5,y6⟩:=HF2.out.cells
 have hl3:(nbs [(3:Int)]++nbs (ckNums (i.map TmL.pt))).length≤500000000:=by
  rw [List.length_append]
  have:=ck_len Hmi.out
  have:=Hl2.out
  omega
 obtain⟨p6,hp6⟩:∃ q,nbs [(3:Int)]++nbs (ckNums (i.map TmL.pt))++nb (s.length:Int).toNat=q:=⟨_,rfl⟩
 have Hp6:=hide hp6
 obtain⟨ni,hni⟩:∃ q,i.length=q:=⟨_,rfl⟩
 have Hni:=hide hni
 clear hp6 hni
 go_wp2_with fail
 clear y0 y1 y2 y3 y4 y5 y6
 refine wp_region_inv (fun done ρ W=>CH w2 B (by3V v2 gx t r ix iA sA ic sc i s) 0 3 22 7 26 8 3 v2 v2 (nbs [3]) (nbs [3]++nbs (ckNums (i.map TmL.pt))) (nbs [3]++nbs (ckNums (i.map TmL.pt))++nb (s.length:Int).toNat) done ρ W) (by kernel_rfl) 65 rfl (by kernel_rfl) ?_ ?_ ?_
 ·exact CH.start (Below.refl _ _).drew (Kept.refl _) HP2.out rfl
 ·refine⟨?_,?_,?_,?_,?_,?_,?_,?_,?_,trivial⟩
  ·
   intro done ρ W hn hf hd h
   have q0:=h.first hn
   clear hf
   refine .inl ⟨rfl,opOK_step fun R9 hR9=>?_⟩
   unfold opOK
   go_simp
   exact hR9 _ _ (h.plain by3S rfl by3SB 0 19 _ rfl)
  ·
   intro done ρ W hn hf hd h
   have qs1:ρ 1= .pointer (some ⟨gx,0,none⟩):=hf 1 (by kernel_rfl)
   clear hf
   refine .inl ⟨rfl,opOK_step fun R9 hR9=>?_⟩
   unfold opOK
   go_simp
   exact hR9 _ _ (h.plain by3S rfl by3SB 1 20 _ rfl)
  ·
   intro done ρ W hn hf hd h
   have qd1:=h.get 1 20 _ rfl (hd 1 (by kernel_rfl))
   obtain⟨y0,y1,y2,y3,y4,y5,y6⟩:=(HF2.out.belowB h.b hgB).cells
   clear hf
   refine .inl ⟨rfl,opOK_step fun R9 hR9=>?_⟩
   unfold opOK
   go_simp
   exact hR9 _ _ (h.plain by3S rfl by3SB 2 21 _ rfl)
  ·
   intro done ρ W hn hf hd h
   have qd0:=h.get 0 19 _ rfl (hd 0 (by kernel_rfl))
   have qd2:=h.get 2 21 _ rfl (hd 2 (by kernel_rfl))
   have h0:=h.c0 hn
   have hd0:=hd 0 (by kernel_rfl)
   clear hf
   refine .inl ⟨rfl,opOK_step fun R9 hR9=>?_⟩
   unfold opOK
   go_simp
   refine (rclock B v2 (nbs [3]) iA i.length ic i W h0 (Nat.le_trans hbase2 h.b.size) (HX1.out.1.below (HB2.out.trans h.b)) rfl Hki.out Hmi.out hl2).mono ?_
   rintro e w' ⟨v',rfl,hr',hb',hk'⟩
   exact⟨v',rfl,hR9 _ _ (h.call1 by3S rfl by3SB hn hd0 hr' hb' hk')⟩
  ·
   intro done ρ W hn hf hd h
   have qs1:ρ 1= .pointer (some ⟨gx,0,none⟩):=hf 1 (by kernel_rfl)
   clear hf
   refine .inl ⟨rfl,opOK_step fun R9 hR9=>?_⟩
   unfold opOK
   go_simp
   exact hR9 _ _ (h.plain by3S rfl by3SB 4 23 _ rfl)
  ·
   intro done ρ W hn hf hd h
   have qd4:=h.get 4 23 _ rfl (hd 4 (by kernel_rfl))
   obtain⟨y0,y1,y2,y3,y4,y5,y6⟩:=(HF2.out.belowB h.b hgB).cells
   clear hf
   refine .inl ⟨rfl,opOK_step fun R9 hR9=>?_⟩
   unfold opOK
   go_simp
   exact hR9 _ _ (h.plain by3S rfl by3SB 5 24 _ rfl)
  ·
   intro done ρ W hn hf hd h
   have qd5:=h.get 5 24 _ rfl (hd 5 (by kernel_rfl))
   clear hf
   refine .inl ⟨rfl,opOK_step fun R9 hR9=>?_⟩
   unfold opOK
   go_simp
   exact hR9 _ _ (h.plain by3S rfl by3SB 6 25 _ rfl)
  ·
   intro done ρ W hn hf hd h
   have qd6:=h.get 6 25 _ rfl (hd 6 (by kernel_rfl))
   have h1:=hd 3 (by kernel_rfl)
   have hR1:=h.c1 h1 hn
   clear hf
   refine .inl ⟨rfl,opOK_step fun R9 hR9=>?_⟩
   unfold opOK
   go_simp
   refine (rnum B _ (nbs [3]++nbs (ckNums (i.map TmL.pt))) (s.length:Int) W hR1 (Nat.le_trans hbase2 h.b.size) (by omega) (by omega) (by omega)).mono ?_
   rintro e w' ⟨v',rfl,hr',hb',hk'⟩
   exact⟨v',rfl,hR9 _ _ (h.call2 by3S rfl by3SB hn h1 hr' hb' hk')⟩
  ·
   intro done ρ W hn hf hd h
   have h2:=hd 7 (by kernel_rfl)
   clear hf
   refine .inl ⟨rfl,opOK_step fun R9 hR9=>?_⟩
   unfold opOK
   go_simp
   exact hR9 _ _ (h.lay by3S rfl by3SB h2 rfl)
 ·intro a' w6 hdf hsz hf h
  have hb6:Below B w2 w6:=h.b
  have hk6:=h.k
  have hR6:=h.c3 (by kernel_rfl)
  have h1:slotsOf a' 1= .pointer (some ⟨gx,0,none⟩):=hf 1 (by kernel_rfl)
  obtain⟨T,D⟩:=a'
  have hD:D= []:=hdf
  subst hD
  obtain⟨f1,hT,hff⟩:∃ f:Nat→Value,T=((List.range 65).map f).toArray∧slotsOf ⟨T, []⟩=f:=⟨_,arr_list T 65 hsz,rfl⟩
  rw [hff] at hR6 h1
  clear hff hsz hf h hdf
  simp only [List.range,List.range.loop,List.map] at hT
  subst hT
  rw [h1]
  clear h1
  rw [Hp6.out] at hR6
  have HP6:=hide hR6
  have HB6:=hide (HB2.out.trans hb6)
  have HF6:=hide (HF2.out.belowB hb6 hgB)
  have Hl6:=hide (show p6.length≤200000 by
   rw [←Hp6.out]
   exact nb_app (m:=100006) (by
    rw [List.length_append]
    have:=ck_len Hmi.out
    have:=Hl2.out
    omega) (by omega) (by omega) (by omega))
  clear hR6 hb6 hk6 HP2 HB2 HF2 hl3
  go_wp2_with fail
  go_loopw [3,4] (fun v i wr=>∃ j:Nat,j≤s.length∧i= .int .i64 (j:Int)∧Hid (ByR wr B v (p6++((s.map WsL.wp).take j).flatMap wsB))∧Hid ((p6++((s.map WsL.wp).take j).flatMap wsB).length≤200000+210000 * j)∧Hid (Below B w1 wr)∧Hid (MB wr gx (.int .u8 3) (.int .u32 t) (.int .u8 r) (.int .i64 ix) (.slice iA ni ic) (.slice oA o.length oc) (.slice sA s.length sc))) (fun _ i _=>s.length - (intOf i).toNat)
  case atStart=>exact⟨0,by omega,rfl,by simpa using HP6,hide (by have:=Hl6.out;simp only [List.take_zero,List.flatMap_nil,List.append_nil];omega),HB6,by rw [←Hni.out];exact HF6⟩
  case round=>
   obtain⟨j,hj,rfl,HPj,Hlj,HBj,HFj⟩:=hrel
   clear HP6 HB6 HF6
   obtain⟨z0,z1,z2,z3,z4,z5,z6⟩:=HFj.out.cells
   obtain⟨pj,hpj⟩:∃ q,q=p6++((s.map WsL.wp).take j).flatMap wsB:=⟨_,rfl⟩
   have Hpj:=hide hpj
   rw [←hpj] at HPj Hlj
   clear hpj
   by_cases hlt:j < s.length
   ·have zz0:(j:Int) < s.length:=by omega
    have zzj:(0:Int)≤j:=by omega
    have HRj:=hide (HX1.out.2.2.below HBj.out)
    obtain⟨bb,bo,rfl,hBb,hCc⟩:=RW.cell HRj.out (show 0 < s.length by omega)
    obtain⟨d0,d1,d2,d3,d4,d5,d6⟩:=hCc j hlt
    obtain⟨x,hx⟩:∃ x,s[j]=x:=⟨_,rfl⟩
    rw [hx] at d0 d1 d2 d3 d4 d5 d6
    have hxm:x∈s:=by rw [←hx];exact List.getElem_mem hlt
    have hfx:=Hfw.out x.wp (List.mem_map_of_mem hxm)
    have HRx:=hide (HRj.out.2 x hxm)
    have Hnx:=hide (show pj++wsB x.wp=p6++((s.map WsL.wp).take (j+1)).flatMap wsB by
     rw [List.take_succ_eq_append_getElem (by rw [List.length_map];exact hlt),List.flatMap_append,List.getElem_map,hx,Hpj.out,List.append_assoc]
     simp)
    have Hln:=hide (show (p6++((s.map WsL.wp).take (j+1)).flatMap wsB).length≤200000+210000 * (j+1) by
     rw [←Hnx.out]
     obtain⟨o1,o2,o3,o4,-⟩:=Hks.out x hxm
     have h1:=ws_len (x:=x.wp) ⟨o1,by show x.t≤1099511627776;omega⟩ ⟨o3,by show x.r≤1099511627776;omega⟩ hfx.2.2.2.2.2.1 hfx.2.2.2.2.2.2.1 hfx.2.2.2.2.2.2.2
     have h2:=Hlj.out
     rw [List.length_append]
     omega)
    have HW:=hide (show Calls Tryz.prog 96 #[u3,wsv x.t x.r x.rd x.kn (.slice x.hA x.h.length x.hc) (.slice x.sA x.s.length x.sc) (.slice x.gA x.g.length x.gc)] wr _ from rwish B u3 pj x wr HPj.out (Nat.le_trans hbase1 HBj.out.size) HRx.out.1 HRx.out.2.1 HRx.out.2.2 (Hks.out x hxm) hfx.2.2.2.2.1 hfx.2.2.2.2.2.1 hfx.2.2.2.2.2.2.1 hfx.2.2.2.2.2.2.2 (by have:=Hlj.out;omega))
    clear hCc hx hxm HPj HRj HRx hfx
    go_wp2_with fail
    refine HW.out.mono ?_
    rintro e w8 ⟨v8,rfl,hp8,hb8,-⟩
    have HP8:=hide (show ByR w8 B v8 (p6++((s.map WsL.wp).take (j+1)).flatMap wsB) by rw [←Hnx.out];exact hp8)
    have HB8:=hide (HBj.out.trans hb8)
    have HF8:=hide (HFj.out.belowB hb8 hgB)
    clear hp8 hb8 d0 d1 d2 d3 d4 d5 d6 z0 z1 z2 z3 z4 z5 z6 HW
    go_wp2_with fail
    go_roundw
    case rel=>exact⟨j+1,by omega,by go_num,HP8,Hln,HB8,HF8⟩
    case measure=>simp [intOf];omega
   ·obtain rfl:j=s.length:=by omega
    have zz0:¬ (s.length:Int) < s.length:=by omega
    have e9:BB=pj:=by
     rw [HBB.out,Hpj.out,←Hp6.out,List.take_of_length_le (by rw [List.length_map];exact Nat.le_refl _),nb_one]
     show _++nbs [((s.map WsL.wp).length:Int)]++_=_
     rw [List.length_map]
     rfl
    have He9:=hide e9
    clear e9
    go_wp2_with fail
    go_ret
    rw [He9.out]
    exact Lays.mk (HPj.out.less hBw) (HB1.out.trans (HBj.out.mono hBw)) (Kept.below (HB1.out.trans (HBj.out.mono hBw)))
theorem rbytes_4 (t r ix:Int) (iA oA sA:Option Addr) (ic oc sc:Nat) (i:List TmL) (o:List OpL) (s:List WsL) (w:World) (hx:RM w w.heap.size ⟨4,t,r,ix,iA,ic,i,oA,oc,o,sA,sc,s⟩) (ox:okM ⟨4,t,r,ix,iA,ic,i,oA,oc,o,sA,sc,s⟩) (hm:mayM (MlL.mp ⟨4,t,r,ix,iA,ic,i,oA,oc,o,sA,sc,s⟩)):
 Calls Tryz.prog 55 #[MlL.val ⟨4,t,r,ix,iA,ic,i,oA,oc,o,sA,sc,s⟩] w (Lays w.heap.size w (bodyB (MlL.mp ⟨4,t,r,ix,iA,ic,i,oA,oc,o,sA,sc,s⟩))):=by
 obtain⟨w1,hw1,F1,hs1,hb1⟩:=mail_box w (.int .u8 4) (.int .u32 t) (.int .u8 r) (.int .i64 ix) (.slice iA i.length ic) (.slice oA o.length oc) (.slice sA s.length sc)
 obtain⟨gx,hgx⟩:∃ q,q=w.heap.size:=⟨_,rfl⟩
 have Hgx:=hide hgx
 rw [←hgx] at F1
 have HF1:=hide F1
 obtain⟨y0,y1,y2,y3,y4,y5,y6⟩:=F1.cells
 obtain⟨B,hB⟩:∃ q,q=w1.heap.size:=⟨_,rfl⟩
 have HBs:=hide hB
 have hgB:gx < B:=by rw [hgx,hB];exact hs1
 have hBw:w.heap.size≤B:=by rw [←hgx];omega
 have hbase1:B≤w1.heap.size:=by omega
 have hmo:=may_ops hm (by simp [MlL.mp])
 simp only [MlL.mp] at hmo
 obtain⟨⟨q1,q2,q3,q4⟩,⟨ki,ko,ks⟩,-⟩:=ox
 simp only at q1 q2 q3 q4 ki ko ks
 have Hki:=hide ki
 have Hko:=hide ko
 have Hks:=hide ks
 have HX1:=hide ((hx.below hb1).more hBw)
 have Hall:=hide (show ∀ x∈o,mayL x from fun x hx=>hmo.2.2 _ (List.mem_map_of_mem hx))
 have Hol:=hide (show o.length≤1024 by have:=hmo.2.1;rw [List.length_map] at this;omega)
 have Hob:=hide (show (allB o).length≤1300000 by
  unfold allB
  rw [List.length_append]
  have h1:=flat_len o (fun x hx=>⟨Hall.out x hx,ko x hx⟩)
  have h2:=nbs_len (one_ok ⟨by omega,by have:=Hol.out;omega⟩:∀ z∈ [(o.length:Int)],0≤z∧z≤1099511627776)
  have h3:=Hol.out
  simp only [List.length_cons,List.length_nil] at h2
  omega)
 have Hbo:=hide (show allB o=opsB (o.map OpL.op) from allB_op o)
 clear hmo
 have Hw1:=hide hw1
 have HB1:=hide hb1
 obtain⟨BB,hBB⟩:∃ q,q=bodyB (MlL.mp ⟨4,t,r,ix,iA,ic,i,oA,oc,o,sA,sc,s⟩):=⟨_,rfl⟩
 have HBB:=hide hBB
 rw [←hBB]
 clear hx hm F1 hw1 hb1 hs1 ki ko ks hBB hgx hB
 show Calls Tryz.prog 55 #[mlv 4 t r ix (.slice iA i.length ic) (.slice oA o.length oc) (.slice sA s.length sc)] w _
 go_enter Tryz.func55,Tryz.ntmps55
 go_wp2_with fail
 rw [Hw1.out,←Hgx.out]
 refine (rnum B (.slice none 0 0) [] 4 w1 (ByR.nil _ _) hbase1 (by decide) (by decide) (by decide)).mono ?_
 rintro e w2 ⟨v2,rfl,hp2,hb2,hk2⟩
 rw [List.nil_append,nb_one] at hp2
 have HP2:=hide hp2
 have HF2:=hide (HF1.out.belowB hb2 hgB)
 have HB2:=hide hb2
 have Hl2:=hide (show (nbs [(4:Int)]).length≤6 from nbs_len (one_ok ⟨by decide,by decide⟩))
 have hbase2:B≤w2.heap.size:=Nat.le_trans hbase1 hb2.size
 have hl2:(nbs [(4:Int)]).length≤500000000:=by have:=Hl2.out;omega
 clear hp2 hb2 hk2 HF1 y0 y1 y2 y3 y4 y5 y6
 obtain⟨y0,y1,y2,y3,y4,y5,y6⟩:=HF2.out.cells
 go_wp2_with fail
 refine (reflist_ok oA o.length oc o w2 ((HX1.out.2.1.below HB2.out).more hbase2) rfl Hol.out Hko.out Hall.out).mono ?_
 rintro e w7 ⟨v7,rfl,ho7,hb7⟩
 obtain⟨A7,c7,rfl,-,-,-⟩:=own_slice ho7
 have HB7:=hide (HB2.out.trans (hb7.mono hbase2))
 have ho5:=(HP2.out.below hb7).row
 have hsz7:(nbs [(4:Int)]).length+(allB o).length≤1073741824:=by
  have:=Hl2.out
  have:=Hob.out
  omega
 have hg7:B≤w7.heap.size:=Nat.le_trans hbase2 hb7.size
 obtain⟨q,hq⟩:∃ q,q=nbs [(4:Int)]:=⟨_,rfl⟩
 have Hq:=hide hq
 rw [←hq] at ho5 hsz7
 obtain⟨i0,hi0,hz0,hz1,hz2⟩:=info_parts u8info
 clear hq HP2 Hl2 hl2 y0 y1 y2 y3 y4 y5 y6
 go_wp2_with (at_builtin;refine wpList_append_held _ rfl (.tmp 60) (.tmp 63) 23 rfl B 5 i0 (.int .u8 0) 1 1 Tryz.underlying23 hi0 hz0 hz1 hz2 rfl (by decide) _ _ _ rfl ho5 w7.heap.size A7 (allB o).length c7 (u8s (allB o)) rfl (RD.of_own ho7) (u8s_one _) hsz7 (by decide) hg7 ?_;intro v8 w8 ho8 hb8 hk8;rw [←u8s_append,←List.length_append] at ho8;have HO8:=hide ho8;have HB8:=hide (HB7.out.trans hb8);clear ho8 hb8 hk8)
 go_ret
 have e9:BB=q++allB o:=by
  rw [HBB.out,Hq.out,Hbo.out]
  rfl
 rw [e9]
 exact Lays.mk ((ByR.of HO8.out).less hBw) (HB1.out.trans (HB8.out.mono hBw)) (Kept.below (HB1.out.trans (HB8.out.mono hBw)))
theorem rbytes_5 (t r ix:Int) (iA oA sA:Option Addr) (ic oc sc:Nat) (i:List TmL) (o:List OpL) (s:List WsL) (w:World) (hx:RM w w.heap.size ⟨5,t,r,ix,iA,ic,i,oA,oc,o,sA,sc,s⟩) (ox:okM ⟨5,t,r,ix,iA,ic,i,oA,oc,o,sA,sc,s⟩) (hm:mayM (MlL.mp ⟨5,t,r,ix,iA,ic,i,oA,oc,o,sA,sc,s⟩)):
 Calls Tryz.prog 55 #[MlL.val ⟨5,t,r,ix,iA,ic,i,oA,oc,o,sA,sc,s⟩] w (Lays w.heap.size w (bodyB (MlL.mp ⟨5,t,r,ix,iA,ic,i,oA,oc,o,sA,sc,s⟩))):=by
 obtain⟨w1,hw1,F1,hs1,hb1⟩:=mail_box w (.int .u8 5) (.int .u32 t) (.int .u8 r) (.int .i64 ix) (.slice iA i.length ic) (.slice oA o.length oc) (.slice sA s.length sc)
 obtain⟨gx,hgx⟩:∃ q,q=w.heap.size:=⟨_,rfl⟩
 have Hgx:=hide hgx
 rw [←hgx] at F1
 have HF1:=hide F1
 obtain⟨y0,y1,y2,y3,y4,y5,y6⟩:=F1.cells
 obtain⟨B,hB⟩:∃ q,q=w1.heap.size:=⟨_,rfl⟩
 have HBs:=hide hB
 have hgB:gx < B:=by rw [hgx,hB];exact hs1
 have hBw:w.heap.size≤B:=by rw [←hgx];omega
 have hbase1:B≤w1.heap.size:=by omega
 obtain⟨⟨q1,q2,q3,q4⟩,⟨ki,ko,ks⟩,-⟩:=ox
 simp only at q1 q2 q3 q4 ki ko ks
 have Hki:=hide ki
 have Hko:=hide ko
 have Hks:=hide ks
 have HX1:=hide ((hx.below hb1).more hBw)
 have Hmi:=hide (may_ids hm (by simp [MlL.mp])).1
 simp only [MlL.mp] at Hmi
 have Hw1:=hide hw1
 have HB1:=hide hb1
 obtain⟨BB,hBB⟩:∃ q,q=bodyB (MlL.mp ⟨5,t,r,ix,iA,ic,i,oA,oc,o,sA,sc,s⟩):=⟨_,rfl⟩
 have HBB:=hide hBB
 rw [←hBB]
 clear hx hm F1 hw1 hb1 hs1 ki ko ks hBB hgx hB
 show Calls Tryz.prog 55 #[mlv 5 t r ix (.slice iA i.length ic) (.slice oA o.length oc) (.slice sA s.length sc)] w _
 go_enter Tryz.func55,Tryz.ntmps55
 go_wp2_with fail
 rw [Hw1.out,←Hgx.out]
 refine (rnum B (.slice none 0 0) [] 5 w1 (ByR.nil _ _) hbase1 (by decide) (by decide) (by decide)).mono ?_
 rintro e w2 ⟨v2,rfl,hp2,hb2,hk2⟩
 rw [List.nil_append,nb_one] at hp2
 have HP2:=hide hp2
 have HF2:=hide (HF1.out.belowB hb2 hgB)
 have HB2:=hide hb2
 have Hl2:=hide (show (nbs [(5:Int)]).length≤6 from nbs_len (one_ok ⟨by decide,by decide⟩))
 have hbase2:B≤w2.heap.size:=Nat.le_trans hbase1 hb2.size
 have hl2:(nbs [(5:Int)]).length≤500000000:=by have:=Hl2.out;omega
 clear hp2 hb2 hk2 HF1 y0 y1 y2 y3 y4 y5 y6
 obtain⟨y0,y1,y2,y3,y4,y5,y6⟩:=HF2.out.cells
 have hl3:(nbs [(5:Int)]++nbs [t,r]).length≤500000000:=by
  rw [←nbs_two]
  have:=Hl2.out
  exact nb_app (nb_app (k:=12) Hl2.out q1 (by omega) (by omega)) q3 (by omega) (by omega)
 go_wp2_with fail
 refine wp_region_inv (fun done ρ W=>CH w2 B (by5V v2 gx t r ix iA sA ic sc i s) 0 3 47 6 50 7 2 v2 (.slice none 0 0) (nbs [5]) (nbs [5]++nbs [t,r]) (nbs [5]++nbs [t,r]++nbs (ckNums (i.map TmL.pt))) done ρ W) (by kernel_rfl) 65 rfl (by kernel_rfl) ?_ ?_ ?_
 ·exact CH.start (Below.refl _ _).drew (Kept.refl _) HP2.out rfl
 ·refine⟨?_,?_,?_,?_,?_,?_,?_,?_,trivial⟩
  ·
   intro done ρ W hn hf hd h
   have qs3:ρ 3=v2:=hf 3 (by kernel_rfl)
   clear hf
   refine .inl ⟨rfl,opOK_step fun R9 hR9=>?_⟩
   unfold opOK
   go_simp
   exact hR9 _ _ (h.plain by5S rfl by5SB 0 44 _ rfl)
  ·
   intro done ρ W hn hf hd h
   have qs1:ρ 1= .pointer (some ⟨gx,0,none⟩):=hf 1 (by kernel_rfl)
   clear hf
   refine .inl ⟨rfl,opOK_step fun R9 hR9=>?_⟩
   unfold opOK
   go_simp
   exact hR9 _ _ (h.plain by5S rfl by5SB 1 45 _ rfl)
  ·
   intro done ρ W hn hf hd h
   have qd1:=h.get 1 45 _ rfl (hd 1 (by kernel_rfl))
   obtain⟨y0,y1,y2,y3,y4,y5,y6⟩:=(HF2.out.belowB h.b hgB).cells
   clear hf
   refine .inl ⟨rfl,opOK_step fun R9 hR9=>?_⟩
   unfold opOK
   go_simp
   exact hR9 _ _ (h.plain by5S rfl by5SB 2 46 _ rfl)
  ·
   intro done ρ W hn hf hd h
   have qd0:=h.get 0 44 _ rfl (hd 0 (by kernel_rfl))
   have qd2:=h.get 2 46 _ rfl (hd 2 (by kernel_rfl))
   have h0:=h.c0 hn
   have hd0:=hd 0 (by kernel_rfl)
   clear hf
   refine .inl ⟨rfl,opOK_step fun R9 hR9=>?_⟩
   unfold opOK
   go_simp
   refine (rstamp B v2 (nbs [5]) t r W h0 (Nat.le_trans hbase2 h.b.size) q1 (by omega) q3 (by omega) (by omega)).mono ?_
   rintro e w' ⟨v',rfl,hr',hb',hk'⟩
   exact⟨v',rfl,hR9 _ _ (h.call1 by5S rfl by5SB hn hd0 hr' hb' hk')⟩
  ·
   intro done ρ W hn hf hd h
   have qs1:ρ 1= .pointer (some ⟨gx,0,none⟩):=hf 1 (by kernel_rfl)
   clear hf
   refine .inl ⟨rfl,opOK_step fun R9 hR9=>?_⟩
   unfold opOK
   go_simp
   exact hR9 _ _ (h.plain by5S rfl by5SB 4 48 _ rfl)
  ·
   intro done ρ W hn hf hd h
   have qd4:=h.get 4 48 _ rfl (hd 4 (by kernel_rfl))
   obtain⟨y0,y1,y2,y3,y4,y5,y6⟩:=(HF2.out.belowB h.b hgB).cells
   clear hf
   refine .inl ⟨rfl,opOK_step fun R9 hR9=>?_⟩
   unfold opOK
   go_simp
   exact hR9 _ _ (h.plain by5S rfl by5SB 5 49 _ rfl)
  ·
   intro done ρ W hn hf hd h
   have qd5:=h.get 5 49 _ rfl (hd 5 (by kernel_rfl))
   have h1:=hd 3 (by kernel_rfl)
   have hR1:=h.c1 h1 hn
   clear hf
   refine .inl ⟨rfl,opOK_step fun R9 hR9=>?_⟩
   unfold opOK
   go_simp
   refine (rclock B _ (nbs [5]++nbs [t,r]) iA i.length ic i W hR1 (Nat.le_trans hbase2 h.b.size) (HX1.out.1.below (HB2.out.trans h.b)) rfl Hki.out Hmi.out hl3).mono ?_
   rintro e w' ⟨v',rfl,hr',hb',hk'⟩
   exact⟨v',rfl,hR9 _ _ (h.call2 by5S rfl by5SB hn h1 hr' hb' hk')⟩
  ·
   intro done ρ W hn hf hd h
   have h2:=hd 6 (by kernel_rfl)
   clear hf
   refine .inl ⟨rfl,opOK_step fun R9 hR9=>?_⟩
   unfold opOK
   go_simp
   exact hR9 _ _ (h.lay by5S rfl by5SB h2 rfl)
 ·intro a' w6 hdf hsz hf h
  have hb6:Below B w2 w6:=h.b
  have hk6:=h.k
  have hR6:=h.c3 (by kernel_rfl)
  obtain⟨T,D⟩:=a'
  have hD:D= []:=hdf
  subst hD
  obtain⟨f1,hT,hff⟩:∃ f:Nat→Value,T=((List.range 65).map f).toArray∧slotsOf ⟨T, []⟩=f:=⟨_,arr_list T 65 hsz,rfl⟩
  rw [hff] at hR6
  clear hff hsz hf h hdf
  simp only [List.range,List.range.loop,List.map] at hT
  subst hT
  have HR6:=hide hR6
  have HB6:=hide (HB2.out.trans hb6)
  clear hR6 hb6 hk6
  go_wp2_with fail
  go_ret
  have e9:BB=nbs [5]++nbs [t,r]++nbs (ckNums (i.map TmL.pt)):=HBB.out
  rw [e9]
  exact Lays.mk (HR6.out.less hBw) (HB1.out.trans (HB6.out.mono hBw)) (Kept.below (HB1.out.trans (HB6.out.mono hBw)))
theorem rbytes_6 (t r ix:Int) (iA oA sA:Option Addr) (ic oc sc:Nat) (i:List TmL) (o:List OpL) (s:List WsL) (w:World) (hx:RM w w.heap.size ⟨6,t,r,ix,iA,ic,i,oA,oc,o,sA,sc,s⟩) (ox:okM ⟨6,t,r,ix,iA,ic,i,oA,oc,o,sA,sc,s⟩) (hm:mayM (MlL.mp ⟨6,t,r,ix,iA,ic,i,oA,oc,o,sA,sc,s⟩)):
 Calls Tryz.prog 55 #[MlL.val ⟨6,t,r,ix,iA,ic,i,oA,oc,o,sA,sc,s⟩] w (Lays w.heap.size w (bodyB (MlL.mp ⟨6,t,r,ix,iA,ic,i,oA,oc,o,sA,sc,s⟩))):=by
 obtain⟨w1,hw1,F1,hs1,hb1⟩:=mail_box w (.int .u8 6) (.int .u32 t) (.int .u8 r) (.int .i64 ix) (.slice iA i.length ic) (.slice oA o.length oc) (.slice sA s.length sc)
 obtain⟨gx,hgx⟩:∃ q,q=w.heap.size:=⟨_,rfl⟩
 have Hgx:=hide hgx
 rw [←hgx] at F1
 have HF1:=hide F1
 obtain⟨y0,y1,y2,y3,y4,y5,y6⟩:=F1.cells
 obtain⟨B,hB⟩:∃ q,q=w1.heap.size:=⟨_,rfl⟩
 have HBs:=hide hB
 have hgB:gx < B:=by rw [hgx,hB];exact hs1
 have hBw:w.heap.size≤B:=by rw [←hgx];omega
 have hbase1:B≤w1.heap.size:=by omega
 obtain⟨hx1,hx2,hmo⟩:=may_chunk hm rfl
 simp only [MlL.mp] at hx1 hx2 hmo
 have hix:=And.intro hx1 hx2
 obtain⟨⟨q1,q2,q3,q4⟩,⟨ki,ko,ks⟩,-⟩:=ox
 simp only at q1 q2 q3 q4 ki ko ks
 have Hki:=hide ki
 have Hko:=hide ko
 have Hks:=hide ks
 have HX1:=hide ((hx.below hb1).more hBw)
 have Hall:=hide (show ∀ x∈o,mayL x from fun x hx=>hmo.2.2 _ (List.mem_map_of_mem hx))
 have Hol:=hide (show o.length≤1024 by have:=hmo.2.1;rw [List.length_map] at this;omega)
 have Hob:=hide (show (allB o).length≤1300000 by
  unfold allB
  rw [List.length_append]
  have h1:=flat_len o (fun x hx=>⟨Hall.out x hx,ko x hx⟩)
  have h2:=nbs_len (one_ok ⟨by omega,by have:=Hol.out;omega⟩:∀ z∈ [(o.length:Int)],0≤z∧z≤1099511627776)
  have h3:=Hol.out
  simp only [List.length_cons,List.length_nil] at h2
  omega)
 have Hbo:=hide (show allB o=opsB (o.map OpL.op) from allB_op o)
 clear hmo
 have Hw1:=hide hw1
 have HB1:=hide hb1
 obtain⟨BB,hBB⟩:∃ q,q=bodyB (MlL.mp ⟨6,t,r,ix,iA,ic,i,oA,oc,o,sA,sc,s⟩):=⟨_,rfl⟩
 have HBB:=hide hBB
 rw [←hBB]
 clear hx hm F1 hw1 hb1 hs1 ki ko ks hBB hgx hB
 show Calls Tryz.prog 55 #[mlv 6 t r ix (.slice iA i.length ic) (.slice oA o.length oc) (.slice sA s.length sc)] w _
 go_enter Tryz.func55,Tryz.ntmps55
 go_wp2_with fail
 rw [Hw1.out,←Hgx.out]
 refine (rnum B (.slice none 0 0) [] 6 w1 (ByR.nil _ _) hbase1 (by decide) (by decide) (by decide)).mono ?_
 rintro e w2 ⟨v2,rfl,hp2,hb2,hk2⟩
 rw [List.nil_append,nb_one] at hp2
 have HP2:=hide hp2
 have HF2:=hide (HF1.out.belowB hb2 hgB)
 have HB2:=hide hb2
 have Hl2:=hide (show (nbs [(6:Int)]).length≤6 from nbs_len (one_ok ⟨by decide,by decide⟩))
 have hbase2:B≤w2.heap.size:=Nat.le_trans hbase1 hb2.size
 have hl2:(nbs [(6:Int)]).length≤500000000:=by have:=Hl2.out;omega
 clear hp2 hb2 hk2 HF1 y0 y1 y2 y3 y4 y5 y6
 obtain⟨y0,y1,y2,y3,y4,y5,y6⟩:=HF2.out.cells
 have hl3:(nbs [(6:Int)]++nbs [t,r]).length≤500000000:=by
  rw [←nbs_two]
  have:=Hl2.out
  exact nb_app (nb_app (k:=12) Hl2.out q1 (by omega) (by omega)) q3 (by omega) (by omega)
 go_wp2_with fail
 clear y0 y1 y2 y3 y4 y5 y6
 refine wp_region_inv (fun done ρ W=>CH w2 B (by6V v2 gx t r ix iA sA ic sc i s) 0 3 56 6 59 7 3 v2 v2 (nbs [6]) (nbs [6]++nbs [t,r]) (nbs [6]++nbs [t,r]++nb ix.toNat) done ρ W) (by kernel_rfl) 65 rfl (by kernel_rfl) ?_ ?_ ?_
 ·exact CH.start (Below.refl _ _).drew (Kept.refl _) HP2.out rfl
 ·refine⟨?_,?_,?_,?_,?_,?_,?_,?_,trivial⟩
  ·
   intro done ρ W hn hf hd h
   have q0:=h.first hn
   clear hf
   refine .inl ⟨rfl,opOK_step fun R9 hR9=>?_⟩
   unfold opOK
   go_simp
   exact hR9 _ _ (h.plain by6S rfl by6SB 0 53 _ rfl)
  ·
   intro done ρ W hn hf hd h
   have qs1:ρ 1= .pointer (some ⟨gx,0,none⟩):=hf 1 (by kernel_rfl)
   clear hf
   refine .inl ⟨rfl,opOK_step fun R9 hR9=>?_⟩
   unfold opOK
   go_simp
   exact hR9 _ _ (h.plain by6S rfl by6SB 1 54 _ rfl)
  ·
   intro done ρ W hn hf hd h
   have qd1:=h.get 1 54 _ rfl (hd 1 (by kernel_rfl))
   obtain⟨y0,y1,y2,y3,y4,y5,y6⟩:=(HF2.out.belowB h.b hgB).cells
   clear hf
   refine .inl ⟨rfl,opOK_step fun R9 hR9=>?_⟩
   unfold opOK
   go_simp
   exact hR9 _ _ (h.plain by6S rfl by6SB 2 55 _ rfl)
  ·
   intro done ρ W hn hf hd h
   have qd0:=h.get 0 53 _ rfl (hd 0 (by kernel_rfl))
   have qd2:=h.get 2 55 _ rfl (hd 2 (by kernel_rfl))
   have h0:=h.c0 hn
   have hd0:=hd 0 (by kernel_rfl)
   clear hf
   refine .inl ⟨rfl,opOK_step fun R9 hR9=>?_⟩
   unfold opOK
   go_simp
   refine (rstamp B v2 (nbs [6]) t r W h0 (Nat.le_trans hbase2 h.b.size) q1 (by omega) q3 (by omega) (by omega)).mono ?_
   rintro e w' ⟨v',rfl,hr',hb',hk'⟩
   exact⟨v',rfl,hR9 _ _ (h.call1 by6S rfl by6SB hn hd0 hr' hb' hk')⟩
  ·
   intro done ρ W hn hf hd h
   have qs1:ρ 1= .pointer (some ⟨gx,0,none⟩):=hf 1 (by kernel_rfl)
   clear hf
   refine .inl ⟨rfl,opOK_step fun R9 hR9=>?_⟩
   unfold opOK
   go_simp
   exact hR9 _ _ (h.plain by6S rfl by6SB 4 57 _ rfl)
  ·
   intro done ρ W hn hf hd h
   have qd4:=h.get 4 57 _ rfl (hd 4 (by kernel_rfl))
   obtain⟨y0,y1,y2,y3,y4,y5,y6⟩:=(HF2.out.belowB h.b hgB).cells
   clear hf
   refine .inl ⟨rfl,opOK_step fun R9 hR9=>?_⟩
   unfold opOK
   go_simp
   exact hR9 _ _ (h.plain by6S rfl by6SB 5 58 _ rfl)
  ·
   intro done ρ W hn hf hd h
   have qd5:=h.get 5 58 _ rfl (hd 5 (by kernel_rfl))
   have h1:=hd 3 (by kernel_rfl)
   have hR1:=h.c1 h1 hn
   clear hf
   refine .inl ⟨rfl,opOK_step fun R9 hR9=>?_⟩
   unfold opOK
   go_simp
   refine (rnum B _ (nbs [6]++nbs [t,r]) ix W hR1 (Nat.le_trans hbase2 h.b.size) hix.1 (by omega) (by omega)).mono ?_
   rintro e w' ⟨v',rfl,hr',hb',hk'⟩
   exact⟨v',rfl,hR9 _ _ (h.call2 by6S rfl by6SB hn h1 hr' hb' hk')⟩
  ·
   intro done ρ W hn hf hd h
   have h2:=hd 6 (by kernel_rfl)
   clear hf
   refine .inl ⟨rfl,opOK_step fun R9 hR9=>?_⟩
   unfold opOK
   go_simp
   exact hR9 _ _ (h.lay by6S rfl by6SB h2 rfl)
 ·intro a' w6 hdf hsz hf h
  have hb6:Below B w2 w6:=h.b
  have hk6:=h.k
  have hR6:=h.c3 (by kernel_rfl)
  have h1:slotsOf a' 1= .pointer (some ⟨gx,0,none⟩):=hf 1 (by kernel_rfl)
  obtain⟨T,D⟩:=a'
  have hD:D= []:=hdf
  subst hD
  obtain⟨f1,hT,hff⟩:∃ f:Nat→Value,T=((List.range 65).map f).toArray∧slotsOf ⟨T, []⟩=f:=⟨_,arr_list T 65 hsz,rfl⟩
  rw [hff] at hR6 h1
  clear hff hsz hf h hdf
  simp only [List.range,List.range.loop,List.map] at hT
  subst hT
  rw [h1]
  clear h1
  have HP6:=hide hR6
  have HB6:=hide (HB2.out.trans hb6)
  have HF6:=hide (HF2.out.belowB hb6 hgB)
  have hbase6:B≤w6.heap.size:=Nat.le_trans hbase2 hb6.size
  have Hl6:=hide (show (nbs [6]++nbs [t,r]++nb ix.toNat).length≤500000006 from nb_app hl3 hix.1 (by omega) (by omega))
  clear hR6 hb6 hk6
  obtain⟨z0,z1,z2,z3,z4,z5,z6⟩:=HF6.out.cells
  go_wp2_with fail
  refine (reflist_ok oA o.length oc o w6 ((HX1.out.2.1.below HB6.out).more hbase6) rfl Hol.out Hko.out Hall.out).mono ?_
  rintro e w7 ⟨v7,rfl,ho7,hb7⟩
  obtain⟨A7,c7,rfl,-,-,-⟩:=own_slice ho7
  have HB7:=hide (HB6.out.trans (hb7.mono hbase6))
  have ho5:=(HP6.out.below hb7).row
  have hsz7:(nbs [6]++nbs [t,r]++nb ix.toNat).length+(allB o).length≤1073741824:=by
   have:=Hl6.out
   have:=Hob.out
   omega
  have hg7:B≤w7.heap.size:=Nat.le_trans hbase6 hb7.size
  obtain⟨q,hq⟩:∃ q,q=nbs [6]++nbs [t,r]++nb ix.toNat:=⟨_,rfl⟩
  have Hq:=hide hq
  rw [←hq] at ho5 hsz7
  obtain⟨i0,hi0,hz0,hz1,hz2⟩:=info_parts u8info
  clear hq HP6 Hl6 hl2 hl3 z0 z1 z2 z3 z4 z5 z6
  go_wp2_with (at_builtin;refine wpList_append_held _ rfl (.tmp 60) (.tmp 63) 23 rfl B 5 i0 (.int .u8 0) 1 1 Tryz.underlying23 hi0 hz0 hz1 hz2 rfl (by decide) _ _ _ rfl ho5 w7.heap.size A7 (allB o).length c7 (u8s (allB o)) rfl (RD.of_own ho7) (u8s_one _) hsz7 (by decide) hg7 ?_;intro v8 w8 ho8 hb8 hk8;rw [←u8s_append,←List.length_append] at ho8;have HO8:=hide ho8;have HB8:=hide (HB7.out.trans hb8);clear ho8 hb8 hk8)
  go_ret
  have e9:BB=q++allB o:=by
   rw [HBB.out,Hq.out,Hbo.out]
   show nbs [6]++nbs [t,r,ix]++_=_
   rw [show [t,r,ix]= [t,r]++ [ix] from rfl,nbs_append,nb_one ix,List.append_assoc (nbs [6]) (nbs [t,r])]
   rfl
  rw [e9]
  exact Lays.mk ((ByR.of HO8.out).less hBw) (HB1.out.trans (HB8.out.mono hBw)) (Kept.below (HB1.out.trans (HB8.out.mono hBw)))
theorem rbytes_any (x:MlL) (w:World) (hx:RM w w.heap.size x) (ox:okM x) (hm:mayM x.mp):
 Calls Tryz.prog 55 #[x.val] w (Lays w.heap.size w (bodyB x.mp)):=by
 obtain⟨k,t,r,ix,iA,ic,i,oA,oc,o,sA,sc,s⟩:=x
 have hk:k=1∨k=2∨k=3∨k=4∨k=5∨k=6:=by
  rcases hm.1 with⟨h | h,-⟩ | ⟨h,-⟩ | ⟨h,-⟩ | ⟨h,-⟩ | ⟨h,-⟩ <;> simp only [MlL.mp] at h <;> omega
 rcases hk with rfl | rfl | rfl | rfl | rfl | rfl
 ·exact rbytes_1 t r ix iA oA sA ic oc sc i o s w hx ox hm
 ·exact rbytes_2 t r ix iA oA sA ic oc sc i o s w hx ox hm
 ·exact rbytes_3 t r ix iA oA sA ic oc sc i o s w hx ox hm
 ·exact rbytes_4 t r ix iA oA sA ic oc sc i o s w hx ox hm
 ·exact rbytes_5 t r ix iA oA sA ic oc sc i o s w hx ox hm
 ·exact rbytes_6 t r ix iA oA sA ic oc sc i o s w hx ox hm
end Go.Proofs.YtmkpfdcnikgokaaGreat
