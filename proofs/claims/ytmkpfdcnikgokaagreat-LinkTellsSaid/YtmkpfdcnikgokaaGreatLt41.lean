/-
  Texts of this claim, put together: RdRead3. What each theorem asks stands in its statement.
-/
import Derived.Test.YtmkpfdcnikgokaaGreatLt40
set_option linter.unusedVariables false
set_option linter.unusedSimpArgs false
set_option maxRecDepth 100000
set_option maxHeartbeats 25600000
namespace Go.Proofs.YtmkpfdcnikgokaaGreat
open Go.RowKit
theorem rdWs_step {acc:List WP} {k:Nat} {P:WP} {st s2:ES} (h0:st.2=false) (h:rdW st=(P,s2)):rdWs acc (k+1) st=rdWs (acc++ [P]) k s2:=by
 simp only [rdWs,h0,h,Bool.false_eq_true,if_false]
theorem rdWs_stop {acc:List WP} {k:Nat} {st:ES} (hk:0 < k) (h:st.2=true):rdWs acc k st=(acc,st):=by
 cases k with
 | zero=>omega
 | succ n=>simp only [rdWs,h,if_true]
/-- The region's fixed values. -/
def readV (gx g:Nat) (V:Value):List (Option (Nat×Value)):=
 [some (60,.pointer (some ⟨gx,6,none⟩)),some (61,V),some (62,.pointer (some ⟨g,0,none⟩)),none,none,none,some (66,.pointer (some ⟨gx,6,none⟩)),none]
def readS:List (Option Nat):= [some 60,some 61,some 62,none,none,none,some 66,none]
theorem reads_want (g:Nat) (st s1:ES) (w:World) (h:RY w g st) (h1:eyeN 6 st=(3,s1)):
 Calls Tryz.prog 104 #[.pointer (some ⟨g,0,none⟩)] w fun e w'=>readR w w' g e st:=by
 obtain⟨II,s2,h9⟩:∃ a b,rdC s1=(a,b):=⟨_,_,rfl⟩
 have H2:=hide h9
 clear h9
 obtain⟨x,s3,h9⟩:∃ a b,eyeN 65 s2=(a,b):=⟨_,_,rfl⟩
 have H3:=hide h9
 clear h9
 obtain⟨i0,hi0,hz0,hz1,hz2⟩:=info_parts wsinfo
 have hlt:=h.lt
 have Hlt:=hide hlt
 have Hle:=hide (Nat.le_of_lt hlt)
 have H1:=hide h1
 obtain⟨w1,hw1,F1,hs1,hb1⟩:=mail_box w (.int .u8 0) (.int .u32 0) (.int .u8 0) (.int .i64 0) (.slice none 0 0) (.slice none 0 0) (.slice none 0 0)
 have HE1:=hide (h.below hb1)
 have HO1:=hide (OnlyAt.below hb1 (Nat.le_of_lt hlt))
 obtain⟨gy,hgy⟩:∃ q,q=w.heap.size:=⟨_,rfl⟩
 have Hgy:=hide hgy
 have Hgg:=hide (show g < gy by omega)
 have Hneg:=hide (show gy≠g by omega)
 rw [←hgy] at F1
 have HY1:=hide F1
 have Hs1:=hide (show gy < w1.heap.size by rw [hgy];exact hs1)
 have Hw1:=hide hw1
 clear h1 F1 hw1 hs1 hb1 h hlt hgy
 go_enter Tryz.func104,Tryz.ntmps104
 go_wp2_with fail
 rw [Hw1.out,←Hgy.out]
 clear Hw1
 refine (rd_at g 6 st w1 HE1.out 3 s1 H1.out (by decide)).mono ?_
 rintro e w2 ⟨rfl,hE2,ho2,-,-⟩
 obtain⟨w3,hw3,F3,hs3,hb3⟩:=mail_box w2 (.int .u8 3) (.int .u32 0) (.int .u8 0) (.int .i64 0) (.slice none 0 0) (.slice none 0 0) (.slice none 0 0)
 have HE3:=hide (hE2.below hb3)
 have HO3:=hide ((HO1.out.trans ho2).trans (OnlyAt.below hb3 (Nat.le_of_lt hE2.lt)))
 have HY3:=hide ((HY1.out.only ho2 Hneg.out).below hb3)
 obtain⟨gx,hgx⟩:∃ q,q=w2.heap.size:=⟨_,rfl⟩
 have Hyx:=hide (show gy < gx by rw [hgx];exact Nat.lt_of_lt_of_le Hs1.out ho2.1.size)
 have Hg:=hide (show g < gx by have:=Hgg.out;have:=Hyx.out;omega)
 have Hne:=hide (show gx≠g by have:=Hg.out;omega)
 have Hny:=hide (show gy≠gx by have:=Hyx.out;omega)
 have Hwx:=hide (show w.heap.size≤gx by have:=Hyx.out;rw [←Hgy.out];omega)
 have Hw3:=hide hw3
 obtain⟨k0,k1,k2,k3,k4,k5,k6⟩:=F3.cells
 rw [←hw3] at k0 k1 k2 k3 k4 k5 k6
 clear hw3
 rw [←hgx] at F3
 have HF3:=hide F3
 have Hgx:=hide hgx
 clear F3 hs3 hb3 hE2 ho2 HE1 HO1 HY1 Hs1
 go_wp2_with fail
 rw [Hw3.out,←Hgx.out]
 clear k0 k1 k2 k3 k4 k5 k6 hgx
 refine (rdclock g s1 w3 HE3.out II s2 H2.out).mono ?_
 rintro e w5 ⟨iA,ic,i,rfl,hi,hT,hok,hi8,hE,ho⟩
 have HI5:=hide (hT.less HO3.out.1.size)
 have Hi:=hide (And.intro hi (And.intro hok hi8))
 obtain⟨ni,eni⟩:∃ q,q=List.length (α:=TmL) i:=⟨_,rfl⟩
 have Eni:=hide eni
 rw [←eni]
 clear hi hT hok hi8 eni
 have HE5:=hide hE
 have HF5:=hide (HF3.out.only ho Hne.out)
 have HY5:=hide (HY3.out.only ho Hneg.out)
 have HO5:=hide (HO3.out.trans ho)
 clear hE ho HE3 HF3 HY3 HO3
 obtain⟨y0,y1,y2,y3,y4,y5,y6⟩:=HF5.out.cells
 have f0:=(HF5.out).fr 4
 obtain⟨w7,hw7⟩:∃ q,(w5).setCell ⟨gx,4,none⟩ (.slice iA ni ic)=q:=⟨_,rfl⟩
 have HF7:Hid (MB w7 gx (.int .u8 3) (.int .u32 0) (.int .u8 0) (.int .i64 0) (.slice iA ni ic) (.slice none 0 0) (.slice none 0 0)):=hide (by rw [←hw7];exact (HF5.out).set4 (.slice iA ni ic))
 have HE7:Hid (RY w7 g _):=hide (by rw [←hw7];exact (HE5.out).other Hg.out 4 (.slice iA ni ic))
 have HO7:Hid (OnlyAt g w w7):=hide (by rw [←hw7];exact (HO5.out).setNew Hwx.out Hle.out 4 (.slice iA ni ic))
 have HY7:Hid (MB w7 gy (.int .u8 0) (.int .u32 0) (.int .u8 0) (.int .i64 0) (.slice none 0 0) (.slice none 0 0) (.slice none 0 0)):=hide (by rw [←hw7];exact (HY5.out).other Hny.out 4 (.slice iA ni ic))
 have HI7:Hid (OTm w7 w.heap.size iA ic i):=hide (by rw [←hw7];exact (HI5.out).setO (HF5.out) (by decide) (by decide) 4 (.slice iA ni ic))
 obtain⟨z0,z1,z2,z3,z4,z5,z6⟩:=HF7.out.cells
 clear HF5 HE5 HO5 HY5 HI5
 go_wp2_with fail
 clear hw7 y0 y1 y2 y3 y4 y5 y6 f0 z0 z1 z2 z3 z4 z5 z6
 refine (rd_at g 65 s2 w7 HE7.out x s3 H3.out (by decide)).mono ?_
 rintro e w8 ⟨rfl,hE,ho,x0,x1⟩
 have Hx01:=hide (And.intro x0 x1)
 clear x0 x1
 have HE8:=hide hE
 have HF8:=hide (HF7.out.only ho Hne.out)
 have HY8:=hide (HY7.out.only ho Hneg.out)
 have HO8:=hide (HO7.out.trans ho)
 have HI8:=hide (HI7.out.at Hlt.out ho)
 clear hE ho HE7 HF7 HY7 HO7 HI7
 obtain⟨M,hM⟩:=Int.eq_ofNat_of_zero_le Hx01.out.1
 subst hM
 have zM:M≤65:=by have:=Hx01.out.2;omega
 obtain⟨y0,y1,y2,y3,y4,y5,y6⟩:=HF8.out.cells
 go_wp2_with fail
 clear y0 y1 y2 y3 y4 y5 y6
 go_loopw [5] (fun ii wr=>∃ (j:Nat) (gA:Option Addr) (gc:Nat) (L:List WsL) (sj:ES),j≤M∧ii= .int .i64 (j:Int)∧Hid (L.length=j)∧Hid (rdWs (L.map WsL.wp) (M - j) sj=rdWs [] M s3)∧Hid (∀ y∈L,okW y)∧Hid (MB wr gx (.int .u8 3) (.int .u32 0) (.int .u8 0) (.int .i64 0) (.slice iA ni ic) (.slice none 0 0) (.slice gA j gc))∧Hid (OWs wr w.heap.size gA j gc L)∧Hid (OTm wr w.heap.size iA ic i)∧Hid (RY wr g sj)∧Hid (OnlyAt g w wr)∧Hid (MB wr gy (.int .u8 0) (.int .u32 0) (.int .u8 0) (.int .i64 0) (.slice none 0 0) (.slice none 0 0) (.slice none 0 0))) (fun ii _=>M - (intOf ii).toNat)
 case atStart=>exact⟨0,none,0, [],s3,by omega,rfl,hide rfl,hide rfl,hide (fun y hy=>by cases hy),HF8,hide ⟨World.ownsRow_nil _ _ _ _,fun y hy=>by cases hy⟩,HI8,HE8,HO8,HY8⟩
 case round=>
  obtain⟨j,gA,gc,L,sj,hj,rfl,Hl,HB,HW,HF,HW1,HI,HEj,HOj,HY⟩:=hrel
  clear HE8 HF8 HO8 HY8 HI8
  have r1:=HEj.out.cell1
  obtain⟨sb,hsb⟩:∃ q,q=sj.2:=⟨_,rfl⟩
  have Hsb:=hide hsb
  rw [←hsb] at r1
  clear hsb
  by_cases hgo:j < M∧sb=false
  ·obtain⟨hlt,rfl⟩:=hgo
   have z0:(j:Int) < M:=by omega
   have HB1:=HB
   obtain⟨P,s9,hx⟩:∃ x s,rdW sj=(x,s):=⟨_,_,rfl⟩
   rw [show M - j=(M - (j+1))+1 by omega,rdWs_step Hsb.out.symm hx] at HB1
   have HB2:=hide HB1.out
   have Hx:=hide hx
   clear HB HB1 hx
   go_wp2_with fail
   clear r1
   refine wp_region_inv (fun done ρ W=>LI (readV gx g (.slice gA j gc)) (fun _=>True) done ρ W∧AJ 1 99 3 4 5 7 63 64 65 (fun W=>OnlyAt g w W) (fun W=>RY W g sj) (fun W=>RY W g s9) (fun W=>OWs W w.heap.size gA j gc L∧OTm W w.heap.size iA ic i∧MB W gy (.int .u8 0) (.int .u32 0) (.int .u8 0) (.int .i64 0) (.slice none 0 0) (.slice none 0 0) (.slice none 0 0))
    (fun W=>MB W gx (.int .u8 3) (.int .u32 0) (.int .u8 0) (.int .i64 0) (.slice iA ni ic) (.slice none 0 0) (.slice gA j gc)) (fun v W=>∃ x:WsL,v=x.val∧x.wp=P∧OW W w.heap.size x∧okW x) (fun _ q W=>∃ x:WsL,x.wp=P∧OW W w.heap.size x∧okW x∧W.heap[q]?=some (.cells x.cells.toArray 79 (0,0)))
    (fun v W=>∃ A2 c2 x,v= .slice A2 (j+1) c2∧x.wp=P∧okW x∧OWs W w.heap.size A2 (j+1) c2 (L++ [x])∧OTm W w.heap.size iA ic i∧MB W gy (.int .u8 0) (.int .u32 0) (.int .u8 0) (.int .i64 0) (.slice none 0 0) (.slice none 0 0) (.slice none 0 0))
    (fun v W=>MB W gx (.int .u8 3) (.int .u32 0) (.int .u8 0) (.int .i64 0) (.slice iA ni ic) (.slice none 0 0) v) done ρ W) (by kernel_rfl) 84 (by rfl) (by kernel_rfl) ?_ ?_ ?_
   ·exact⟨LI.start _ trivial,AJ.start _ (HOj.out.trans (OnlyAt.below (Below.refl _ _).drew (Nat.le_of_lt HEj.out.lt))) (HEj.out.below (Below.refl _ _).drew) ⟨HW1.out.below (Below.refl _ _).drew,HI.out.below (Below.refl _ _).drew,HY.out.below (Below.refl _ _).drew⟩ (HF.out.below (Below.refl _ _).drew)⟩
   ·refine⟨?_,?_,?_,?_,?_,?_,?_,?_,trivial⟩
    ·
     intro done ρ W hn hf hd h
     have q2:ρ 3= .pointer (some ⟨gx,0,none⟩):=hf 3 (by kernel_rfl)
     clear hf
     refine .inl ⟨rfl,opOK_step fun R hR=>?_⟩
     unfold opOK
     go_simp
     exact hR _ _ ⟨h.1.put readS rfl (by decide) 0 60 _ rfl trivial,h.2.plain 0 60 _ (by decide) (by decide) (by decide) (by decide) (by decide) (by decide) (by decide) (fun e=>(by cases e))⟩
    ·
     intro done ρ W hn hf hd h
     have q60:=h.1.get 0 60 _ rfl (hd 0 (by kernel_rfl))
     have hb0:=h.2.b0 (by
      cases hx:done 7 with
      | false=>rfl
      | true=>rw [h.2.zl (h.2.zs hx)] at hn;cases hn)
     obtain⟨y0,y1,y2,y3,y4,y5,y6⟩:=MB.cells hb0
     clear hf
     refine .inl ⟨rfl,opOK_step fun R hR=>?_⟩
     unfold opOK
     go_simp
     exact hR _ _ ⟨h.1.put readS rfl (by decide) 1 61 _ rfl trivial,h.2.plain 1 61 _ (by decide) (by decide) (by decide) (by decide) (by decide) (by decide) (by decide) (fun e=>(by cases e))⟩
    ·
     intro done ρ W hn hf hd h
     have q5:ρ 0= .pointer (some ⟨g,0,none⟩):=hf 0 (by kernel_rfl)
     clear hf
     refine .inl ⟨rfl,opOK_step fun R hR=>?_⟩
     unfold opOK
     go_simp
     exact hR _ _ ⟨h.1.put readS rfl (by decide) 2 62 _ rfl trivial,h.2.plain 2 62 _ (by decide) (by decide) (by decide) (by decide) (by decide) (by decide) (by decide) (fun e=>(by cases e))⟩
    ·
     intro done ρ W hn hf hd h
     have q62:=h.1.get 2 62 _ rfl (hd 2 (by kernel_rfl))
     clear hf
     have h0:=h.2.o0 (h.2.noa (h.2.nor hn))
     have hb0:=h.2.b0 (h.2.nos (h.2.noa (h.2.nor hn)))
     have ht:=h.2.t
     refine .inl ⟨rfl,opOK_step fun R hR=>?_⟩
     unfold opOK
     go_simp
     exact (rdwish g sj W (h.2.e0 hn) P s9 Hx.out).mono fun e W' ⟨x,he,hxp,hxo,hxk,hE,ho⟩=>⟨_,he,hR _ _ ⟨h.1.skip readS rfl 3 63 _ rfl rfl trivial,h.2.call hn (by decide) (ht.trans ho) hE ⟨h0.1.at Hlt.out ho,h0.2.1.at Hlt.out ho,MB.only h0.2.2 ho Hneg.out⟩ (MB.only hb0 ho Hne.out) ⟨x,rfl,hxp,hxo.less ht.1.size,hxk⟩⟩⟩
    ·
     intro done ρ W hn hf hd h
     clear hf
     have hc:=hd 3 (by kernel_rfl)
     have na:=h.2.noa hn
     have h0:=h.2.o0 na
     have hb0:=h.2.b0 (h.2.nos na)
     have ht:=h.2.t
     obtain⟨⟨x,k63,hxp,hxo,hxk⟩,-⟩:=h.2.x1 hc na
     have k63b:=hide k63
     simp only [WsL.val] at k63
     refine .inl ⟨rfl,opOK_step fun R hR=>?_⟩
     unfold opOK
     go_simp
     have hb:=boxed W (.cells x.cells.toArray 79)
     exact hR _ _ ⟨h.1.skip readS rfl 4 64 _ rfl rfl trivial,h.2.row hn hc (by decide) (ht.trans (OnlyAt.below hb (Nat.le_of_lt (h.2.e1 hc).lt))) ((h.2.e1 hc).below hb) ⟨h0.1.below hb,h0.2.1.below hb,h0.2.2.below hb⟩ (MB.below hb0 hb) ⟨x,k63b.out,hxp,hxo.below hb,hxk⟩ ⟨x,hxp,hxo.below hb,hxk,heap_alloc_new _ _⟩⟩
    ·
     intro done ρ W hn hf hd h
     have q61:=h.1.get 1 61 _ rfl (hd 1 (by kernel_rfl))
     clear hf
     have hr:=hd 4 (by kernel_rfl)
     have h0:=h.2.o0 hn
     have hb0:=h.2.b0 (h.2.nos hn)
     have ht:=h.2.t
     obtain⟨-,hrow⟩:=h.2.x1 (h.2.zr hr) hn
     obtain⟨q,k1,x,hxp,hxo,hxk,k2⟩:=hrow hr
     refine .inl ⟨rfl,opOK_step fun R hR=>?_⟩
     have hrd:RD W W.heap.size 7 (some ⟨q,0,none⟩) 1 x.cells:=by
      refine⟨rfl,fun _=>⟨q,0,rfl,(Array.getElem?_eq_some_iff.1 k2).1,fun i u hu=>?_⟩⟩
      rw [Nat.zero_add,cell_of_row _ _ _ _ _ _ k2,←Array.getElem?_toList]
      exact hu
     obtain⟨v',w',hrun,hown,hb9,hk9⟩:=run_append_held (P:=Tryz.prog) W w.heap.size 49 49 79 i0 (.agg #[.int .u32 0,.int .u8 0,.bool false,.slice none 0 0,.bool false,.slice none 0 0,.slice none 0 0]) 7 96 Tryz.underlying49 hi0 hz0 hz1 hz2 rfl (by decide) _ j (wss L) h0.1.1 W.heap.size (some ⟨q,0,none⟩) 1 1 x.cells hrd (wcells_one x) (by omega) (by decide) ht.1.size
     obtain⟨A2,c2,rfl,-,-,-⟩:=own_slice hown
     rw [wss_snoc] at hown
     exact opOK_append (.tmp 61) (.tmp 64) 49 rfl _ _ q61 k1 _ w' hrun (hR _ _ ⟨h.1.skip readS rfl 5 65 _ rfl rfl trivial,h.2.app hn hr (hd 1 (by kernel_rfl)) (by decide) (ht.more hb9 Hle.out) ((h.2.e1 (h.2.zr hr)).belowB hb9 Hlt.out) ⟨A2,c2,x,rfl,hxp,hxk,⟨hown,fun y hy=>by
      rcases List.mem_append.1 hy with k | k
      ·exact (h0.1.2 y k).kept hk9
      ·rw [List.mem_singleton.1 k];exact hxo.kept hk9⟩,h0.2.1.kept (by decide) (by decide) hk9,hk9 gy _ h0.2.2 (fun cur e=>by simp at e)⟩ (hk9 gx _ hb0 (fun cur e=>by simp at e))⟩)
    ·
     intro done ρ W hn hf hd h
     have q2:ρ 3= .pointer (some ⟨gx,0,none⟩):=hf 3 (by kernel_rfl)
     clear hf
     refine .inl ⟨rfl,opOK_step fun R hR=>?_⟩
     unfold opOK
     go_simp
     exact hR _ _ ⟨h.1.put readS rfl (by decide) 6 66 _ rfl trivial,h.2.plain 6 66 _ (by decide) (by decide) (by decide) (by decide) (by decide) (by decide) (by decide) (fun e=>(by cases e))⟩
    ·
     intro done ρ W hn hf hd h
     have q66:=h.1.get 6 66 _ rfl (hd 6 (by kernel_rfl))
     clear hf
     have ha:=hd 5 (by kernel_rfl)
     have ht:=h.2.t
     obtain⟨A2,c2,x,k65,hxp,hxk,ho,hT1,hY1⟩:=h.2.a1 ha
     have hb0:=h.2.b0 hn
     have hE:=h.2.e1 (h.2.zr (h.2.za ha))
     obtain⟨y0,y1,y2,y3,y4,y5,y6⟩:=MB.cells hb0
     have f6:=MB.fr hb0 6
     refine .inl ⟨rfl,opOK_step fun R hR=>?_⟩
     unfold opOK
     go_simp
     refine hR _ _ ⟨h.1.world 7 _ rfl trivial,h.2.store ha (by decide) (ht.setNew Hwx.out Hle.out 6 _) (hE.other Hg.out 6 _) ⟨A2,c2,x,k65,hxp,hxk,ho.setM hb0 6 _,hT1.setO hb0 (by decide) (by decide) 6 _,hY1.other Hny.out 6 _⟩ ?_⟩
     show MB _ gx _ _ _ _ _ _ (ρ 65)
     rw [k65]
     exact MB.set6 hb0 _
   ·intro a' w6 hdf hsz hf h
    obtain⟨A6,c6,x,k65,hxp,hxk,hO6,hT6,hY6⟩:=h.2.a1 (by kernel_rfl)
    have hB6:=h.2.b1 (by kernel_rfl)
    rw [k65] at hB6
    have HE6:=hide (h.2.e1 (by kernel_rfl))
    have HO6:=hide h.2.t
    have HW6:=hide hO6
    have HT6:=hide hT6
    have HY6:=hide hY6
    have HF6:=hide hB6
    have Hxx:=hide (And.intro hxp hxk)
    have h0:slotsOf a' 0= .pointer (some ⟨g,0,none⟩):=hf 0 (by kernel_rfl)
    have h1:slotsOf a' 1=undef:=hf 1 (by kernel_rfl)
    have h2:slotsOf a' 2= .pointer (some ⟨gy,0,none⟩):=hf 2 (by kernel_rfl)
    have h3:slotsOf a' 3= .pointer (some ⟨gx,0,none⟩):=hf 3 (by kernel_rfl)
    have h4:slotsOf a' 4= .int .i64 (M:Int):=hf 4 (by kernel_rfl)
    have h5:slotsOf a' 5= .int .i64 (j:Int):=hf 5 (by kernel_rfl)
    have h6:slotsOf a' 6= .pointer (some ⟨g,0,none⟩):=hf 6 (by kernel_rfl)
    have h7:slotsOf a' 7= .int .i64 3:=hf 7 (by kernel_rfl)
    have h8:slotsOf a' 8= .int .u8 3:=hf 8 (by kernel_rfl)
    have h9:slotsOf a' 9= .agg #[.int .u8 3,.int .u32 0,.int .u8 0,.int .i64 0,.slice none 0 0,.slice none 0 0,.slice none 0 0]:=hf 9 (by kernel_rfl)
    have h10:slotsOf a' 10= .pointer (some ⟨gx,0,none⟩):=hf 10 (by kernel_rfl)
    have h11:slotsOf a' 11= .int .u8 3:=hf 11 (by kernel_rfl)
    have h12:slotsOf a' 12= .bool false:=hf 12 (by kernel_rfl)
    have h13:slotsOf a' 13= .bool false:=hf 13 (by kernel_rfl)
    have h14:slotsOf a' 14= .pointer (some ⟨gx,0,none⟩):=hf 14 (by kernel_rfl)
    have h15:slotsOf a' 15= .int .u8 3:=hf 15 (by kernel_rfl)
    have h16:slotsOf a' 16= .bool false:=hf 16 (by kernel_rfl)
    have h17:slotsOf a' 17= .bool false:=hf 17 (by kernel_rfl)
    have h18:slotsOf a' 18=undef:=hf 18 (by kernel_rfl)
    have h19:slotsOf a' 19=undef:=hf 19 (by kernel_rfl)
    have h20:slotsOf a' 20=undef:=hf 20 (by kernel_rfl)
    have h21:slotsOf a' 21= .pointer (some ⟨gx,0,none⟩):=hf 21 (by kernel_rfl)
    have h22:slotsOf a' 22= .int .u8 3:=hf 22 (by kernel_rfl)
    have h23:slotsOf a' 23= .bool false:=hf 23 (by kernel_rfl)
    have h24:slotsOf a' 24=undef:=hf 24 (by kernel_rfl)
    have h25:slotsOf a' 25=undef:=hf 25 (by kernel_rfl)
    have h26:slotsOf a' 26=undef:=hf 26 (by kernel_rfl)
    have h27:slotsOf a' 27= .pointer (some ⟨gx,0,none⟩):=hf 27 (by kernel_rfl)
    have h28:slotsOf a' 28= .int .u8 3:=hf 28 (by kernel_rfl)
    have h29:slotsOf a' 29= .bool false:=hf 29 (by kernel_rfl)
    have h30:slotsOf a' 30= .bool false:=hf 30 (by kernel_rfl)
    have h31:slotsOf a' 31= .pointer (some ⟨gx,0,none⟩):=hf 31 (by kernel_rfl)
    have h32:slotsOf a' 32= .int .u8 3:=hf 32 (by kernel_rfl)
    have h33:slotsOf a' 33= .bool true:=hf 33 (by kernel_rfl)
    have h34:slotsOf a' 34= .bool true:=hf 34 (by kernel_rfl)
    have h35:slotsOf a' 35= .bool true:=hf 35 (by kernel_rfl)
    have h36:slotsOf a' 36=undef:=hf 36 (by kernel_rfl)
    have h37:slotsOf a' 37=undef:=hf 37 (by kernel_rfl)
    have h38:slotsOf a' 38=undef:=hf 38 (by kernel_rfl)
    have h39:slotsOf a' 39= .bool true:=hf 39 (by kernel_rfl)
    have h40:slotsOf a' 40= .pointer (some ⟨g,0,none⟩):=hf 40 (by kernel_rfl)
    have h41:slotsOf a' 41= .slice iA ni ic:=hf 41 (by kernel_rfl)
    have h42:slotsOf a' 42= .pointer (some ⟨gx,4,none⟩):=hf 42 (by kernel_rfl)
    have h43:slotsOf a' 43= .pointer (some ⟨gx,0,none⟩):=hf 43 (by kernel_rfl)
    have h44:slotsOf a' 44= .int .u8 3:=hf 44 (by kernel_rfl)
    have h45:slotsOf a' 45= .bool true:=hf 45 (by kernel_rfl)
    have h46:slotsOf a' 46= .pointer (some ⟨g,0,none⟩):=hf 46 (by kernel_rfl)
    have h47:slotsOf a' 47= .int .i64 (M:Int):=hf 47 (by kernel_rfl)
    have h67:slotsOf a' 67=undef:=hf 67 (by kernel_rfl)
    have h68:slotsOf a' 68=undef:=hf 68 (by kernel_rfl)
    have h69:slotsOf a' 69=undef:=hf 69 (by kernel_rfl)
    have h70:slotsOf a' 70=undef:=hf 70 (by kernel_rfl)
    have h71:slotsOf a' 71=undef:=hf 71 (by kernel_rfl)
    have h72:slotsOf a' 72=undef:=hf 72 (by kernel_rfl)
    have h73:slotsOf a' 73=undef:=hf 73 (by kernel_rfl)
    have h74:slotsOf a' 74=undef:=hf 74 (by kernel_rfl)
    have h75:slotsOf a' 75=undef:=hf 75 (by kernel_rfl)
    have h76:slotsOf a' 76=undef:=hf 76 (by kernel_rfl)
    have h77:slotsOf a' 77=undef:=hf 77 (by kernel_rfl)
    have h78:slotsOf a' 78=undef:=hf 78 (by kernel_rfl)
    have h79:slotsOf a' 79=undef:=hf 79 (by kernel_rfl)
    have h80:slotsOf a' 80=undef:=hf 80 (by kernel_rfl)
    have h81:slotsOf a' 81=undef:=hf 81 (by kernel_rfl)
    have h82:slotsOf a' 82=undef:=hf 82 (by kernel_rfl)
    have h83:slotsOf a' 83=undef:=hf 83 (by kernel_rfl)
    clear hO6 hT6 hB6 hY6 HEj HOj HW1 HI HF HY k65 hxp hxk
    obtain⟨T,D⟩:=a'
    have hD:D= []:=hdf
    subst hD
    obtain⟨f,hT,hff⟩:∃ f:Nat→Value,T=((List.range 84).map f).toArray∧slotsOf ⟨T, []⟩=f:=⟨_,arr_list T 84 hsz,rfl⟩
    rw [hff] at h0 h1 h2 h3 h4 h5 h6 h7 h8 h9 h10 h11 h12 h13 h14 h15 h16 h17 h18 h19 h20 h21 h22 h23 h24 h25 h26 h27 h28 h29 h30 h31 h32 h33 h34 h35 h36 h37 h38 h39 h40 h41 h42 h43 h44 h45 h46 h47 h67 h68 h69 h70 h71 h72 h73 h74 h75 h76 h77 h78 h79 h80 h81 h82 h83
    clear hff hsz hf h hdf
    simp only [List.range,List.range.loop,List.map] at hT
    subst hT
    rw [h0,h1,h2,h3,h4,h5,h6,h7,h8,h9,h10,h11,h12,h13,h14,h15,h16,h17,h18,h19,h20,h21,h22,h23,h24,h25,h26,h27,h28,h29,h30,h31,h32,h33,h34,h35,h36,h37,h38,h39,h40,h41,h42,h43,h44,h45,h46,h47,h67,h68,h69,h70,h71,h72,h73,h74,h75,h76,h77,h78,h79,h80,h81,h82,h83]
    clear h0 h1 h2 h3 h4 h5 h6 h7 h8 h9 h10 h11 h12 h13 h14 h15 h16 h17 h18 h19 h20 h21 h22 h23 h24 h25 h26 h27 h28 h29 h30 h31 h32 h33 h34 h35 h36 h37 h38 h39 h40 h41 h42 h43 h44 h45 h46 h47 h67 h68 h69 h70 h71 h72 h73 h74 h75 h76 h77 h78 h79 h80 h81 h82 h83
    go_wp2_with fail
    go_roundw
    case rel=>
     refine⟨j+1,A6,c6,L++ [x],s9,by omega,by go_num,hide ?_,hide ?_,hide ?_,HF6,HW6,HT6,HE6,HO6,HY6⟩
     ·rw [List.length_append,Hl.out];rfl
     ·rw [List.map_append,List.map_cons,List.map_nil,Hxx.out.1];exact HB2.out
     ·intro y hy
      rcases List.mem_append.1 hy with k | k
      ·exact HW.out y k
      ·rw [List.mem_singleton.1 k];exact Hxx.out.2
    case measure=>simp [intOf];omega
  ·have HB9:Hid (rdWs [] M s3=(L.map WsL.wp,sj)):=hide (by
    rw [←HB.out]
    by_cases hjm:j=M
    ·rw [hjm,Nat.sub_self];rfl
    ·exact rdWs_stop (by omega) (by rw [←Hsb.out];cases sb with | true=>rfl | false=>exact absurd ⟨by omega,rfl⟩ hgo))
   obtain⟨sf,hsf⟩:∃ q,q=sj:=⟨_,rfl⟩
   rw [←hsf] at HB9 HEj
   clear hsf
   have z65:=hide (And.intro zM hj)
   have Ha:=hide (show ((j:Int) < M→sb=true) by intro h9;cases sb with | true=>rfl | false=>exact absurd ⟨by omega,rfl⟩ hgo)
   clear HB zM hj
   rcases Bool.eq_false_or_eq_true sb with rfl | rfl
   ·clear hgo Hsb
    by_cases z0:(j:Int) < M
    ·skip
     have HF9:=HF
     have HE9:=HEj
     have HO9:=HOj
     have HY9:=HY
     have HW9:=HW1
     have HI9:=HI
     clear HF HEj HOj HY HW1 HI
     obtain⟨z0,z1,z2,z3,z4,z5,z6⟩:=HF9.out.cells
     obtain⟨u0,u1,u2,u3,u4,u5,u6⟩:=HY9.out.cells
     obtain⟨g0,g1,g2,g3,g4,g5,g6,FZ,EZ,OZ⟩:=mfill (.int .u8 3) (.int .u32 0) (.int .u8 0) (.int .i64 0) (.slice iA ni ic) (.slice none 0 0) (.slice gA j gc) HY9.out HE9.out HO9.out Hgg.out (Nat.le_of_eq Hgy.out.symm) Hle.out
     have HFZ:=hide FZ
     have HEZ:=hide EZ
     have HOZ:=hide OZ
     have HWZ:=hide (mfill_w (.int .u8 3) (.int .u32 0) (.int .u8 0) (.int .i64 0) (.slice iA ni ic) (.slice none 0 0) (.slice gA j gc) HY9.out HW9.out)
     have HIZ:=hide (mfill_t (.int .u8 3) (.int .u32 0) (.int .u8 0) (.int .i64 0) (.slice iA ni ic) (.slice none 0 0) (.slice gA j gc) HY9.out HI9.out)
     clear FZ EZ OZ HF9 HE9 HO9 HY9 HW9 HI9
     go_wp2_with fail
     generalize hWW:((((((wr.setCell ⟨gy,0,none⟩ (.int .u8 3)).setCell ⟨gy,1,none⟩ (.int .u32 0)).setCell ⟨gy,2,none⟩ (.int .u8 0)).setCell ⟨gy,3,none⟩ (.int .i64 0)).setCell ⟨gy,4,none⟩ (.slice iA ni ic)).setCell ⟨gy,5,none⟩ (.slice none 0 0)).setCell ⟨gy,6,none⟩ (.slice gA j gc)=WW at HFZ HEZ HOZ HWZ HIZ ⊢
     obtain⟨v0,v1,v2,v3,v4,v5,v6⟩:=HFZ.out.cells
     refine bodyPost_ret (v:=mlv 3 0 0 0 (.slice iA ni ic) (.slice none 0 0) (.slice gA j gc)) (by simp [results,Tryz.results104,go_sem,v0,v1,v2,v3,v4,v5,v6]) rfl ?_
     have HM:=hide (show readM st=_ from readM_step H1.out (if_neg (by decide)) (if_neg (by decide)) ((if_pos (by decide)).trans H2.out) (show rdWk 3 s2=(L.map WsL.wp,sf) by unfold rdWk;rw [if_pos rfl,H3.out];exact HB9.out) (if_neg (by decide)))
     refine⟨⟨3,0,0,0,iA,ic,i,none,0, [],gA,gc,L⟩,?_,by rw [HM.out];show MP.mk _ _ _ _ _ _ _=_;rw [←Hi.out.1];rfl,⟨HIZ.out,OO.nil _ _,(by have h9:=HWZ.out;rw [←Hl.out] at h9;exact h9)⟩,⟨⟨Int.le_refl 0,(by show (0:Int) < 4294967296;decide),Int.le_refl 0,(by show (0:Int)≤255;decide)⟩,⟨(fun y hy=>Hi.out.2.1 y hy),fun y hy=>(by cases hy),fun y hy=>HW.out y hy⟩,(by have:=Hi.out.2.2;show i.length < 1073741824;omega),(by show (0:Nat) < 1073741824;decide),(by show L.length < 1073741824;have h1:=Hl.out;have h2:=z65.out;omega)⟩,by rw [HM.out];exact HEZ.out,HOZ.out⟩
     rw [Eni.out,←Hl.out];rfl
    ·skip
     have HF9:=HF
     have HE9:=HEj
     have HO9:=HOj
     have HY9:=HY
     have HW9:=HW1
     have HI9:=HI
     clear HF HEj HOj HY HW1 HI
     obtain⟨z0,z1,z2,z3,z4,z5,z6⟩:=HF9.out.cells
     obtain⟨u0,u1,u2,u3,u4,u5,u6⟩:=HY9.out.cells
     obtain⟨g0,g1,g2,g3,g4,g5,g6,FZ,EZ,OZ⟩:=mfill (.int .u8 3) (.int .u32 0) (.int .u8 0) (.int .i64 0) (.slice iA ni ic) (.slice none 0 0) (.slice gA j gc) HY9.out HE9.out HO9.out Hgg.out (Nat.le_of_eq Hgy.out.symm) Hle.out
     have HFZ:=hide FZ
     have HEZ:=hide EZ
     have HOZ:=hide OZ
     have HWZ:=hide (mfill_w (.int .u8 3) (.int .u32 0) (.int .u8 0) (.int .i64 0) (.slice iA ni ic) (.slice none 0 0) (.slice gA j gc) HY9.out HW9.out)
     have HIZ:=hide (mfill_t (.int .u8 3) (.int .u32 0) (.int .u8 0) (.int .i64 0) (.slice iA ni ic) (.slice none 0 0) (.slice gA j gc) HY9.out HI9.out)
     clear FZ EZ OZ HF9 HE9 HO9 HY9 HW9 HI9
     go_wp2_with fail
     generalize hWW:((((((wr.setCell ⟨gy,0,none⟩ (.int .u8 3)).setCell ⟨gy,1,none⟩ (.int .u32 0)).setCell ⟨gy,2,none⟩ (.int .u8 0)).setCell ⟨gy,3,none⟩ (.int .i64 0)).setCell ⟨gy,4,none⟩ (.slice iA ni ic)).setCell ⟨gy,5,none⟩ (.slice none 0 0)).setCell ⟨gy,6,none⟩ (.slice gA j gc)=WW at HFZ HEZ HOZ HWZ HIZ ⊢
     obtain⟨v0,v1,v2,v3,v4,v5,v6⟩:=HFZ.out.cells
     refine bodyPost_ret (v:=mlv 3 0 0 0 (.slice iA ni ic) (.slice none 0 0) (.slice gA j gc)) (by simp [results,Tryz.results104,go_sem,v0,v1,v2,v3,v4,v5,v6]) rfl ?_
     have HM:=hide (show readM st=_ from readM_step H1.out (if_neg (by decide)) (if_neg (by decide)) ((if_pos (by decide)).trans H2.out) (show rdWk 3 s2=(L.map WsL.wp,sf) by unfold rdWk;rw [if_pos rfl,H3.out];exact HB9.out) (if_neg (by decide)))
     refine⟨⟨3,0,0,0,iA,ic,i,none,0, [],gA,gc,L⟩,?_,by rw [HM.out];show MP.mk _ _ _ _ _ _ _=_;rw [←Hi.out.1];rfl,⟨HIZ.out,OO.nil _ _,(by have h9:=HWZ.out;rw [←Hl.out] at h9;exact h9)⟩,⟨⟨Int.le_refl 0,(by show (0:Int) < 4294967296;decide),Int.le_refl 0,(by show (0:Int)≤255;decide)⟩,⟨(fun y hy=>Hi.out.2.1 y hy),fun y hy=>(by cases hy),fun y hy=>HW.out y hy⟩,(by have:=Hi.out.2.2;show i.length < 1073741824;omega),(by show (0:Nat) < 1073741824;decide),(by show L.length < 1073741824;have h1:=Hl.out;have h2:=z65.out;omega)⟩,by rw [HM.out];exact HEZ.out,HOZ.out⟩
     rw [Eni.out,←Hl.out];rfl
   ·have z0:¬ (j:Int) < M:=fun h9=>by have:=Ha.out h9;cases this
    clear hgo Hsb
    have HF9:=HF
    have HE9:=HEj
    have HO9:=HOj
    have HY9:=HY
    have HW9:=HW1
    have HI9:=HI
    clear HF HEj HOj HY HW1 HI
    obtain⟨z0,z1,z2,z3,z4,z5,z6⟩:=HF9.out.cells
    obtain⟨u0,u1,u2,u3,u4,u5,u6⟩:=HY9.out.cells
    obtain⟨g0,g1,g2,g3,g4,g5,g6,FZ,EZ,OZ⟩:=mfill (.int .u8 3) (.int .u32 0) (.int .u8 0) (.int .i64 0) (.slice iA ni ic) (.slice none 0 0) (.slice gA j gc) HY9.out HE9.out HO9.out Hgg.out (Nat.le_of_eq Hgy.out.symm) Hle.out
    have HFZ:=hide FZ
    have HEZ:=hide EZ
    have HOZ:=hide OZ
    have HWZ:=hide (mfill_w (.int .u8 3) (.int .u32 0) (.int .u8 0) (.int .i64 0) (.slice iA ni ic) (.slice none 0 0) (.slice gA j gc) HY9.out HW9.out)
    have HIZ:=hide (mfill_t (.int .u8 3) (.int .u32 0) (.int .u8 0) (.int .i64 0) (.slice iA ni ic) (.slice none 0 0) (.slice gA j gc) HY9.out HI9.out)
    clear FZ EZ OZ HF9 HE9 HO9 HY9 HW9 HI9
    go_wp2_with fail
    generalize hWW:((((((wr.setCell ⟨gy,0,none⟩ (.int .u8 3)).setCell ⟨gy,1,none⟩ (.int .u32 0)).setCell ⟨gy,2,none⟩ (.int .u8 0)).setCell ⟨gy,3,none⟩ (.int .i64 0)).setCell ⟨gy,4,none⟩ (.slice iA ni ic)).setCell ⟨gy,5,none⟩ (.slice none 0 0)).setCell ⟨gy,6,none⟩ (.slice gA j gc)=WW at HFZ HEZ HOZ HWZ HIZ ⊢
    obtain⟨v0,v1,v2,v3,v4,v5,v6⟩:=HFZ.out.cells
    refine bodyPost_ret (v:=mlv 3 0 0 0 (.slice iA ni ic) (.slice none 0 0) (.slice gA j gc)) (by simp [results,Tryz.results104,go_sem,v0,v1,v2,v3,v4,v5,v6]) rfl ?_
    have HM:=hide (show readM st=_ from readM_step H1.out (if_neg (by decide)) (if_neg (by decide)) ((if_pos (by decide)).trans H2.out) (show rdWk 3 s2=(L.map WsL.wp,sf) by unfold rdWk;rw [if_pos rfl,H3.out];exact HB9.out) (if_neg (by decide)))
    refine⟨⟨3,0,0,0,iA,ic,i,none,0, [],gA,gc,L⟩,?_,by rw [HM.out];show MP.mk _ _ _ _ _ _ _=_;rw [←Hi.out.1];rfl,⟨HIZ.out,OO.nil _ _,(by have h9:=HWZ.out;rw [←Hl.out] at h9;exact h9)⟩,⟨⟨Int.le_refl 0,(by show (0:Int) < 4294967296;decide),Int.le_refl 0,(by show (0:Int)≤255;decide)⟩,⟨(fun y hy=>Hi.out.2.1 y hy),fun y hy=>(by cases hy),fun y hy=>HW.out y hy⟩,(by have:=Hi.out.2.2;show i.length < 1073741824;omega),(by show (0:Nat) < 1073741824;decide),(by show L.length < 1073741824;have h1:=Hl.out;have h2:=z65.out;omega)⟩,by rw [HM.out];exact HEZ.out,HOZ.out⟩
    rw [Eni.out,←Hl.out];rfl
/-- The document's reader: read. -/
theorem rdread (g:Nat) (st:ES) (w:World) (h:RY w g st):Calls Tryz.prog 104 #[.pointer (some ⟨g,0,none⟩)] w fun e w'=>readR w w' g e st:=by
 obtain⟨k,s1,h1⟩:∃ a b,eyeN 6 st=(a,b):=⟨_,_,rfl⟩
 have h2:=eyeN_max 6 st (by decide)
 rw [h1] at h2
 obtain⟨h3,h4⟩:0≤k∧k≤6:=h2
 rcases (show k=0∨k=1∨k=2∨k=3∨k=4∨k=5∨k=6 by omega) with rfl | rfl | rfl | rfl | rfl | rfl | rfl
 ·exact reads_zero g st s1 w h h1
 ·exact reads_ops1 g st s1 w h h1
 ·exact reads_ack g st s1 w h h1
 ·exact reads_want g st s1 w h h1
 ·exact reads_ops4 g st s1 w h h1
 ·exact reads_manifest g st s1 w h h1
 ·exact reads_chunk g st s1 w h h1
end Go.Proofs.YtmkpfdcnikgokaaGreat
