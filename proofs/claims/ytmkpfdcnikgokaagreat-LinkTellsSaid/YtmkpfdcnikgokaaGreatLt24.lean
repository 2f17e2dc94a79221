/-
  Texts of this claim, put together: MailGet3, MailGetAll, Refill. What each theorem asks stands in its statement.
-/
import Derived.Test.YtmkpfdcnikgokaaGreatLt17
import Derived.Test.YtmkpfdcnikgokaaGreatLt23
set_option linter.unusedVariables false
set_option linter.unusedSimpArgs false
set_option maxRecDepth 100000
set_option maxHeartbeats 25600000
namespace Go.Proofs.YtmkpfdcnikgokaaGreat
open Go.RowKit
theorem wsinfo:(Tryz.prog.info? 79).map (fun i=>(i.zero,i.size,i.bytes))=some (some (.agg #[.int .u32 0,.int .u8 0,.bool false,.slice none 0 0,.bool false,.slice none 0 0,.slice none 0 0]),7,96):=by kernel_rfl
section
variable {w w':World} {base B g n c:Nat} {A:Option Addr} {x:WsL} {L:List WsL}
theorem OW.below (h:OW w base x) (hb:Below w.heap.size w w'):OW w' base x:=⟨h.1.below hb,h.2.1.below hb,own_below h.2.2 hb (Nat.le_refl _)⟩
theorem OW.at (h:OW w base x) (hg:g < base) (ho:OnlyAt g w w'):OW w' base x:=⟨h.1.at hg ho,h.2.1.at hg ho,own_at h.2.2 hg ho⟩
theorem OW.less (h:OW w base x) (hB:B≤base):OW w B x:=⟨h.1.less hB,h.2.1.less hB,own_less h.2.2 hB⟩
theorem OW.setM {cs:Array Value} (h:OW w base x) (hF:w.heap[g]?=some (.cells cs 51 (0,0))) (off:Nat) (u:Value):OW (w.setCell ⟨g,off,none⟩ u) base x:=⟨h.1.setO hF (by decide) (by decide) off u,h.2.1.setO hF (by decide) (by decide) off u,own_setO h.2.2 hF (by decide) off u⟩
theorem OW.kept (h:OW w base x) (hk:∀ (b:Nat) (o':Obj),w.heap[b]?=some o'→(∀ cur,o'≠ .cells cur 79 (0,0))→w'.heap[b]?=some o'):OW w' base x:=⟨h.1.kept (by decide) (by decide) hk,h.2.1.kept (by decide) (by decide) hk,own_kept h.2.2 (by decide) hk⟩
theorem OW.rd (h:OW w base x):RT w w.heap.size x.hA x.h∧RT w w.heap.size x.sA x.s∧RBl w w.heap.size x.gA x.g:=⟨h.1.rt,h.2.1.rt,RD.of_own h.2.2⟩
/-- Wishes in memory of the call's own. -/
def OWs (w:World) (base:Nat) (A:Option Addr) (n c:Nat) (L:List WsL):Prop:=w.ownsRow base 79 7 (.slice A n c) n (wss L)∧∀ x∈L,OW w base x
theorem OWs.below (h:OWs w base A n c L) (hb:Below w.heap.size w w'):OWs w' base A n c L:=⟨own_below h.1 hb (Nat.le_refl _),fun x hx=>(h.2 x hx).below hb⟩
theorem OWs.at (h:OWs w base A n c L) (hg:g < base) (ho:OnlyAt g w w'):OWs w' base A n c L:=⟨own_at h.1 hg ho,fun x hx=>(h.2 x hx).at hg ho⟩
theorem OWs.setM {cs:Array Value} (h:OWs w base A n c L) (hF:w.heap[g]?=some (.cells cs 51 (0,0))) (off:Nat) (u:Value):OWs (w.setCell ⟨g,off,none⟩ u) base A n c L:=⟨own_setO h.1 hF (by decide) off u,fun x hx=>(h.2 x hx).setM hF off u⟩
theorem OWs.rw (h:OWs w base A L.length c L):RW w w.heap.size A L:=⟨RD.of_own h.1,fun x hx=>(h.2 x hx).rd⟩
end
theorem wss_snoc (L:List WsL) (x:WsL):wss L++x.cells=wss (L++ [x]):=by rw [wss_append];simp [wss]
theorem eyeWs_step {acc:List WP} {k:Nat} {P:WP} {st s2:ES} (h:eyeW st=(P,s2)):eyeWs acc (k+1) st=eyeWs (acc++ [P]) k s2:=by
 simp only [eyeWs,h]
/-- The region's fixed values. -/
def mailV (gx g:Nat) (V:Value):List (Option (Nat×Value)):=
 [some (44,.pointer (some ⟨gx,6,none⟩)),some (45,V),some (46,.pointer (some ⟨g,0,none⟩)),none,none,none,some (50,.pointer (some ⟨gx,6,none⟩)),none]
def mailS:List (Option Nat):= [some 44,some 45,some 46,none,none,none,some 50,none]
theorem mget_want (A:Option Addr) (c:Nat) (b m:List UInt8) (s1:ES) (w:World) (hr:RB w w.heap.size A b) (hc:b.length≤c) (hl:b.length < 100000) (hm:opn b=some m) (h1:eyeN 6 (m,false)=(3,s1)):
 Calls Tryz.prog 23 #[.slice A b.length c] w fun e w'=>gotten w w' e m:=by
 obtain⟨w1,hw1,F1,hs1,hb1⟩:=mail_box w (.int .u8 0) (.int .u32 0) (.int .u8 0) (.int .i64 0) (.slice none 0 0) (.slice none 0 0) (.slice none 0 0)
 obtain⟨gx,hgx⟩:∃ q,q=w.heap.size:=⟨_,rfl⟩
 have Hgx:=hide hgx.symm
 have HF1:=hide F1
 rw [←hgx] at HF1
 have hO:=hide (open_any A c b w1 ((RD.below hr hb1).more hb1.size) hc hl)
 have Hm:=hide hm
 have H1:=hide h1
 clear hr hc hl hm h1 F1
 obtain⟨i0,hi0,hz0,hz1,hz2⟩:=info_parts wsinfo
 go_enter Tryz.func23,Tryz.ntmps23
 go_wp2_with fail
 rw [←hgx]
 rw [←hgx] at hs1
 clear hgx
 refine hO.out.mono ?_
 rintro e w2 ⟨ho,hb2⟩
 unfold opened at ho
 rw [Hm.out] at ho
 obtain⟨v,rfl,hown⟩:=ho
 obtain⟨A2,c2,rfl,hc2,hcm,hA2⟩:=own_slice hown
 have hAn:A2=none→c2=0:=fun h=>by subst h;exact own_none hown
 have hm9:m.length < 1073741824:=by have:=(opn_inv Hm.out).2;omega
 obtain⟨w3,hw3⟩:∃ q,w2.alloc (.cells #[.slice A2 m.length c2,.bool false] 94)=q:=⟨_,rfl⟩
 have hE3:EYE w3 w2.heap.size A2 m.length c2 false:=by rw [←hw3];exact heap_alloc_new _ _
 have hb3:Below w2.heap.size w2 w3:=by rw [←hw3];exact boxed _ _
 obtain⟨g,hg⟩:∃ q,q=w2.heap.size:=⟨_,rfl⟩
 have HE3:Hid (EY w3 g (m,false)):=hide (by rw [hg];exact⟨A2,c2,hE3,(RBT.of_own hown (Nat.le_refl _)).below hb3,hc2,hm9,hAn⟩)
 have HF3:=hide ((HF1.out.below hb2).below hb3)
 have HB3:=hide (fresh (fresh hb1 hb2) hb3)
 have Hbase:=hide (show g < w3.heap.size by have:=hE3.lt;omega)
 have Hgg:=hide (show gx < g by have:=hb2.size;omega)
 obtain⟨base,hbase⟩:∃ q,q=w3.heap.size:=⟨_,rfl⟩
 have HS3:=hide (Nat.le_of_eq hbase)
 rw [←hbase] at Hbase
 obtain⟨mn,hmn⟩:∃ q,q=m.length:=⟨_,rfl⟩
 rw [←hmn] at hw3 ⊢
 clear hb1 hb2 hb3 hE3 hown hc2 hA2 hcm hAn hm9 HF1 hO hbase hs1 hmn
 go_wp2_with fail
 rw [←hg]
 clear hg hw3 hw1
 refine (eye_at g 6 (m,false) w3 HE3.out 3 s1 H1.out (by decide)).mono ?_
 rintro e w4 ⟨rfl,hE4,ho4,-,-⟩
 have HE4:=hide hE4
 have HF4:=hide (HF3.out.only ho4 (Nat.ne_of_lt Hgg.out))
 have HB4:=hide (HB3.out.trans (ho4.low (Nat.le_of_lt (by have:=Hgx.out;have:=Hgg.out;omega))))
 have HS4:=hide (Nat.le_trans HS3.out ho4.1.size)
 clear hE4 ho4 HE3 HF3 HB3 HS3
 obtain⟨y0,y1,y2,y3,y4,y5,y6⟩:=HF4.out.cells
 have f0:=(HF4.out).fr 0
 go_wp2_with fail
 obtain⟨w5,hw5⟩:∃ q,(w4).setCell ⟨gx,0,none⟩ (.int .u8 3)=q:=⟨_,rfl⟩
 have HF5:Hid (MB w5 gx (.int .u8 3) (.int .u32 0) (.int .u8 0) (.int .i64 0) (.slice none 0 0) (.slice none 0 0) (.slice none 0 0)):=hide (by rw [←hw5];exact (HF4.out).set0 (.int .u8 3))
 have HE5:Hid (EY w5 g _):=hide (by rw [←hw5];exact (HE4.out).setO (HF4.out) (by decide) (Nat.ne_of_gt Hgg.out) 0 (.int .u8 3))
 have HB5:Hid (Below w.heap.size w w5):=hide (by rw [←hw5];exact (HB4.out).setCell (Nat.le_of_eq Hgx.out) _)
 have HS5:Hid (base≤w5.heap.size):=hide (by rw [←hw5];simpa using HS4.out)
 rw [hw5]
 clear hw5 y0 y1 y2 y3 y4 y5 y6 f0 HF4 HE4 HB4 HS4
 obtain⟨II,s2,h9⟩:∃ a b,eyeC s1=(a,b):=⟨_,_,rfl⟩
 have H2:=hide h9
 clear h9
 obtain⟨x,s3,h9⟩:∃ a b,eyeN 65 s2=(a,b):=⟨_,_,rfl⟩
 have H3:=hide h9
 clear h9
 refine (eyeclock g s1 w5 HE5.out II s2 H2.out).mono ?_
 rintro e w6 ⟨iA,ic,i,rfl,hi,hT,hok,hi8,hE,ho⟩
 have HI6:=hide (hT.less HS5.out)
 have Hi:=hide (And.intro hi (And.intro hok hi8))
 obtain⟨ni,eni⟩:∃ q,q=List.length (α:=TmL) i:=⟨_,rfl⟩
 have Eni:=hide eni
 rw [←eni]
 clear hi hT hok hi8 eni
 have HE6:=hide hE
 have HF6:=hide (HF5.out.only ho (Nat.ne_of_lt Hgg.out))
 have HB6:=hide (HB5.out.trans (ho.low (Nat.le_of_lt (by have:=Hgx.out;have:=Hgg.out;omega))))
 have HS6:=hide (Nat.le_trans HS5.out ho.1.size)
 clear hE ho HE5 HF5 HB5 HS5
 obtain⟨y0,y1,y2,y3,y4,y5,y6⟩:=HF6.out.cells
 have f0:=(HF6.out).fr 4
 go_wp2_with fail
 obtain⟨w7,hw7⟩:∃ q,(w6).setCell ⟨gx,4,none⟩ (.slice iA ni ic)=q:=⟨_,rfl⟩
 have HF7:Hid (MB w7 gx (.int .u8 3) (.int .u32 0) (.int .u8 0) (.int .i64 0) (.slice iA ni ic) (.slice none 0 0) (.slice none 0 0)):=hide (by rw [←hw7];exact (HF6.out).set4 (.slice iA ni ic))
 have HE7:Hid (EY w7 g _):=hide (by rw [←hw7];exact (HE6.out).setO (HF6.out) (by decide) (Nat.ne_of_gt Hgg.out) 4 (.slice iA ni ic))
 have HB7:Hid (Below w.heap.size w w7):=hide (by rw [←hw7];exact (HB6.out).setCell (Nat.le_of_eq Hgx.out) _)
 have HS7:Hid (base≤w7.heap.size):=hide (by rw [←hw7];simpa using HS6.out)
 have HI7:Hid (OTm w7 base iA ic i):=hide (by rw [←hw7];exact (HI6.out).setO (HF6.out) (by decide) (by decide) 4 (.slice iA ni ic))
 rw [hw7]
 clear hw7 y0 y1 y2 y3 y4 y5 y6 f0 HF6 HE6 HB6 HS6 HI6
 refine (eye_at g 65 s2 w7 HE7.out x s3 H3.out (by decide)).mono ?_
 rintro e w8 ⟨rfl,hE,ho,x0,x1⟩
 have Hx01:=hide (And.intro x0 x1)
 clear x0 x1
 have HE8:=hide hE
 have HF8:=hide (HF7.out.only ho (Nat.ne_of_lt Hgg.out))
 have HB8:=hide (HB7.out.trans (ho.low (Nat.le_of_lt (by have:=Hgx.out;have:=Hgg.out;omega))))
 have HS8:=hide (Nat.le_trans HS7.out ho.1.size)
 have HI8:=hide (HI7.out.at Hbase.out ho)
 clear hE ho HE7 HF7 HB7 HS7 HI7
 obtain⟨M,hM⟩:=Int.eq_ofNat_of_zero_le Hx01.out.1
 subst hM
 have zM:M≤65:=by have:=Hx01.out.2;omega
 go_wp2_with fail
 go_loopw [42] (fun ii wr=>∃ (j:Nat) (gA:Option Addr) (gc:Nat) (L:List WsL) (sj:ES),j≤M∧ii= .int .i64 (j:Int)∧Hid (L.length=j)∧Hid (eyeWs (L.map WsL.wp) (M - j) sj=eyeWs [] M s3)∧Hid (∀ y∈L,okW y)∧Hid (MB wr gx (.int .u8 3) (.int .u32 0) (.int .u8 0) (.int .i64 0) (.slice iA ni ic) (.slice none 0 0) (.slice gA j gc))∧Hid (OWs wr base gA j gc L)∧Hid (OTm wr base iA ic i)∧Hid (EY wr g sj)∧Hid (Below w.heap.size w wr)∧Hid (base≤wr.heap.size)) (fun ii _=>M - (intOf ii).toNat)
 case atStart=>exact⟨0,none,0, [],s3,by omega,rfl,hide rfl,hide rfl,hide (fun y hy=>by cases hy),HF8,hide ⟨World.ownsRow_nil _ _ _ _,fun y hy=>by cases hy⟩,HI8,HE8,HB8,HS8⟩
 case round=>
  obtain⟨j,gA,gc,L,sj,hj,rfl,Hl,HB,HW,HF,HO,HI,HEj,HBj,HSj⟩:=hrel
  clear HE8 HF8 HB8 HS8 HI8
  by_cases hlt:j < M
  ·have z0:(j:Int) < M:=by omega
   have HB1:=HB
   obtain⟨P,s9,hx⟩:∃ x s,eyeW sj=(x,s):=⟨_,_,rfl⟩
   rw [show M - j=(M - (j+1))+1 by omega,eyeWs_step hx] at HB1
   have HB2:=hide HB1.out
   have Hx:=hide hx
   clear HB HB1 hx
   go_wp2_with fail
   refine wp_region_inv (fun done ρ W=>LI (mailV gx g (.slice gA j gc)) (fun _=>True) done ρ W∧AJ 1 99 3 4 5 7 47 48 49 (fun W=>Below w.heap.size w W∧base≤W.heap.size) (fun W=>EY W g sj) (fun W=>EY W g s9) (fun W=>OWs W base gA j gc L∧OTm W base iA ic i)
    (fun W=>MB W gx (.int .u8 3) (.int .u32 0) (.int .u8 0) (.int .i64 0) (.slice iA ni ic) (.slice none 0 0) (.slice gA j gc)) (fun v W=>∃ x:WsL,v=x.val∧x.wp=P∧OW W base x∧okW x) (fun _ q W=>∃ x:WsL,x.wp=P∧OW W base x∧okW x∧W.heap[q]?=some (.cells x.cells.toArray 79 (0,0)))
    (fun v W=>∃ A2 c2 x,v= .slice A2 (j+1) c2∧x.wp=P∧okW x∧OWs W base A2 (j+1) c2 (L++ [x])∧OTm W base iA ic i)
    (fun v W=>MB W gx (.int .u8 3) (.int .u32 0) (.int .u8 0) (.int .i64 0) (.slice iA ni ic) (.slice none 0 0) v) done ρ W) (by kernel_rfl) 90 (by rfl) (by kernel_rfl) ?_ ?_ ?_
   ·exact⟨LI.start _ trivial,AJ.start _ ⟨HBj.out.drew,HSj.out⟩ (HEj.out.below (Below.refl _ _).drew) ⟨HO.out.below (Below.refl _ _).drew,HI.out.below (Below.refl _ _).drew⟩ (HF.out.below (Below.refl _ _).drew)⟩
   ·refine⟨?_,?_,?_,?_,?_,?_,?_,?_,trivial⟩
    ·
     intro done ρ W hn hf hd h
     have q2:ρ 2= .pointer (some ⟨gx,0,none⟩):=hf 2 (by kernel_rfl)
     clear hf
     refine .inl ⟨rfl,opOK_step fun R hR=>?_⟩
     unfold opOK
     go_simp
     exact hR _ _ ⟨h.1.put mailS rfl (by decide) 0 44 _ rfl trivial,h.2.plain 0 44 _ (by decide) (by decide) (by decide) (by decide) (by decide) (by decide) (by decide) (fun e=>(by cases e))⟩
    ·
     intro done ρ W hn hf hd h
     have q44:=h.1.get 0 44 _ rfl (hd 0 (by kernel_rfl))
     have hb0:=h.2.b0 (by
      cases hx:done 7 with
      | false=>rfl
      | true=>rw [h.2.zl (h.2.zs hx)] at hn;cases hn)
     obtain⟨y0,y1,y2,y3,y4,y5,y6⟩:=MB.cells hb0
     clear hf
     refine .inl ⟨rfl,opOK_step fun R hR=>?_⟩
     unfold opOK
     go_simp
     exact hR _ _ ⟨h.1.put mailS rfl (by decide) 1 45 _ rfl trivial,h.2.plain 1 45 _ (by decide) (by decide) (by decide) (by decide) (by decide) (by decide) (by decide) (fun e=>(by cases e))⟩
    ·
     intro done ρ W hn hf hd h
     have q5:ρ 5= .pointer (some ⟨g,0,none⟩):=hf 5 (by kernel_rfl)
     clear hf
     refine .inl ⟨rfl,opOK_step fun R hR=>?_⟩
     unfold opOK
     go_simp
     exact hR _ _ ⟨h.1.put mailS rfl (by decide) 2 46 _ rfl trivial,h.2.plain 2 46 _ (by decide) (by decide) (by decide) (by decide) (by decide) (by decide) (by decide) (fun e=>(by cases e))⟩
    ·
     intro done ρ W hn hf hd h
     have q46:=h.1.get 2 46 _ rfl (hd 2 (by kernel_rfl))
     clear hf
     have h0:=h.2.o0 (h.2.noa (h.2.nor hn))
     have hb0:=h.2.b0 (h.2.nos (h.2.noa (h.2.nor hn)))
     have ht:=h.2.t
     refine .inl ⟨rfl,opOK_step fun R hR=>?_⟩
     unfold opOK
     go_simp
     exact (eyewish g sj W (h.2.e0 hn) P s9 Hx.out).mono fun e W' ⟨x,he,hxp,hxo,hxk,hE,ho⟩=>⟨_,he,hR _ _ ⟨h.1.skip mailS rfl 3 47 _ rfl rfl trivial,h.2.call hn (by decide) ⟨ht.1.trans (ho.low (Nat.le_of_lt (by have:=Hgx.out;have:=Hgg.out;omega))),Nat.le_trans ht.2 ho.1.size⟩ hE ⟨h0.1.at Hbase.out ho,h0.2.at Hbase.out ho⟩ (MB.only hb0 ho (Nat.ne_of_lt Hgg.out)) ⟨x,rfl,hxp,hxo.less ht.2,hxk⟩⟩⟩
    ·
     intro done ρ W hn hf hd h
     clear hf
     have hc:=hd 3 (by kernel_rfl)
     have na:=h.2.noa hn
     have h0:=h.2.o0 na
     have hb0:=h.2.b0 (h.2.nos na)
     have ht:=h.2.t
     obtain⟨⟨x,k47,hxp,hxo,hxk⟩,-⟩:=h.2.x1 hc na
     have k47b:=hide k47
     simp only [WsL.val] at k47
     refine .inl ⟨rfl,opOK_step fun R hR=>?_⟩
     unfold opOK
     go_simp
     have hb:=boxed W (.cells x.cells.toArray 79)
     exact hR _ _ ⟨h.1.skip mailS rfl 4 48 _ rfl rfl trivial,h.2.row hn hc (by decide) ⟨ht.1.trans (hb.mono ht.1.size),Nat.le_trans ht.2 hb.size⟩ ((h.2.e1 hc).below hb) ⟨h0.1.below hb,h0.2.below hb⟩ (MB.below hb0 hb) ⟨x,k47b.out,hxp,hxo.below hb,hxk⟩ ⟨x,hxp,hxo.below hb,hxk,heap_alloc_new _ _⟩⟩
    ·
     intro done ρ W hn hf hd h
     have q45:=h.1.get 1 45 _ rfl (hd 1 (by kernel_rfl))
     clear hf
     have hr:=hd 4 (by kernel_rfl)
     have h0:=h.2.o0 hn
     have hb0:=h.2.b0 (h.2.nos hn)
     have ht:=h.2.t
     obtain⟨-,hrow⟩:=h.2.x1 (h.2.zr hr) hn
     obtain⟨q,k1,x,hxp,hxo,hxk,k2⟩:=hrow hr
     refine .inl ⟨rfl,opOK_step fun R hR=>?_⟩
     have hrd:RD W W.heap.size 7 (some ⟨q,0,none⟩) 1 x.cells:=by
      refine⟨rfl,fun _=>⟨q,0,rfl,(Array.getElem?_eq_some_iff.1 k2).1,fun i u hu=>?_⟩⟩
      rw [Nat.zero_add,cell_of_row _ _ _ _ _ _ k2,←Array.getElem?_toList]
      exact hu
     obtain⟨v',w',hrun,hown,hb9,hk9⟩:=run_append_held (P:=Tryz.prog) W base 49 49 79 i0 (.agg #[.int .u32 0,.int .u8 0,.bool false,.slice none 0 0,.bool false,.slice none 0 0,.slice none 0 0]) 7 96 Tryz.underlying49 hi0 hz0 hz1 hz2 rfl (by decide) _ j (wss L) h0.1.1 W.heap.size (some ⟨q,0,none⟩) 1 1 x.cells hrd (wcells_one x) (by omega) (by decide) ht.2
     obtain⟨A2,c2,rfl,-,-,-⟩:=own_slice hown
     rw [wss_snoc] at hown
     exact opOK_append (.tmp 45) (.tmp 48) 49 rfl _ _ q45 k1 _ w' hrun (hR _ _ ⟨h.1.skip mailS rfl 5 49 _ rfl rfl trivial,h.2.app hn hr (hd 1 (by kernel_rfl)) (by decide) ⟨ht.1.trans (hb9.mono (by have:=Hgx.out;have:=Hgg.out;have:=Hbase.out;omega)),Nat.le_trans ht.2 hb9.size⟩ ((h.2.e1 (h.2.zr hr)).belowB hb9 Hbase.out) ⟨A2,c2,x,rfl,hxp,hxk,⟨hown,fun y hy=>by
      rcases List.mem_append.1 hy with k | k
      ·exact (h0.1.2 y k).kept hk9
      ·rw [List.mem_singleton.1 k];exact hxo.kept hk9⟩,h0.2.kept (by decide) (by decide) hk9⟩ (hk9 gx _ hb0 (fun cur e=>by simp at e))⟩)
    ·
     intro done ρ W hn hf hd h
     have q2:ρ 2= .pointer (some ⟨gx,0,none⟩):=hf 2 (by kernel_rfl)
     clear hf
     refine .inl ⟨rfl,opOK_step fun R hR=>?_⟩
     unfold opOK
     go_simp
     exact hR _ _ ⟨h.1.put mailS rfl (by decide) 6 50 _ rfl trivial,h.2.plain 6 50 _ (by decide) (by decide) (by decide) (by decide) (by decide) (by decide) (by decide) (fun e=>(by cases e))⟩
    ·
     intro done ρ W hn hf hd h
     have q50:=h.1.get 6 50 _ rfl (hd 6 (by kernel_rfl))
     clear hf
     have ha:=hd 5 (by kernel_rfl)
     have ht:=h.2.t
     obtain⟨A2,c2,x,k49,hxp,hxk,ho,hT1⟩:=h.2.a1 ha
     have hb0:=h.2.b0 hn
     have hE:=h.2.e1 (h.2.zr (h.2.za ha))
     obtain⟨y0,y1,y2,y3,y4,y5,y6⟩:=MB.cells hb0
     have f6:=MB.fr hb0 6
     refine .inl ⟨rfl,opOK_step fun R hR=>?_⟩
     unfold opOK
     go_simp
     refine hR _ _ ⟨h.1.world 7 _ rfl trivial,h.2.store ha (by decide) ⟨ht.1.setCell (Nat.le_of_eq Hgx.out) _,by simpa using ht.2⟩ (hE.setO hb0 (by decide) (Nat.ne_of_gt Hgg.out) 6 _) ⟨A2,c2,x,k49,hxp,hxk,ho.setM hb0 6 _,hT1.setO hb0 (by decide) (by decide) 6 _⟩ ?_⟩
     show MB _ gx _ _ _ _ _ _ (ρ 49)
     rw [k49]
     exact MB.set6 hb0 _
   ·intro a' w6 hdf hsz hf h
    obtain⟨A6,c6,x,k49,hxp,hxk,hO6,hT6⟩:=h.2.a1 (by kernel_rfl)
    have hB6:=h.2.b1 (by kernel_rfl)
    rw [k49] at hB6
    have HE6:=hide (h.2.e1 (by kernel_rfl))
    have HB6:=hide h.2.t.1
    have HS6:=hide h.2.t.2
    have HO6:=hide hO6
    have HT6:=hide hT6
    have HF6:=hide hB6
    have Hxx:=hide (And.intro hxp hxk)
    have h0:slotsOf a' 0= .slice A b.length c:=hf 0 (by kernel_rfl)
    have h1:slotsOf a' 1=undef:=hf 1 (by kernel_rfl)
    have h2:slotsOf a' 2= .pointer (some ⟨gx,0,none⟩):=hf 2 (by kernel_rfl)
    have h3:slotsOf a' 3= .int .i64 0:=hf 3 (by kernel_rfl)
    have h4:slotsOf a' 4= .slice A2 mn c2:=hf 4 (by kernel_rfl)
    have h5:slotsOf a' 5= .pointer (some ⟨g,0,none⟩):=hf 5 (by kernel_rfl)
    have h6:slotsOf a' 6= .tuple #[.slice A2 mn c2,.int .i64 0]:=hf 6 (by kernel_rfl)
    have h7:slotsOf a' 7= .slice A b.length c:=hf 7 (by kernel_rfl)
    have h8:slotsOf a' 8= .tuple #[.slice A2 mn c2,.int .i64 0]:=hf 8 (by kernel_rfl)
    have h9:slotsOf a' 9= .slice A2 mn c2:=hf 9 (by kernel_rfl)
    have h10:slotsOf a' 10= .int .i64 0:=hf 10 (by kernel_rfl)
    have h11:slotsOf a' 11= .int .i64 0:=hf 11 (by kernel_rfl)
    have h12:slotsOf a' 12= .bool false:=hf 12 (by kernel_rfl)
    have h13:slotsOf a' 13=undef:=hf 13 (by kernel_rfl)
    have h14:slotsOf a' 14=undef:=hf 14 (by kernel_rfl)
    have h15:slotsOf a' 15= .slice A2 mn c2:=hf 15 (by kernel_rfl)
    have h16:slotsOf a' 16= .agg #[.slice A2 mn c2,.bool false]:=hf 16 (by kernel_rfl)
    have h17:slotsOf a' 17= .pointer (some ⟨g,0,none⟩):=hf 17 (by kernel_rfl)
    have h18:slotsOf a' 18= .pointer (some ⟨g,0,none⟩):=hf 18 (by kernel_rfl)
    have h19:slotsOf a' 19= .int .i64 3:=hf 19 (by kernel_rfl)
    have h20:slotsOf a' 20= .int .u8 3:=hf 20 (by kernel_rfl)
    have h21:slotsOf a' 21= .pointer (some ⟨gx,0,none⟩):=hf 21 (by kernel_rfl)
    have h22:slotsOf a' 22= .pointer (some ⟨gx,0,none⟩):=hf 22 (by kernel_rfl)
    have h23:slotsOf a' 23= .int .u8 3:=hf 23 (by kernel_rfl)
    have h24:slotsOf a' 24= .bool false:=hf 24 (by kernel_rfl)
    have h25:slotsOf a' 25= .bool false:=hf 25 (by kernel_rfl)
    have h26:slotsOf a' 26= .bool false:=hf 26 (by kernel_rfl)
    have h27:slotsOf a' 27=undef:=hf 27 (by kernel_rfl)
    have h28:slotsOf a' 28=undef:=hf 28 (by kernel_rfl)
    have h29:slotsOf a' 29=undef:=hf 29 (by kernel_rfl)
    have h30:slotsOf a' 30= .bool false:=hf 30 (by kernel_rfl)
    have h31:slotsOf a' 31= .bool false:=hf 31 (by kernel_rfl)
    have h32:slotsOf a' 32=undef:=hf 32 (by kernel_rfl)
    have h33:slotsOf a' 33=undef:=hf 33 (by kernel_rfl)
    have h34:slotsOf a' 34=undef:=hf 34 (by kernel_rfl)
    have h35:slotsOf a' 35= .bool true:=hf 35 (by kernel_rfl)
    have h36:slotsOf a' 36= .bool true:=hf 36 (by kernel_rfl)
    have h37:slotsOf a' 37= .pointer (some ⟨g,0,none⟩):=hf 37 (by kernel_rfl)
    have h38:slotsOf a' 38= .slice iA ni ic:=hf 38 (by kernel_rfl)
    have h39:slotsOf a' 39= .pointer (some ⟨gx,4,none⟩):=hf 39 (by kernel_rfl)
    have h40:slotsOf a' 40= .pointer (some ⟨g,0,none⟩):=hf 40 (by kernel_rfl)
    have h41:slotsOf a' 41= .int .i64 (M:Int):=hf 41 (by kernel_rfl)
    have h42:slotsOf a' 42= .int .i64 (j:Int):=hf 42 (by kernel_rfl)
    have h43:slotsOf a' 43= .bool true:=hf 43 (by kernel_rfl)
    have h52:slotsOf a' 52=undef:=hf 52 (by kernel_rfl)
    have h53:slotsOf a' 53=undef:=hf 53 (by kernel_rfl)
    have h54:slotsOf a' 54=undef:=hf 54 (by kernel_rfl)
    have h55:slotsOf a' 55=undef:=hf 55 (by kernel_rfl)
    have h56:slotsOf a' 56=undef:=hf 56 (by kernel_rfl)
    have h57:slotsOf a' 57=undef:=hf 57 (by kernel_rfl)
    have h58:slotsOf a' 58=undef:=hf 58 (by kernel_rfl)
    have h59:slotsOf a' 59=undef:=hf 59 (by kernel_rfl)
    have h60:slotsOf a' 60=undef:=hf 60 (by kernel_rfl)
    have h61:slotsOf a' 61=undef:=hf 61 (by kernel_rfl)
    have h62:slotsOf a' 62=undef:=hf 62 (by kernel_rfl)
    have h63:slotsOf a' 63=undef:=hf 63 (by kernel_rfl)
    have h64:slotsOf a' 64=undef:=hf 64 (by kernel_rfl)
    have h65:slotsOf a' 65=undef:=hf 65 (by kernel_rfl)
    have h66:slotsOf a' 66=undef:=hf 66 (by kernel_rfl)
    have h67:slotsOf a' 67=undef:=hf 67 (by kernel_rfl)
    have h68:slotsOf a' 68=undef:=hf 68 (by kernel_rfl)
    have h69:slotsOf a' 69=undef:=hf 69 (by kernel_rfl)
    have h70:slotsOf a' 70=undef:=hf 70 (by kernel_rfl)
    have h71:slotsOf a' 71=undef:=hf 71 (by kernel_rfl)
    have h72:slotsOf a' 72=undef:=hf 72 (by kernel_rfl)
    have h73:slotsOf a' 73=undef:=hf 73 (by kernel_rfl)
    have h74:slotsOf a' 74=undef:=hf 74 (by kernel_rfl)
    have h75:slotsOf a' 75=undef:=hf 75 (by kernel_rfl)
    have h76:slotsOf a' 76=undef:=hf 76 (by kernel_rfl)
    have h77:slotsOf a' 77=undef:=hf 77 (by kernel_rfl)
    have h78:slotsOf a' 78=undef:=hf 78 (by kernel_rfl)
    have h79:slotsOf a' 79=undef:=hf 79 (by kernel_rfl)
    have h80:slotsOf a' 80=undef:=hf 80 (by kernel_rfl)
    have h81:slotsOf a' 81=undef:=hf 81 (by kernel_rfl)
    have h82:slotsOf a' 82=undef:=hf 82 (by kernel_rfl)
    have h83:slotsOf a' 83=undef:=hf 83 (by kernel_rfl)
    have h84:slotsOf a' 84=undef:=hf 84 (by kernel_rfl)
    have h85:slotsOf a' 85=undef:=hf 85 (by kernel_rfl)
    have h86:slotsOf a' 86=undef:=hf 86 (by kernel_rfl)
    have h87:slotsOf a' 87=undef:=hf 87 (by kernel_rfl)
    have h88:slotsOf a' 88=undef:=hf 88 (by kernel_rfl)
    have h89:slotsOf a' 89=undef:=hf 89 (by kernel_rfl)
    clear hO6 hT6 hB6 HEj HBj HSj HO HI HF k49 hxp hxk
    obtain⟨T,D⟩:=a'
    have hD:D= []:=hdf
    subst hD
    obtain⟨f,hT,hff⟩:∃ f:Nat→Value,T=((List.range 90).map f).toArray∧slotsOf ⟨T, []⟩=f:=⟨_,arr_list T 90 hsz,rfl⟩
    rw [hff] at h0 h1 h2 h3 h4 h5 h6 h7 h8 h9 h10 h11 h12 h13 h14 h15 h16 h17 h18 h19 h20 h21 h22 h23 h24 h25 h26 h27 h28 h29 h30 h31 h32 h33 h34 h35 h36 h37 h38 h39 h40 h41 h42 h43 h52 h53 h54 h55 h56 h57 h58 h59 h60 h61 h62 h63 h64 h65 h66 h67 h68 h69 h70 h71 h72 h73 h74 h75 h76 h77 h78 h79 h80 h81 h82 h83 h84 h85 h86 h87 h88 h89
    clear hff hsz hf h hdf
    simp only [List.range,List.range.loop,List.map] at hT
    subst hT
    rw [h0,h1,h2,h3,h4,h5,h6,h7,h8,h9,h10,h11,h12,h13,h14,h15,h16,h17,h18,h19,h20,h21,h22,h23,h24,h25,h26,h27,h28,h29,h30,h31,h32,h33,h34,h35,h36,h37,h38,h39,h40,h41,h42,h43,h52,h53,h54,h55,h56,h57,h58,h59,h60,h61,h62,h63,h64,h65,h66,h67,h68,h69,h70,h71,h72,h73,h74,h75,h76,h77,h78,h79,h80,h81,h82,h83,h84,h85,h86,h87,h88,h89]
    clear h0 h1 h2 h3 h4 h5 h6 h7 h8 h9 h10 h11 h12 h13 h14 h15 h16 h17 h18 h19 h20 h21 h22 h23 h24 h25 h26 h27 h28 h29 h30 h31 h32 h33 h34 h35 h36 h37 h38 h39 h40 h41 h42 h43 h52 h53 h54 h55 h56 h57 h58 h59 h60 h61 h62 h63 h64 h65 h66 h67 h68 h69 h70 h71 h72 h73 h74 h75 h76 h77 h78 h79 h80 h81 h82 h83 h84 h85 h86 h87 h88 h89
    go_wp2_with fail
    go_roundw
    case rel=>
     refine⟨j+1,A6,c6,L++ [x],s9,by omega,by go_num,hide ?_,hide ?_,hide ?_,HF6,HO6,HT6,HE6,HB6,HS6⟩
     ·rw [List.length_append,Hl.out];rfl
     ·rw [List.map_append,List.map_cons,List.map_nil,Hxx.out.1];exact HB2.out
     ·intro y hy
      rcases List.mem_append.1 hy with k | k
      ·exact HW.out y k
      ·rw [List.mem_singleton.1 k];exact Hxx.out.2
    case measure=>simp [intOf];omega
  ·have z0:¬ (j:Int) < M:=by omega
   obtain rfl:j=M:=by omega
   rw [Nat.sub_self] at HB
   obtain⟨sf,hsf⟩:∃ q,q=sj:=⟨_,rfl⟩
   have HB9:Hid (eyeWs [] j s3=(L.map WsL.wp,sf)):=hide (by rw [hsf];exact HB.out.symm)
   have HE9:Hid (EY wr g sf):=hide (by rw [hsf];exact HEj.out)
   obtain⟨wN,hwN⟩:∃ q,q=wr:=⟨_,rfl⟩
   rw [←hwN] at HE9 HF HBj HSj HO HI ⊢
   have z65:=hide zM
   clear HB HEj hsf hwN hj zM
   obtain⟨xL,hxL⟩:∃ q:MlL,q=⟨3,0,0,0,iA,ic,i,none,0, [],gA,gc,L⟩:=⟨_,rfl⟩
   have Hxv:Hid (xL.val=mlv 3 0 0 0 (.slice iA ni ic) (.slice none 0 0) (.slice gA j gc)):=hide (by rw [hxL];rw [Eni.out,←Hl.out];rfl)
   have HOK:Hid (okM xL):=hide (by rw [hxL];exact⟨⟨Int.le_refl 0,(by show (0:Int) < 4294967296;decide),Int.le_refl 0,(by show (0:Int)≤255;decide)⟩,⟨(fun y hy=>Hi.out.2.1 y hy),fun y hy=>(by cases hy),fun y hy=>HW.out y hy⟩,(by have:=Hi.out.2.2;show i.length < 1073741824;omega),(by show (0:Nat) < 1073741824;decide),(by show L.length < 1073741824;have h1:=Hl.out;have h2:=z65.out;omega)⟩)
   have HRM:Hid (RM wN wN.heap.size xL):=hide (by rw [hxL];exact⟨HI.out.rt,⟨RD.nil_,fun y hy=>(by cases hy)⟩,(by have h9:=HO.out;rw [←Hl.out] at h9;exact h9.rw)⟩)
   have HBD:Hid (bodyM (m,false)=(xL.mp,sf)):=hide (by rw [hxL];simp [bodyM,MlL.mp,H1.out,H2.out,H3.out,HB9.out,Hi.out.1])
   have HEY:=HE9
   have HMB:=HF
   have HBW:=HBj
   clear HE9 HF HBj HSj hxL H1 H2 H3 HB9 Hm Hi Eni HI HO HW z65
   obtain⟨zl,zb⟩:=sf
   obtain⟨zA,zc,hze,-⟩:=HEY.out
   obtain⟨e0,e1⟩:=hze.cells
   simp only at e0 e1
   obtain⟨zn,hzn⟩:∃ q,q=zl.length:=⟨_,rfl⟩
   rw [←hzn] at e0
   have Hzn:=hide hzn
   clear hze hzn
   cases zb with
   | true=>
     have HV:=hide (getB_bad HBD.out)
     obtain⟨f0,f1,f2,f3,f4,f5,f6,FZ,hbz⟩:=wipe HMB.out HBW.out (w:=w) (Nat.le_of_eq Hgx.out)
     obtain⟨y0,y1,y2,y3,y4,y5,y6⟩:=HMB.out.cells
     have HFZ:=hide FZ
     have HBZ:=hide hbz
     clear FZ hbz
     go_wp2_with fail
     obtain⟨v0,v1,v2,v3,v4,v5,v6⟩:=HFZ.out.cells
     refine bodyPost_ret (v:= .tuple #[mlv 0 0 0 0 (.slice none 0 0) (.slice none 0 0) (.slice none 0 0),.int .i64 8]) (by simp [results,Tryz.results23,go_sem,v0,v1,v2,v3,v4,v5,v6]) rfl ?_
     exact gotten_bad (HV.out) HBZ.out
   | false=>
     by_cases hzl:(0:Int) < zn
     ·have HV:=hide (getB_long HBD.out (by have:=Hzn.out;omega))
      have hzd:decide ((0:Int) < zn)=true:=decide_eq_true hzl
      have hze:decide (0 < zn)=true:=decide_eq_true (by omega)
      clear hzl
      obtain⟨f0,f1,f2,f3,f4,f5,f6,FZ,hbz⟩:=wipe HMB.out HBW.out (w:=w) (Nat.le_of_eq Hgx.out)
      obtain⟨y0,y1,y2,y3,y4,y5,y6⟩:=HMB.out.cells
      have HFZ:=hide FZ
      have HBZ:=hide hbz
      clear FZ hbz
      go_wp2_with fail
      obtain⟨v0,v1,v2,v3,v4,v5,v6⟩:=HFZ.out.cells
      refine bodyPost_ret (v:= .tuple #[mlv 0 0 0 0 (.slice none 0 0) (.slice none 0 0) (.slice none 0 0),.int .i64 8]) (by simp [results,Tryz.results23,go_sem,v0,v1,v2,v3,v4,v5,v6]) rfl ?_
      exact gotten_bad (HV.out) HBZ.out
     ·have hzd:decide ((0:Int) < zn)=false:=decide_eq_false hzl
      have hz0:zn=0:=by omega
      have HC:=hide (mcheck_any xL wN HRM.out HOK.out)
      rw [Hxv.out] at HC
      obtain⟨y0,y1,y2,y3,y4,y5,y6⟩:=HMB.out.cells
      by_cases hmay:mayM xL.mp
      ·have HV:=hide (getB_ok HBD.out (by rw [←Hzn.out];exact hz0) hmay)
       rw [show chkM xL.mp=0 from if_pos hmay] at HC
       clear hmay
       go_wp2_with fail
       refine HC.out.mono ?_
       rintro e wM ⟨rfl,hbM⟩
       have HMM:=hide (HMB.out.below hbM)
       have HBM:=hide (HBW.out.trans (hbM.mono HBW.out.size))
       have HRMM:=hide ((HRM.out.below hbM).more hbM.size)
       clear y0 y1 y2 y3 y4 y5 y6 e0 e1
       obtain⟨y0,y1,y2,y3,y4,y5,y6⟩:=HMM.out.cells
       have f0:=HMM.out.fr 0
       have f1:=HMM.out.fr 1
       have f2:=HMM.out.fr 2
       have f3:=HMM.out.fr 3
       have f4:=HMM.out.fr 4
       have f5:=HMM.out.fr 5
       have f6:=HMM.out.fr 6
       have s0:=setCell_self y0
       have s1:=setCell_self y1
       have s2:=setCell_self y2
       have s3:=setCell_self y3
       have s4:=setCell_self y4
       have s5:=setCell_self y5
       have s6:=setCell_self y6
       go_wp2_with fail
       refine bodyPost_ret (v:= .tuple #[.agg #[.int .u8 3,.int .u32 0,.int .u8 0,.int .i64 0,.slice iA ni ic,.slice none 0 0,.slice gA j gc],.int .i64 0]) (by simp [results,Tryz.results23,go_sem,y0,y1,y2,y3,y4,y5,y6]) rfl ?_
       exact gotten_ok HV.out (by rw [Hxv.out]) HRMM.out HOK.out HBM.out
      ·have HV:=hide (getB_not HBD.out hmay)
       rw [show chkM xL.mp=8 from if_neg hmay] at HC
       clear hmay
       go_wp2_with fail
       refine HC.out.mono ?_
       rintro e wM ⟨rfl,hbM⟩
       have HMM:=hide (HMB.out.below hbM)
       have HBM:=hide (HBW.out.trans (hbM.mono HBW.out.size))
       clear y0 y1 y2 y3 y4 y5 y6 e0 e1
       obtain⟨f0,f1,f2,f3,f4,f5,f6,FZ,hbz⟩:=wipe HMM.out HBM.out (w:=w) (Nat.le_of_eq Hgx.out)
       obtain⟨y0,y1,y2,y3,y4,y5,y6⟩:=HMM.out.cells
       have HFZ:=hide FZ
       have HBZ:=hide hbz
       clear FZ hbz
       go_wp2_with fail
       obtain⟨v0,v1,v2,v3,v4,v5,v6⟩:=HFZ.out.cells
       refine bodyPost_ret (v:= .tuple #[mlv 0 0 0 0 (.slice none 0 0) (.slice none 0 0) (.slice none 0 0),.int .i64 8]) (by simp [results,Tryz.results23,go_sem,v0,v1,v2,v3,v4,v5,v6]) rfl ?_
       exact gotten_bad (HV.out) HBZ.out
/-- A frame's mail; Get's error. -/
def mailM (b:List UInt8):Option MP:=(opn b).bind getB
def codeM (b:List UInt8):Int:=match opn b with
 | none=>30
 | some m=>mcode m
theorem codeM_iff (b:List UInt8):codeM b=0↔(mailM b).isSome=true:=by
 unfold codeM mailM
 cases opn b with
 | none=>simp
 | some m=>
   simp only [Option.bind_some,mcode]
   split <;> simp_all
theorem mget_none (A:Option Addr) (c:Nat) (b:List UInt8) (w:World) (hr:RB w w.heap.size A b) (hc:b.length≤c) (hl:b.length < 100000) (hm:opn b=none):
 Calls Tryz.prog 23 #[.slice A b.length c] w fun e w'=>e= .returned (.tuple #[m0L.val,.int .i64 30])∧Below w.heap.size w w':=by
 obtain⟨w1,hw1,F1,hs1,hb1⟩:=mail_box w (.int .u8 0) (.int .u32 0) (.int .u8 0) (.int .i64 0) (.slice none 0 0) (.slice none 0 0) (.slice none 0 0)
 obtain⟨gx,hgx⟩:∃ q,q=w.heap.size:=⟨_,rfl⟩
 have Hgx:=hide hgx.symm
 have HF1:=hide F1
 rw [←hgx] at HF1
 have hO:=hide (open_any A c b w1 ((RD.below hr hb1).more hb1.size) hc hl)
 have Hm:=hide hm
 clear hr hc hl hm F1
 go_enter Tryz.func23,Tryz.ntmps23
 go_wp2_with fail
 rw [←hgx]
 rw [←hgx] at hs1
 clear hgx
 refine hO.out.mono ?_
 rintro e w2 ⟨ho,hb2⟩
 unfold opened at ho
 rw [Hm.out] at ho
 subst ho
 have HF2:=hide (HF1.out.below hb2)
 obtain⟨f0,f1,f2,f3,f4,f5,f6,FZ,hbz⟩:=wipe HF2.out (fresh hb1 hb2) (w:=w) (Nat.le_of_eq Hgx.out)
 obtain⟨y0,y1,y2,y3,y4,y5,y6⟩:=HF2.out.cells
 have HFZ:=hide FZ
 have HBZ:=hide hbz
 clear FZ hbz hw1
 go_wp2_with fail
 obtain⟨v0,v1,v2,v3,v4,v5,v6⟩:=HFZ.out.cells
 refine bodyPost_ret (v:= .tuple #[mlv 0 0 0 0 (.slice none 0 0) (.slice none 0 0) (.slice none 0 0),.int .i64 30]) (by simp [results,Tryz.results23,go_sem,v0,v1,v2,v3,v4,v5,v6]) rfl ?_
 exact⟨rfl,HBZ.out⟩
theorem mget_any (A:Option Addr) (n c:Nat) (b:List UInt8) (w:World) (hr:RB w w.heap.size A b) (hn:b.length=n) (hc:n≤c) (hl:n < 100000):
 Calls Tryz.prog 23 #[.slice A n c] w fun e w'=>∃ x:MlL,e= .returned (.tuple #[x.val,.int .i64 (codeM b)])∧x.mp=(mailM b).getD mp0∧RM w' w'.heap.size x∧okM x∧Below w.heap.size w w':=by
 subst hn
 cases hm:opn b with
 | none=>
   refine (mget_none A c b w hr hc hl hm).mono ?_
   rintro e w' ⟨rfl,hb⟩
   exact⟨m0L,by unfold codeM;rw [hm],by unfold mailM;rw [hm];rfl,m0_rm _ _,m0_ok,hb⟩
 | some m=>
   have key:Calls Tryz.prog 23 #[.slice A b.length c] w fun e w'=>gotten w w' e m:=by
    obtain⟨k,s1,h1⟩:∃ k s,eyeN 6 (m,false)=(k,s):=⟨_,_,rfl⟩
    have h2:=eyeN_max 6 (m,false) (by decide)
    rw [h1] at h2
    simp only at h2
    have h3:k=0∨k=1∨k=2∨k=3∨k=4∨k=5∨k=6:=by omega
    rcases h3 with rfl | rfl | rfl | rfl | rfl | rfl | rfl
    ·exact mget_zero A c b m s1 w hr hc hl hm h1
    ·exact mget_ops1 A c b m s1 w hr hc hl hm h1
    ·exact mget_ack A c b m s1 w hr hc hl hm h1
    ·exact mget_want A c b m s1 w hr hc hl hm h1
    ·exact mget_ops4 A c b m s1 w hr hc hl hm h1
    ·exact mget_manifest A c b m s1 w hr hc hl hm h1
    ·exact mget_chunk A c b m s1 w hr hc hl hm h1
   refine key.mono ?_
   rintro e w' ⟨x,he,hx,h⟩
   exact⟨x,by unfold codeM;rw [hm];exact he,by unfold mailM;rw [hm];exact hx,h⟩
/-- A box of mail is filled. -/
theorem refill {W:World} {gx B:Nat} {w:World} {a b c d e f h:Value} (v0 v1 v2 v3 v4 v5 v6:Value) (hF:MB W gx a b c d e f h) (hb:Below B w W) (hg:B≤gx):
 W.frozen? ⟨gx,0,none⟩=false∧(W.setCell ⟨gx,0,none⟩ v0).frozen? ⟨gx,1,none⟩=false∧((W.setCell ⟨gx,0,none⟩ v0).setCell ⟨gx,1,none⟩ v1).frozen? ⟨gx,2,none⟩=false∧(((W.setCell ⟨gx,0,none⟩ v0).setCell ⟨gx,1,none⟩ v1).setCell ⟨gx,2,none⟩ v2).frozen? ⟨gx,3,none⟩=false∧((((W.setCell ⟨gx,0,none⟩ v0).setCell ⟨gx,1,none⟩ v1).setCell ⟨gx,2,none⟩ v2).setCell ⟨gx,3,none⟩ v3).frozen? ⟨gx,4,none⟩=false∧(((((W.setCell ⟨gx,0,none⟩ v0).setCell ⟨gx,1,none⟩ v1).setCell ⟨gx,2,none⟩ v2).setCell ⟨gx,3,none⟩ v3).setCell ⟨gx,4,none⟩ v4).frozen? ⟨gx,5,none⟩=false∧((((((W.setCell ⟨gx,0,none⟩ v0).setCell ⟨gx,1,none⟩ v1).setCell ⟨gx,2,none⟩ v2).setCell ⟨gx,3,none⟩ v3).setCell ⟨gx,4,none⟩ v4).setCell ⟨gx,5,none⟩ v5).frozen? ⟨gx,6,none⟩=false∧MB (((((((W.setCell ⟨gx,0,none⟩ v0).setCell ⟨gx,1,none⟩ v1).setCell ⟨gx,2,none⟩ v2).setCell ⟨gx,3,none⟩ v3).setCell ⟨gx,4,none⟩ v4).setCell ⟨gx,5,none⟩ v5).setCell ⟨gx,6,none⟩ v6) gx v0 v1 v2 v3 v4 v5 v6∧Below B w (((((((W.setCell ⟨gx,0,none⟩ v0).setCell ⟨gx,1,none⟩ v1).setCell ⟨gx,2,none⟩ v2).setCell ⟨gx,3,none⟩ v3).setCell ⟨gx,4,none⟩ v4).setCell ⟨gx,5,none⟩ v5).setCell ⟨gx,6,none⟩ v6):=by
 have F1:=hF.set0 v0
 have F2:=F1.set1 v1
 have F3:=F2.set2 v2
 have F4:=F3.set3 v3
 have F5:=F4.set4 v4
 have F6:=F5.set5 v5
 have F7:=F6.set6 v6
 exact⟨hF.fr 0,F1.fr 1,F2.fr 2,F3.fr 3,F4.fr 4,F5.fr 5,F6.fr 6,F7,(((((((hb.setCell hg _).setCell hg _).setCell hg _).setCell hg _).setCell hg _).setCell hg _).setCell hg _)⟩
end Go.Proofs.YtmkpfdcnikgokaaGreat
