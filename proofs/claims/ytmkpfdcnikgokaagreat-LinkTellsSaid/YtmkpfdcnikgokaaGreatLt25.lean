/-
  Texts of this claim, put together: LinkGarble, LinkGarble2, LinkAlive. What each theorem asks stands in its statement.
-/
import Derived.Lib.SlBytesConst
import Derived.Test.YtmkpfdcnikgokaaGreatLt4
import Derived.Test.YtmkpfdcnikgokaaGreatLt24
set_option linter.unusedVariables false
set_option linter.unusedSimpArgs false
set_option maxRecDepth 100000
set_option maxHeartbeats 25600000
namespace Go.Proofs.YtmkpfdcnikgokaaGreat
open Go.RowKit
/-- What Garble answers at a place. -/
def gar1E (b:List UInt8):Int:=if 20000 < b.length then 4 else 0
def gar1V (K:List (List UInt8)) (m:Nat) (b:List UInt8):List (List UInt8):=if 20000 < b.length then [] else if codeM b=0 then K.eraseIdx m else K.set m b
theorem of_cur {w:World} {base g c:Nat} {Q:List FrL} (h:OF w base (some ⟨g,0,none⟩) c Q):∃ cur,w.heap[g]?=some (.cells cur 23 (0,0))∧base≤g∧Q.length≤c∧c≤maxLen∧cur.size=c∧cur.toList.take Q.length=frs Q:=by
 rcases h.1.2 with⟨h1,-⟩ | ⟨q,cap,cur,h1,h2,h3,h4,h5,h6,h7⟩
 ·simp at h1
 simp only [Value.slice.injEq,Option.some.injEq,Addr.mk.injEq,and_true,true_and] at h1
 obtain⟨rfl,rfl⟩:=h1
 rw [Nat.mul_one] at h6 h7
 exact⟨cur,h3,h2,h4,h5,h6,h7⟩
theorem of_cell {w:World} {base g c n m:Nat} {Q:List FrL} (h:OF w base (some ⟨g,0,none⟩) c Q) (hn:Q.length=n) (hm:m < n):(∃ u,w.cell? ⟨g,m,none⟩=some u)∧w.frozen? ⟨g,m,none⟩=false:=by
 obtain⟨cur,h1,-,h2,-,h3,-⟩:=of_cur h
 refine⟨⟨cur[m],?_⟩,frozen_of_row w g m _ _ h1⟩
 rw [cell_of_row _ _ _ _ _ _ h1,Array.getElem?_eq_getElem (by omega)]
/-- A frame is put in another's place. -/
theorem OF.put {w:World} {base g c m:Nat} {Q:List FrL} (h:OF w base (some ⟨g,0,none⟩) c Q) (_hm:m < Q.length) (y:FrL) (hy:w.ownsRow base 5 1 (.slice y.A y.b.length y.c) y.b.length (u8s y.b)):OF (w.setCell ⟨g,m,none⟩ y.cell) base (some ⟨g,0,none⟩) c (Q.set m y):=by
 obtain⟨cur,h1,h2,h3,h4,h5,h6⟩:=of_cur h
 have hk:∀ k,k≠g→(w.setCell ⟨g,m,none⟩ y.cell).heap[k]?=w.heap[k]?:=fun k hk=>heap_setCell_other _ _ _ _ hk
 refine⟨⟨by rw [frs_len,Nat.mul_one],.inr ⟨g,c,_,rfl,h2,heap_setCell_same _ _ _ _ _ _ h1,by rw [List.length_set];exact h3,h4,?_,?_⟩⟩,fun x hx=>?_⟩
 ·simp [h5]
 ·rw [Nat.mul_one,List.length_set,Array.toList_setIfInBounds,List.take_set,h6]
  simp [frs]
 ·rcases List.mem_or_eq_of_mem_set hx with k | rfl
  ·exact fr_at (h.2 x k) h1 (by decide) hk
  ·exact fr_at hy h1 (by decide) hk
/-- What stands in the middle of a frame's garbling. -/
structure GJ (w:World) (B base gi gb m g c n bn:Nat) (bA:Option Addr) (bc:Nat) (b:List UInt8) (Q:List FrL) (done:Nat→Bool) (ρ:Nat→Value) (W:World):Prop where
 bel:Below B w W
 i:IBX W gi (m:Int)
 p:BBX W gb (.slice bA bn bc)
 s:base≤W.heap.size
 o:done 5=false→OF W base (some ⟨g,0,none⟩) c Q
 r:done 3=false→RB W W.heap.size bA b
 x:done 3=true→∃ A' c',ρ 26= .slice A' bn c'∧W.ownsRow base 5 1 (.slice A' bn c') bn (u8s b)
 o1:done 5=true→∃ A' c',OF W base (some ⟨g,0,none⟩) c (Q.set m ⟨A',c',b⟩)
 z:done 5=true→done 3=true
section
variable {w:World} {B base gi gb m g c n bn:Nat} {bA:Option Addr} {bc:Nat} {b:List UInt8} {Q:List FrL} {done:Nat→Bool} {ρ:Nat→Value} {W:World}
theorem GJ.start (ρ:Nat→Value) (hb:Below B w W) (hi:IBX W gi (m:Int)) (hp:BBX W gb (.slice bA bn bc)) (ho:OF W base (some ⟨g,0,none⟩) c Q) (hr:RB W W.heap.size bA b) (hs:base≤W.heap.size):GJ w B base gi gb m g c n bn bA bc b Q (fun _=>false) ρ W:=
 ⟨hb,hi,hp,hs,fun _=>ho,fun _=>hr,fun h=>(by cases h),fun h=>(by cases h),fun h=>(by cases h)⟩
theorem GJ.no5 (h:GJ w B base gi gb m g c n bn bA bc b Q done ρ W) (hn:done 3=false):done 5=false:=by
 cases hx:done 5 with
 | false=>rfl
 | true=>rw [h.z hx] at hn;cases hn
theorem GJ.other (h:GJ w B base gi gb m g c n bn bA bc b Q done ρ W) {i d:Nat} {v:Value} (h3:3≠i) (h5:5≠i) (hd:26≠d):GJ w B base gi gb m g c n bn bA bc b Q (upd done i) (putS ρ (some d) v) W:=
 ⟨h.bel,h.i,h.p,h.s,fun k=>by rw [upd_ne h5] at k;exact h.o k,fun k=>by rw [upd_ne h3] at k;exact h.r k,fun k=>by rw [upd_ne h3] at k;rw [put_ne hd];exact h.x k,fun k=>by rw [upd_ne h5] at k;exact h.o1 k,fun k=>by rw [upd_ne h5] at k;rw [upd_ne h3];exact h.z k⟩
theorem GJ.call (h:GJ w B base gi gb m g c n bn bA bc b Q done ρ W) (h3:done 3=false) (h5:done 5=false) (hB:B≤w.heap.size) {A':Option Addr} {c':Nat} {W':World} (ho:W'.ownsRow W.heap.size 5 1 (.slice A' bn c') bn (u8s b)) (hb:Below W.heap.size W W'):GJ w B base gi gb m g c n bn bA bc b Q (upd done 3) (putS ρ (some 26) (.slice A' bn c')) W':=
 ⟨h.bel.trans (hb.mono (Nat.le_trans hB h.bel.size)),h.i.below hb,h.p.below hb,Nat.le_trans h.s hb.size,fun _=>(h.o h5).below hb,fun k=>(by rw [upd_eq] at k;cases k),fun _=>⟨A',c',put_eq,fr_less ho h.s⟩,fun k=>(by rw [upd_ne (by decide),h5] at k;cases k),fun k=>(by rw [upd_ne (by decide),h5] at k;cases k)⟩
theorem GJ.store (h:GJ w B base gi gb m g c n bn bA bc b Q done ρ W) (hn:Q.length=n) (hm:m < n) (hbn:b.length=bn) (hgi:gi < base) (hgb:gb < base) {A':Option Addr} {c':Nat} (hq:ρ 26= .slice A' bn c') (ho:W.ownsRow base 5 1 (.slice A' bn c') bn (u8s b)) (hB:B≤base) {v:Value} (h5:done 5=false) (h3:done 3=true):GJ w B base gi gb m g c n bn bA bc b Q (upd done 5) (putS ρ none v) (W.setCell ⟨g,m,none⟩ (.slice A' bn c')):=by
 subst hbn
 obtain⟨cur,e1,e2,-⟩:=of_cur (h.o h5)
 have hp:=(h.o h5).put (by rw [hn];exact hm) ⟨A',c',b⟩ ho
 have n1:gi≠g:=by omega
 have n2:gb≠g:=by omega
 exact⟨h.bel.setCell (Nat.le_trans hB e2) _,(heap_setCell_other _ _ _ _ n1).trans h.i,(heap_setCell_other _ _ _ _ n2).trans h.p,by simpa using h.s,fun k=>(by rw [upd_eq] at k;cases k),fun k=>(by rw [upd_ne (by decide),h3] at k;cases k),fun _=>⟨A',c',hq,fr_at ho e1 (by decide) (fun k hk=>heap_setCell_other _ _ _ _ hk)⟩,fun _=>⟨A',c',hp⟩,fun _=>upd_true h3⟩
end
theorem garble1_ok (g c n m gi gb base B bn bc:Nat) (bA:Option Addr) (b:List UInt8) (Q:List FrL) (w:World) (hO:OF w base (some ⟨g,0,none⟩) c Q) (hn:Q.length=n) (hm:m < n) (hn9:n≤64) (hI:IBX w gi (m:Int)) (hBB:BBX w gb (.slice bA bn bc)) (hgi:gi < base) (hgb:gb < base) (hr:RB w w.heap.size bA b) (hbn:b.length=bn) (hbc:bn≤bc) (hBb:B≤base) (hBw:B≤w.heap.size) (hbs:base≤w.heap.size):
 Calls Tryz.prog 40 #[.slice (some ⟨g,0,none⟩) n c,.pointer (some ⟨gb,0,none⟩),.pointer (some ⟨gi,0,none⟩)] w fun e w'=>∃ (A':Option Addr) (c':Nat) (Q':List FrL),e= .returned (.tuple #[.slice A' (List.length (α:=FrL) Q') c',.int .i64 (gar1E b)])∧Q'.map FrL.b=gar1V (Q.map FrL.b) m b∧OF w' base A' c' Q'∧Below B w w':=by
 have i1:=hI.cell
 have c1:=hBB.cell
 obtain⟨cur9,-,-,hnc,-,-,-⟩:=of_cur hO
 have z0:(m:Int) < n:=by omega
 have zm:(0:Int)≤m:=by omega
 have zw:IntKind.i64.wrap ((m:Int)+1)=((m+1:Nat):Int):=by rw [IntWalk.i64_in _ (by omega)];omega
 have HI:=hide hI
 have HB:=hide hBB
 have HO:=hide hO
 have HR:=hide hr
 have Hn:=hide hn
 have Hm:=hide hm
 have Hbn:=hide hbn
 have Hgi:=hide hgi
 have Hgb:=hide hgb
 by_cases hbig:(20000:Int) < bn
 ·have HGE:=hide (show gar1E b=4 from if_pos (by omega))
  have HGV:=hide (show gar1V (Q.map FrL.b) m b= [] from if_pos (by omega))
  clear hO hn hm hI hBB hgi hgb hr hbn
  go_enter Tryz.func40,Tryz.ntmps40
  go_wp2_with fail
  refine bodyPost_ret (v:= .tuple #[.slice none 0 0,.int .i64 4]) (by simp [results,Tryz.results40,go_sem]) rfl ?_
  exact⟨none,0, [],by rw [HGE.out];rfl,by rw [HGV.out];rfl,OF.nil _ _,Below.refl _ _⟩
 have HG:=hide (mget_any bA bn bc b w hr hbn hbc (by omega))
 have HGE:=hide (show gar1E b=0 from if_neg (by omega))
 have HS:=hide hbs
 by_cases hcode:codeM b=0
 ·have HGV:=hide (show gar1V (Q.map FrL.b) m b=(Q.map FrL.b).eraseIdx m by unfold gar1V;rw [if_neg (by omega),if_pos hcode])
  rw [hcode] at HG
  clear hO hn hm hI hBB hgi hgb hr hbn hcode hbs
  go_enter Tryz.func40,Tryz.ntmps40
  go_wp2_with fail
  refine HG.out.mono ?_
  rintro e w3 ⟨x,rfl,-,-,-,hb3⟩
  simp only [MlL.val]
  have HI3:=hide (HI.out.below hb3)
  have HB3:=hide (HB.out.below hb3)
  have HO3:=hide (HO.out.below hb3)
  have HR3:=hide ((RD.below HR.out hb3).more hb3.size)
  obtain⟨w4,hw4,F4,hs4,hb4⟩:=mail_box w3 (.int .u8 0) (.int .u32 0) (.int .u8 0) (.int .i64 0) (.slice none 0 0) (.slice none 0 0) (.slice none 0 0)
  obtain⟨f0,f1,f2,f3,f4,f5,f6,F5,hb5⟩:=refill (.int .u8 x.k) (.int .u32 x.t) (.int .u8 x.r) (.int .i64 x.ix) (.slice x.iA x.i.length x.ic) (.slice x.oA x.o.length x.oc) (.slice x.sA x.s.length x.sc) F4 (Below.refl w3.heap.size w4) (Nat.le_refl _)
  obtain⟨y0,y1,y2,y3,y4,y5,y6⟩:=F4.cells
  obtain⟨w5,hw5⟩:∃ q,((((((w4.setCell ⟨w3.heap.size,0,none⟩ (.int .u8 x.k)).setCell ⟨w3.heap.size,1,none⟩ (.int .u32 x.t)).setCell ⟨w3.heap.size,2,none⟩ (.int .u8 x.r)).setCell ⟨w3.heap.size,3,none⟩ (.int .i64 x.ix)).setCell ⟨w3.heap.size,4,none⟩ (.slice x.iA x.i.length x.ic)).setCell ⟨w3.heap.size,5,none⟩ (.slice x.oA x.o.length x.oc)).setCell ⟨w3.heap.size,6,none⟩ (.slice x.sA x.s.length x.sc)=q:=⟨_,rfl⟩
  rw [hw5] at F5 hb5
  have hb35:=hb4.trans hb5
  have HI5:=hide (HI3.out.below hb35)
  have HB5:=hide (HB3.out.below hb35)
  have HO5:=hide (HO3.out.below hb35)
  have HR5:=hide ((RD.below HR3.out hb35).more hb35.size)
  have HBB5:=hide ((hb3.mono hBw).trans (hb35.mono (Nat.le_trans hBw hb3.size)))
  have i0:=HI5.out.cell
  have c0:=HB5.out.cell
  clear i1 c1 HI HB HO HR HI3 HB3 HO3 HR3 F4 F5 hb3 hb4 hb5 hb35 hs4
  have HD:=hide (ldelete g c n m (m+1) base Q w5 HO5.out Hn.out (by omega) (by have:=Hm.out;omega) hn9)
  rw [show ((m+1:Nat):Int)=(m:Int)+1 by omega] at HD
  go_wp2_with fail
  refine HD.out.mono ?_
  rintro e w6 ⟨rfl,hO6,hb6⟩
  have HO6:=hide hO6
  have HB6:=hide (HBB5.out.trans (hb6 B hBb))
  clear hO6 hb6 i0 c0
  go_wp2_with fail
  refine bodyPost_ret (v:= .tuple #[.slice (some ⟨g,0,none⟩) (n - (m+1 - m)) c,.int .i64 0]) (by simp [results,Tryz.results40,go_sem]) rfl ?_
  have hql:(Q.take m++Q.drop (m+1)).length=n - (m+1 - m):=by rw [List.length_append,List.length_take,List.length_drop,Hn.out];have:=Hm.out;omega
  exact⟨some ⟨g,0,none⟩,c,Q.take m++Q.drop (m+1),by rw [hql,HGE.out],by rw [HGV.out,List.eraseIdx_eq_take_drop_succ];simp,HO6.out,HB6.out⟩
 ·have HGV:=hide (show gar1V (Q.map FrL.b) m b=(Q.map FrL.b).set m b by unfold gar1V;rw [if_neg (by omega),if_neg hcode])
  obtain⟨code,hcd⟩:∃ q,q=codeM b:=⟨_,rfl⟩
  rw [←hcd] at HG hcode
  have hcb:(code == 0)=false:=beq_eq_false_iff_ne.2 hcode
  clear hO hn hm hI hBB hgi hgb hr hbn hcd
  go_enter Tryz.func40,Tryz.ntmps40
  go_wp2_with fail
  refine HG.out.mono ?_
  rintro e w3 ⟨x,rfl,-,-,-,hb3⟩
  simp only [MlL.val]
  have HI3:=hide (HI.out.below hb3)
  have HB3:=hide (HB.out.below hb3)
  have HO3:=hide (HO.out.below hb3)
  have HR3:=hide ((RD.below HR.out hb3).more hb3.size)
  obtain⟨w4,hw4,F4,hs4,hb4⟩:=mail_box w3 (.int .u8 0) (.int .u32 0) (.int .u8 0) (.int .i64 0) (.slice none 0 0) (.slice none 0 0) (.slice none 0 0)
  obtain⟨f0,f1,f2,f3,f4,f5,f6,F5,hb5⟩:=refill (.int .u8 x.k) (.int .u32 x.t) (.int .u8 x.r) (.int .i64 x.ix) (.slice x.iA x.i.length x.ic) (.slice x.oA x.o.length x.oc) (.slice x.sA x.s.length x.sc) F4 (Below.refl w3.heap.size w4) (Nat.le_refl _)
  obtain⟨y0,y1,y2,y3,y4,y5,y6⟩:=F4.cells
  obtain⟨w5,hw5⟩:∃ q,((((((w4.setCell ⟨w3.heap.size,0,none⟩ (.int .u8 x.k)).setCell ⟨w3.heap.size,1,none⟩ (.int .u32 x.t)).setCell ⟨w3.heap.size,2,none⟩ (.int .u8 x.r)).setCell ⟨w3.heap.size,3,none⟩ (.int .i64 x.ix)).setCell ⟨w3.heap.size,4,none⟩ (.slice x.iA x.i.length x.ic)).setCell ⟨w3.heap.size,5,none⟩ (.slice x.oA x.o.length x.oc)).setCell ⟨w3.heap.size,6,none⟩ (.slice x.sA x.s.length x.sc)=q:=⟨_,rfl⟩
  rw [hw5] at F5 hb5
  have hb35:=hb4.trans hb5
  have HI5:=hide (HI3.out.below hb35)
  have HB5:=hide (HB3.out.below hb35)
  have HO5:=hide (HO3.out.below hb35)
  have HR5:=hide ((RD.below HR3.out hb35).more hb35.size)
  have HBB5:=hide ((hb3.mono hBw).trans (hb35.mono (Nat.le_trans hBw hb3.size)))
  have i0:=HI5.out.cell
  have c0:=HB5.out.cell
  clear i1 c1 HI HB HO HR HI3 HB3 HO3 HR3 F4 F5 hb3 hb4 hb5 hb35 hs4
  have HS5:=hide (show base≤w5.drew.heap.size from Nat.le_trans hbs (show w.heap.size≤w5.heap.size from HBB5.out.size))
  go_wp2_with fail
  refine wp_region_inv (fun done ρ W=>LI [some (23,.slice (some ⟨g,0,none⟩) n c),some (24,.int .i64 (m:Int)),some (25,.slice bA bn bc),none,some (27,.pointer (some ⟨g,m,none⟩)),none] (fun _=>True) done ρ W∧GJ w B base gi gb m g c n bn bA bc b Q done ρ W) (by kernel_rfl) 29 (by rfl) (by kernel_rfl) ?_ ?_ ?_
  ·exact⟨LI.start _ trivial,GJ.start _ HBB5.out.drew (HI5.out.below (Below.refl _ _).drew) (HB5.out.below (Below.refl _ _).drew) (HO5.out.below (Below.refl _ _).drew) ((RD.below HR5.out (Below.refl _ _).drew).more (Below.refl w5.heap.size w5).drew.size) (HS5.out)⟩
  ·refine⟨?_,?_,?_,?_,?_,?_,trivial⟩
   ·
    intro done ρ W hn' hf hd h
    have q0:ρ 0= .slice (some ⟨g,0,none⟩) n c:=hf 0 (by kernel_rfl)
    clear hf
    refine .inl ⟨rfl,opOK_step fun R hR=>?_⟩
    unfold opOK
    go_simp
    exact hR _ _ ⟨h.1.put [some 23,some 24,some 25,none,some 27,none] rfl (by decide) 0 23 _ rfl trivial,h.2.other (by decide) (by decide) (by decide)⟩
   ·
    intro done ρ W hn' hf hd h
    have q2:ρ 2= .pointer (some ⟨gi,0,none⟩):=hf 2 (by kernel_rfl)
    have i9:=h.2.i.cell
    clear hf
    refine .inl ⟨rfl,opOK_step fun R hR=>?_⟩
    unfold opOK
    go_simp
    exact hR _ _ ⟨h.1.put [some 23,some 24,some 25,none,some 27,none] rfl (by decide) 1 24 _ rfl trivial,h.2.other (by decide) (by decide) (by decide)⟩
   ·
    intro done ρ W hn' hf hd h
    have q1:ρ 1= .pointer (some ⟨gb,0,none⟩):=hf 1 (by kernel_rfl)
    have c9:=h.2.p.cell
    clear hf
    refine .inl ⟨rfl,opOK_step fun R hR=>?_⟩
    unfold opOK
    go_simp
    exact hR _ _ ⟨h.1.put [some 23,some 24,some 25,none,some 27,none] rfl (by decide) 2 25 _ rfl trivial,h.2.other (by decide) (by decide) (by decide)⟩
   ·
    intro done ρ W hn' hf hd h
    have q25:=h.1.get 2 25 _ rfl (hd 2 (by kernel_rfl))
    clear hf
    have n5:=h.2.no5 hn'
    refine .inl ⟨rfl,opOK_step fun R hR=>?_⟩
    unfold opOK
    go_simp
    exact (lown bA bn bc b W (h.2.r hn') Hbn.out (by omega)).mono fun e W' ⟨A',c',he,ho,hb⟩=>⟨_,he,hR _ _ ⟨h.1.skip [some 23,some 24,some 25,none,some 27,none] rfl 3 26 _ rfl rfl trivial,h.2.call hn' n5 hBw ho hb⟩⟩
   ·
    intro done ρ W hn' hf hd h
    have q23:=h.1.get 0 23 _ rfl (hd 0 (by kernel_rfl))
    have q24:=h.1.get 1 24 _ rfl (hd 1 (by kernel_rfl))
    clear hf
    refine .inl ⟨rfl,opOK_step fun R hR=>?_⟩
    unfold opOK
    go_simp
    exact hR _ _ ⟨h.1.put [some 23,some 24,some 25,none,some 27,none] rfl (by decide) 4 27 _ rfl trivial,h.2.other (by decide) (by decide) (by decide)⟩
   ·
    intro done ρ W hn' hf hd h
    have q27:=h.1.get 4 27 _ rfl (hd 4 (by kernel_rfl))
    clear hf
    obtain⟨A',c',q26,ho⟩:=h.2.x (hd 3 (by kernel_rfl))
    obtain⟨⟨u9,d9⟩,f9⟩:=of_cell (h.2.o hn') Hn.out Hm.out
    refine .inl ⟨rfl,opOK_step fun R hR=>?_⟩
    unfold opOK
    go_simp
    exact hR _ _ ⟨h.1.world 5 _ rfl trivial,h.2.store Hn.out Hm.out Hbn.out Hgi.out Hgb.out q26 ho hBb hn' (hd 3 (by kernel_rfl))⟩
  ·intro a' w6 hdf hsz hf h
   obtain⟨A',c',hO6⟩:=h.2.o1 (by kernel_rfl)
   have HO6:=hide hO6
   have HB6:=hide h.2.bel
   have h0:slotsOf a' 0= .slice (some ⟨g,0,none⟩) n c:=hf 0 (by kernel_rfl)
   clear hO6 HI5 HB5 HO5 HR5 HBB5
   obtain⟨T,D⟩:=a'
   have hD:D= []:=hdf
   subst hD
   obtain⟨f,hT,hff⟩:∃ f:Nat→Value,T=((List.range 29).map f).toArray∧slotsOf ⟨T, []⟩=f:=⟨_,arr_list T 29 hsz,rfl⟩
   rw [hff] at h0
   clear hff hsz hf h hdf
   simp only [List.range,List.range.loop,List.map] at hT
   subst hT
   rw [h0]
   clear h0
   go_wp2_with fail
   refine bodyPost_ret (v:= .tuple #[.slice (some ⟨g,0,none⟩) n c,.int .i64 0]) (by simp [results,Tryz.results40,go_sem]) rfl ?_
   refine⟨some ⟨g,0,none⟩,c,Q.set m ⟨A',c',b⟩,?_,?_,HO6.out,HB6.out⟩
   ·rw [List.length_set,Hn.out,HGE.out]
   ·rw [HGV.out,List.map_set]
theorem at_garble (A:Option Addr) (n c m gi gb bn bc:Nat) (bA:Option Addr) (b:List UInt8) (L:List FrL) (w:World) (hr:RF w w.heap.size A L) (hn:L.length=n) (hok:okF L) (hm:m < n) (hI:IBX w gi (m:Int)) (hBB:BBX w gb (.slice bA bn bc)) (hrb:RB w w.heap.size bA b) (hbn:b.length=bn) (hbc:bn≤bc):
 Calls Tryz.prog 35 #[.slice A n c,.int .i64 (m:Int),.func (.func 40) #[] #[.pointer (some ⟨gb,0,none⟩),.pointer (some ⟨gi,0,none⟩)]] w fun e w'=>∃ (A':Option Addr) (c':Nat) (Q:List FrL),e= .returned (.tuple #[.slice A' (List.length (α:=FrL) Q) c',.int .i64 (gar1E b)])∧Q.map FrL.b=gar1V (L.map FrL.b) m b∧OF w' w.heap.size A' c' Q∧Below w.heap.size w w':=by
 have hP:=hide (lcheck A n c L w hr hn)
 rw [show chkF L=0 from if_pos hok] at hP
 have hT:=hide (ltwin A n c L w hr hn hok)
 have hn9:n≤64:=by rw [←hn];exact hok.1
 have hgi:gi < w.heap.size:=(Array.getElem?_eq_some_iff.1 hI).1
 have hgb:gb < w.heap.size:=(Array.getElem?_eq_some_iff.1 hBB).1
 have HI:=hide hI
 have HB:=hide hBB
 have Hn:=hide hn
 have HR:=hide hrb
 have Hbn:=hide hbn
 have z0:¬ (m:Int) < 0:=by omega
 have z1:¬ (n:Int)≤m:=by omega
 clear hr hn hok hI hBB hrb hbn
 go_enter Tryz.func35,Tryz.ntmps35
 go_wp2_with fail
 refine hP.out.mono ?_
 rintro e w2 ⟨rfl,rfl⟩
 go_wp2_with fail
 refine hT.out.mono ?_
 rintro e w3 ⟨A3,c3,L3,rfl,hL3,hO3,hb3⟩
 have hl3:L3.length=n:=by rw [←Hn.out,←List.length_map FrL.b,hL3,List.length_map]
 obtain⟨A9,c9,e9,h9,-,hA⟩:=own_slice hO3.1
 simp only [Value.slice.injEq] at e9
 obtain⟨rfl,-,rfl⟩:=e9
 rcases hA with hA | ⟨g,rfl,hg1,hg2⟩
 ·omega
 have P1:=hide (garble1_ok g c3 n m gi gb w2.heap.size w2.heap.size bn bc bA b L3 w3 hO3 hl3 hm hn9 (HI.out.below hb3) (HB.out.below hb3) hgi hgb ((RD.below HR.out hb3).more hb3.size) Hbn.out hbc (Nat.le_refl _) hb3.size hb3.size)
 rw [hL3] at P1
 clear hL3 hl3 hO3 h9 hT hP
 go_wp2_with fail
 refine P1.out.mono ?_
 rintro e w4 ⟨A4,c4,L4,rfl,hL4,hO4,hb4⟩
 have H4:=hide (And.intro hL4 hO4)
 have hb04:Below w2.heap.size w2 w4:=hb3.trans hb4
 clear hL4 hO4 P1
 go_wp2_with fail
 refine bodyPost_ret (v:= .tuple #[.slice A4 L4.length c4,.int .i64 (gar1E b)]) (by simp [results,Tryz.results35,go_sem]) rfl ?_
 exact⟨A4,c4,L4,rfl,H4.out.1,H4.out.2,hb04⟩
/-- What Garble answers. -/
def garE (L:List FrL) (m:Int) (b:List UInt8):Int:=if atE L m=0 then gar1E b else atE L m
def garV (L:List FrL) (m:Int) (b:List UInt8):List (List UInt8):=if atE L m=0 then gar1V (L.map FrL.b) m.toNat b else []
theorem lgarble (A bA:Option Addr) (n c bn bc:Nat) (m:Int) (b:List UInt8) (L:List FrL) (w:World) (hr:RF w w.heap.size A L) (hn:L.length=n) (hrb:RB w w.heap.size bA b) (hbn:b.length=bn) (hbc:bn≤bc):
 Calls Tryz.prog 13 #[.slice A n c,.int .i64 m,.slice bA bn bc] w fun e w'=>∃ (A':Option Addr) (c':Nat) (Q:List FrL),e= .returned (.tuple #[.slice A' (List.length (α:=FrL) Q) c',.int .i64 (garE L m b)])∧Q.map FrL.b=garV L m b∧OF w' w.heap.size A' c' Q∧Below w.heap.size w w':=by
 obtain⟨w1,hw1⟩:∃ w1,w.alloc (.cells #[.int .i64 m] 3)=w1:=⟨_,rfl⟩
 have I1:IBX w1 w.heap.size m:=by rw [←hw1];exact heap_alloc_new _ _
 have hb1:Below w.heap.size w w1:=by rw [←hw1];exact fboxF _ _
 have hs1:w1.heap.size=w.heap.size+1:=by rw [←hw1];simp
 obtain⟨w2,hw2⟩:∃ w2,w1.alloc (.cells #[.slice bA bn bc] 23)=w2:=⟨_,rfl⟩
 have B2:BBX w2 w1.heap.size (.slice bA bn bc):=by rw [←hw2];exact heap_alloc_new _ _
 have hb2':Below w1.heap.size w1 w2:=by rw [←hw2];exact fboxF _ _
 have hb2:=fresh hb1 hb2'
 have I2:IBX w2 w.heap.size m:=I1.below hb2'
 rw [hs1] at B2
 have hr2:RF w2 w2.heap.size A L:=(hr.below hb2).more hb2.size
 have hrb2:RB w2 w2.heap.size bA b:=(RD.below hrb hb2).more hb2.size
 have i0:=I2.cell
 have hmf:∀ (fn:Fn) (first cap:Array Value) (W:World),(Instr.makeFunc fn first cap).run Tryz.prog W= .ok (.func fn first cap) W:=fun _ _ _ _=>rfl
 by_cases hE:atE L m=0
 ·obtain⟨hok,h0,h1⟩:=atE_ok hE
  obtain⟨mm,rfl⟩:∃ mm:Nat,m=mm:=⟨m.toNat,by omega⟩
  have hP:=hide (at_garble A n c mm w.heap.size (w.heap.size+1) bn bc bA b L w2 hr2 hn hok (by omega) I2 B2 hrb2 hbn hbc)
  have HE:=hide (show garE L mm b=gar1E b from if_pos hE)
  have HV:=hide (show garV L mm b=gar1V (L.map FrL.b) mm b by unfold garV;rw [if_pos hE,Int.toNat_natCast])
  have Hw:=hide (And.intro hw1 (And.intro hw2 hs1))
  clear hr hn hE hok h0 h1 hr2 I1 I2 B2 hw1 hw2 hrb hbn hbc hrb2
  go_enter Tryz.func13,Tryz.ntmps13
  go_wp2_with fail
  rw [Hw.out.1,Hw.out.2.1]
  refine hP.out.mono ?_
  rintro e w3 ⟨A3,c3,Q3,rfl,hQ3,hO3,hb3⟩
  have HH:=hide (And.intro hQ3 hO3)
  have hb03:=fresh hb2 hb3
  clear hQ3 hO3 hP i0
  go_wp2_with fail
  refine bodyPost_ret (v:= .tuple #[.slice A3 Q3.length c3,.int .i64 (gar1E b)]) (by simp [results,Tryz.results13,go_sem]) rfl ?_
  exact⟨A3,c3,Q3,by rw [HE.out],by rw [HV.out];exact HH.out.1,HH.out.2.less hb2.size,hb03⟩
 ·have hP:=hide (fun F=>at_not A n c m F L w2 hr2 hn hE)
  have HE:=hide (show garE L m b=atE L m from if_neg hE)
  have HV:=hide (show garV L m b= [] from if_neg hE)
  have Hw:=hide (And.intro hw1 (And.intro hw2 hs1))
  clear hr hn hE hr2 I1 I2 B2 hw1 hw2 hrb hbn hbc hrb2
  go_enter Tryz.func13,Tryz.ntmps13
  go_wp2_with fail
  rw [Hw.out.1,Hw.out.2.1]
  refine (unhide hP _).mono ?_
  rintro e w3 ⟨rfl,rfl⟩
  go_wp2_with fail
  refine bodyPost_ret (v:= .tuple #[.slice none 0 0,.int .i64 (atE L m)]) (by simp [results,Tryz.results13,go_sem]) rfl ?_
  exact⟨none,0, [],by rw [HE.out];rfl,by rw [HV.out];rfl,OF.nil _ _,hb2⟩
/-- What great's answer says. -/
def greatF (n:Nat) (v:Value):Prop:=∃ g,v= .bool g∧(g=false→n≤100)
theorem lgreat (A:Option Addr) (n c:Nat) (L:List FrL) (w:World) (hr:RF w w.heap.size A L) (hn:L.length=n):
 Calls Tryz.prog 5 #[.slice A n c] w fun e w'=>∃ v,e= .returned v∧greatF n v∧w'=w:=by
 have HR:=hide hr
 have Hn:=hide hn
 clear hr hn
 go_enter Tryz.func5,Tryz.ntmps5
 go_wp2_with fail
 go_loopw [3,4] (fun s i wr=>∃ (j:Nat) (sv:Int),j≤n∧j≤100∧i= .int .i64 (j:Int)∧s= .int .i64 sv∧0≤sv∧sv≤30000 * j∧wr=w) (fun _ i _=>n - (intOf i).toNat)
 case atStart=>exact⟨0,0,by omega,by omega,rfl,rfl,by omega,by omega,rfl⟩
 case round=>
  obtain⟨j,sv,hj,h100,rfl,rfl,hs0,hs1,rfl⟩:=hrel
  by_cases hlt:j < n∧j < 100
  ·obtain⟨hlt,h1⟩:=hlt
   have hltL:j < L.length:=by rw [Hn.out];exact hlt
   have z0:(j:Int) < n:=by omega
   have z1:(j:Int) < 100:=by omega
   have zj:(0:Int)≤j:=by omega
   obtain⟨bb,bo,rfl,hB,hC⟩:=RF.cell HR.out (by omega)
   have d0:=hC j hltL
   obtain⟨x,hx⟩:∃ x,L[j]=x:=⟨_,rfl⟩
   rw [hx] at d0
   clear hC hx
   go_wp2_with fail
   refine⟨⟨j+1,_,by omega,by omega,by go_num,rfl,?_,?_,by first | rfl | trivial⟩,by simp [intOf];omega⟩
   ·first | omega | (split <;> omega)
   ·first | omega | (split <;> omega)
  ·by_cases hl:(j:Int) < n
   ·have z1:¬ (j:Int) < 100:=by omega
    go_wp2_with fail
    all_goals
     go_ret
     refine⟨_,rfl,⟨_,rfl,fun h=>?_⟩,(by first | rfl | trivial)⟩
     simp at h
    try omega
   ·go_wp2_with fail
    all_goals
     go_ret
     refine⟨_,rfl,⟨_,rfl,fun h=>?_⟩,(by first | rfl | trivial)⟩
     simp at h
    try omega
end Go.Proofs.YtmkpfdcnikgokaaGreat
