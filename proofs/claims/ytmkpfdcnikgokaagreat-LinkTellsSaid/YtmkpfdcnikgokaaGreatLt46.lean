/-
  Texts of this claim, put together: RefParse, CrcTells. What each theorem asks stands in its statement.
-/
import Derived.Lib.SlBytesConst
import Derived.ChangeKeysEq
import Derived.Laws.StructEq
import Derived.Test.YtmkpfdcnikgokaaGreatLt1
import Derived.Test.YtmkpfdcnikgokaaGreatLt21
import Derived.Test.YtmkpfdcnikgokaaGreatLt24
import Derived.Test.YtmkpfdcnikgokaaGreatLt32
import Derived.Test.YtmkpfdcnikgokaaGreatLt33
import Derived.Test.YtmkpfdcnikgokaaGreatLt41
import Derived.Test.YtmkpfdcnikgokaaGreatLt45
set_option linter.unusedVariables false
set_option linter.unusedSimpArgs false
set_option maxRecDepth 100000
set_option maxHeartbeats 25600000
namespace Go.Proofs.YtmkpfdcnikgokaaGreat
open Go.RowKit
theorem RBT.up {w:World} {g g':Nat} {A:Option Addr} {l:List UInt8} (h:RBT w g A l) (hg:g≤g'):RBT w g' A l:=⟨RD.more h.1 hg,fun q hq=>⟨Nat.lt_of_lt_of_le (h.2 q hq).1 hg,(h.2 q hq).2⟩⟩
theorem OMl.fill {W:World} {gx base:Nat} {x:MlL} {a b c d e f h:Value} (v0 v1 v2 v3 v4 v5 v6:Value) (hF:MB W gx a b c d e f h) (hx:OMl W base x):OMl (((((((W.setCell ⟨gx,0,none⟩ v0).setCell ⟨gx,1,none⟩ v1).setCell ⟨gx,2,none⟩ v2).setCell ⟨gx,3,none⟩ v3).setCell ⟨gx,4,none⟩ v4).setCell ⟨gx,5,none⟩ v5).setCell ⟨gx,6,none⟩ v6) base x:=by
 have F1:=hF.set0 v0
 have F2:=F1.set1 v1
 have F3:=F2.set2 v2
 have F4:=F3.set3 v3
 have F5:=F4.set4 v4
 have F6:=F5.set5 v5
 exact ((((((hx.setM hF 0 v0).setM F1 1 v1).setM F2 2 v2).setM F3 3 v3).setM F4 4 v4).setM F5 5 v5).setM F6 6 v6
/-- What Parse answers. -/
def parsed (w w':World) (e:Ending) (b:List UInt8):Prop:=∃ x:MlL,e= .returned (.tuple #[x.val,.bool (getB b).isSome])∧x.mp=(getB b).getD mp0∧OMl w' w.heap.size x∧okM x∧Below w.heap.size w w'
theorem parsed_none {w w':World} {b:List UInt8} (h:parseM b=none) (hb:Below w.heap.size w w'):parsed w w' (.returned (.tuple #[mlv 0 0 0 0 (.slice none 0 0) (.slice none 0 0) (.slice none 0 0),.bool false])) b:=by
 rw [parse_get] at h
 exact⟨m0L,by rw [h];rfl,by rw [h];rfl,⟨OTm.nil _ _,OO.nil _ _,OWs.nil _ _⟩,m0_ok,hb⟩
theorem parsed_some {w w':World} {b:List UInt8} {x:MlL} {v:Value} (h:parseM b=some x.mp) (hv:v=x.val) (hr:OMl w' w.heap.size x) (ho:okM x) (hb:Below w.heap.size w w'):parsed w w' (.returned (.tuple #[v,.bool true])) b:=by
 rw [parse_get] at h
 exact⟨x,by rw [h,hv];rfl,by rw [h];rfl,hr,ho,hb⟩
/-- The region's fixed values, where all of it is done. -/
def paV (g gy:Nat) (A A':Option Addr) (n c c':Nat) (mv:Value) (body b:List UInt8) (same:Bool):List (Option (Nat×Value)):=
 [some (11,.pointer (some ⟨g,0,none⟩)),some (12,.pointer (some ⟨g,0,none⟩)),some (13,.pointer (some ⟨g,1,none⟩)),some (14,.bool false),some (15,.bool false),some (16,.pointer (some ⟨g,0,none⟩)),some (17,.pointer (some ⟨g,0,none⟩)),some (18,.pointer (some ⟨g,0,none⟩)),some (19,.slice A' 0 c'),some (20,.int .i64 0),some (21,.bool false),some (22,.bool false),some (23,.bool false),some (24,mv),some (25,.bool true),some (26,.bool false),some (27,.bool false),some (28,.bool false),some (29,mv),none,some (31,.string ⟨body.toArray⟩),some (32,.slice A n c),some (33,.string ⟨b.toArray⟩),some (34,.bool same),some (35,.bool same)]
def paS:List (Option Nat):= [some 11,some 12,some 13,some 14,some 15,some 16,some 17,some 18,some 19,some 20,some 21,some 22,some 23,some 24,some 25,some 26,some 27,some 28,some 29,none,some 31,some 32,some 33,some 34,some 35]
/-- What holds in the middle of it. -/
def PI (w0:World) (L:List (Option (Nat×Value))) (body:List UInt8) (done:Nat→Bool) (ρ:Nat→Value) (W:World):Prop:=
 LI L (fun W=>Below w0.heap.size w0 W) done ρ W∧(done 19=true→ByR W w0.heap.size (ρ 30) body)
theorem PI.plain {w0:World} {L:List (Option (Nat×Value))} {body:List UInt8} {done:Nat→Bool} {ρ:Nat→Value} {W:World} (h:PI w0 L body done ρ W) (hS:L.map (Option.map Prod.fst)=paS) (i d:Nat) (v:Value) (hi:(L[i]?).join=some (d,v)) (h1:i≠19) (h2:d≠30) {W':World} (hb:Below W.heap.size W W'):
 PI w0 L body (upd done i) (putS ρ (some d) v) W':=by
 refine⟨h.1.put paS hS (by decide) i d v hi (fresh h.1.1 hb),fun k=>?_⟩
 rw [updO h1.symm] at k
 have:putS ρ (some d) v 30=ρ 30:=by simp [putS,h2.symm]
 rw [this]
 exact (h.2 k).below hb
theorem PI.row {w0:World} {L:List (Option (Nat×Value))} {body:List UInt8} {done:Nat→Bool} {ρ:Nat→Value} {W:World} (h:PI w0 L body done ρ W) (hS:L.map (Option.map Prod.fst)=paS) (hi:(L[19]?).join=none) {v:Value} {W':World} (hb:Below W.heap.size W W') (hr:ByR W' W.heap.size v body):
 PI w0 L body (upd done 19) (putS ρ (some 30) v) W':=by
 refine⟨⟨fresh h.1.1 hb,fun j s u hj hd=>?_⟩,fun _=>by
  have:putS ρ (some 30) v 30=v:=by simp [putS]
  rw [this]
  exact hr.less h.1.1.size⟩
 obtain⟨e1,-,e3⟩:=ch_slot paS hS hj
 have hij:j≠19:=fun e=>by rw [e,hi] at hj;cases hj
 have hsd:s≠30:=fun e=>by rw [e] at e3;revert e3;decide
 simp only [putS,hsd,if_false]
 refine h.1.2 j s u hj ?_
 simpa [upd,hij] using hd
theorem rparse (A:Option Addr) (n c:Nat) (b:List UInt8) (w:World) (hr:RBT w w.heap.size A b) (hn:b.length=n) (hc:n≤c) (hA:A=none→c=0) (hl:n < 100000):
 Calls Tryz.prog 63 #[.slice A n c] w fun e w'=>parsed w w' e b:=by
 subst hn
 obtain⟨w1,hw1,F1,hs1,hb1⟩:=mail_box w (.int .u8 0) (.int .u32 0) (.int .u8 0) (.int .i64 0) (.slice none 0 0) (.slice none 0 0) (.slice none 0 0)
 obtain⟨gx,hgx⟩:∃ q,q=w.heap.size:=⟨_,rfl⟩
 have Hgx:=hide hgx
 rw [←hgx] at F1
 have HF1:=hide F1
 obtain⟨g,hg⟩:∃ q,q=w1.heap.size:=⟨_,rfl⟩
 have Hg:=hide (show g=w.heap.size+1 by rw [hg,←hw1,World.size_alloc])
 have hxg:gx < g:=by rw [hgx,hg];exact hs1
 obtain⟨w2,hw2,F2,hb2⟩:∃ w2,w1.alloc (.cells #[.slice A b.length c,.bool false] 150)=w2∧RDE w2 w1.heap.size A b.length c false∧Below w1.heap.size w1 w2:=⟨_,rfl,heap_alloc_new _ _,(Below.refl _ _).alloc (Nat.le_refl _) _⟩
 rw [←hg] at F2
 have hsz2:g < w2.heap.size:=F2.lt
 have HRd:=hide (rdread g (b,false) w2 ⟨A,c,F2,((hr.below hb1).below (hb2.mono (Nat.le_of_lt hs1))).up (by omega),hc,by simp only;omega,hA⟩)
 have HB2:=hide (fresh hb1 hb2)
 have HR0:=hide hr.1
 have HF2:=hide (HF1.out.below hb2)
 have hgw:w.heap.size≤g:=by rw [←hgx];omega
 have Hw1:=hide hw1
 have Hw2:=hide hw2
 obtain⟨p0,p1⟩:=F2.cells
 have Hhc:=hide hc
 clear hr F1 hw1 hs1 hb1 hw2 F2 hb2 hgx hg hA hc HF1
 go_enter Tryz.func63,Tryz.ntmps63
 go_wp2_with fail
 rw [Hw1.out,←Hg.out,Hw2.out,←Hgx.out]
 refine HRd.out.mono ?_
 rintro e w3 ⟨x,rfl,hxm,hrx,okx,hy3,ho3⟩
 obtain⟨k,t,r,ix,iA,ic,i,oA,oc,o,sA,sc,s⟩:=x
 obtain⟨w5,hw5,F5,hs5,hb5⟩:=mail_box w3 (.int .u8 k) (.int .u32 t) (.int .u8 r) (.int .i64 ix) (.slice iA i.length ic) (.slice oA o.length oc) (.slice sA s.length sc)
 obtain⟨gy,hgy⟩:∃ q,q=w3.heap.size:=⟨_,rfl⟩
 have Hgy:=hide hgy
 rw [←hgy] at F5
 have hgy3:g < gy:=by rw [hgy];exact hy3.lt
 have HF3:=hide ((HF2.out.only ho3 (by omega)).below hb5)
 have HB5:=hide (fresh (HB2.out.trans (ho3.1.mono hgw)) hb5)
 have HF5:=hide F5
 have Hw5:=hide hw5
 have HY5:=hide (hy3.below hb5)
 have Hox5:=hide ((hrx.below hb5).less (show w.heap.size≤w2.heap.size by omega))
 have Hrx:=hide (hrx.below hb5).rm
 have Hox:=hide okx
 have Hxm:=hide hxm
 have hgy5:gy < w5.heap.size:=by rw [hgy];exact hs5
 clear hw5 F5 hs5 hb5 hy3 hrx okx hxm ho3 HF2 HB2 p0 p1 hgy
 simp only [MlL.val]
 go_wp2_with fail
 rw [Hw5.out,←Hgy.out]
 clear Hw5 HRd
 have HX:=hide (show parseM b=if (readM (b,false)).2.2=false∧(readM (b,false)).2.1.length=0∧mayM (MlL.mp ⟨k,t,r,ix,iA,ic,i,oA,oc,o,sA,sc,s⟩)∧bodyB (MlL.mp ⟨k,t,r,ix,iA,ic,i,oA,oc,o,sA,sc,s⟩)=b then some (MlL.mp ⟨k,t,r,ix,iA,ic,i,oA,oc,o,sA,sc,s⟩) else none by rw [Hxm.out];rfl)
 obtain⟨⟨l,bad⟩,hst⟩:∃ q:ES,(readM (b,false)).2=q:=⟨_,rfl⟩
 rw [hst] at HX HY5
 clear hst Hxm
 have hpa:∀ u,RM (past w5 u) (past w5 u).heap.size ⟨k,t,r,ix,iA,ic,i,oA,oc,o,sA,sc,s⟩:=fun u=>(Hrx.out.below (below_past w5 u)).more (below_past w5 u).size
 obtain⟨A',c',hE,-,-,-,-⟩:=HY5.out
 obtain⟨d0,d1⟩:=hE.cells
 simp only at d0 d1 HX
 obtain⟨y0,y1,y2,y3,y4,y5,y6⟩:=HF5.out.cells
 have hg5:g < w5.heap.size:=by omega
 clear hE
 by_cases hfast:bad=true∨0 < l.length∨¬ mayM (MlL.mp ⟨k,t,r,ix,iA,ic,i,oA,oc,o,sA,sc,s⟩)
 ·have hno:=hide (show parseM b=none by
   rw [HX.out]
   exact if_neg (fun h=>by
    rcases hfast with h1 | h1 | h1
    ·rw [h.1] at h1;cases h1
    ·have:=h.2.1;omega
    ·exact h1 h.2.2.1))
  have P:=hide (fun u=>show Calls Tryz.prog 53 #[mlv k t r ix (.slice iA i.length ic) (.slice oA o.length oc) (.slice sA s.length sc)] (past w5 u) _ from rmay_any ⟨k,t,r,ix,iA,ic,i,oA,oc,o,sA,sc,s⟩ (past w5 u) (hpa u) Hox.out)
  have hcase:bad=true∨(bad=false∧0 < (l.length:Int))∨(bad=false∧l.length=0∧decide (mayM (MlL.mp ⟨k,t,r,ix,iA,ic,i,oA,oc,o,sA,sc,s⟩))=false):=by
   cases bad with
   | true=>exact .inl rfl
   | false=>
     by_cases h0:0 < l.length
     ·exact .inr (.inl ⟨rfl,by omega⟩)
     ·rcases hfast with h1 | h1 | h1
      ·cases h1
      ·exact (h0 h1).elim
      ·exact .inr (.inr ⟨rfl,by omega,decide_eq_false h1⟩)
  clear hpa hfast HX
  have key:∀ (Q:Exit→Act→World→Prop),True:=fun _=>trivial
  rcases hcase with rfl | ⟨rfl,h0⟩ | ⟨rfl,h0,hmf⟩
  ·refine wp_region_wq (by kernel_rfl) (by kernel_rfl) ?_
   repeat (
    refine WQ.step (fun K hK=>?_)
    go_simp
    first
     | (refine hK _ ?_;clear hK K)
     | (apply Exists.intro
        refine⟨fun _=>?_,hK _ ?_⟩
        (first
          | (go_at_call 53;with_reducible exact past_call (unhide P _)))
        clear hK K))
   refine WQ.nil ?_
   intro u
   have hbu:=fresh HB5.out (below_past w5 u)
   have HF6:=hide (HF3.out.below (below_past w5 u))
   obtain⟨f0,f1,f2,f3,f4,f5,f6,FZ,hbz⟩:=wipe HF6.out hbu (w:=w) (Nat.le_of_eq Hgx.out.symm)
   obtain⟨z0,z1,z2,z3,z4,z5,z6⟩:=HF6.out.cells
   have HFZ:=hide FZ
   have HBZ:=hide hbz
   clear FZ hbz
   go_wp2_with fail
   obtain⟨v0,v1,v2,v3,v4,v5,v6⟩:=HFZ.out.cells
   refine bodyPost_ret (v:= .tuple #[mlv 0 0 0 0 (.slice none 0 0) (.slice none 0 0) (.slice none 0 0),.bool false]) (by simp [results,Tryz.results63,go_sem,v0,v1,v2,v3,v4,v5,v6]) rfl ?_
   exact parsed_none hno.out HBZ.out
  ·have h0n:0 < l.length:=by omega
   refine wp_region_wq (by kernel_rfl) (by kernel_rfl) ?_
   repeat (
    refine WQ.step (fun K hK=>?_)
    go_simp
    first
     | (refine hK _ ?_;clear hK K)
     | (apply Exists.intro
        refine⟨fun _=>?_,hK _ ?_⟩
        (first
          | (go_at_call 53;with_reducible exact past_call (unhide P _)))
        clear hK K))
   refine WQ.nil ?_
   intro u
   have hbu:=fresh HB5.out (below_past w5 u)
   have HF6:=hide (HF3.out.below (below_past w5 u))
   obtain⟨f0,f1,f2,f3,f4,f5,f6,FZ,hbz⟩:=wipe HF6.out hbu (w:=w) (Nat.le_of_eq Hgx.out.symm)
   obtain⟨z0,z1,z2,z3,z4,z5,z6⟩:=HF6.out.cells
   have HFZ:=hide FZ
   have HBZ:=hide hbz
   clear FZ hbz
   go_wp2_with fail
   obtain⟨v0,v1,v2,v3,v4,v5,v6⟩:=HFZ.out.cells
   refine bodyPost_ret (v:= .tuple #[mlv 0 0 0 0 (.slice none 0 0) (.slice none 0 0) (.slice none 0 0),.bool false]) (by simp [results,Tryz.results63,go_sem,v0,v1,v2,v3,v4,v5,v6]) rfl ?_
   exact parsed_none hno.out HBZ.out
  ·rw [hmf] at P
   rw [h0] at d0
   refine wp_region_wq (by kernel_rfl) (by kernel_rfl) ?_
   repeat (
    refine WQ.step (fun K hK=>?_)
    go_simp
    first
     | (refine hK _ ?_;clear hK K)
     | (apply Exists.intro
        refine⟨fun _=>?_,hK _ ?_⟩
        (first
          | (go_at_call 53;with_reducible exact past_call (unhide P _)))
        clear hK K))
   refine WQ.nil ?_
   intro u
   have hbu:=fresh HB5.out (below_past w5 u)
   have HF6:=hide (HF3.out.below (below_past w5 u))
   obtain⟨f0,f1,f2,f3,f4,f5,f6,FZ,hbz⟩:=wipe HF6.out hbu (w:=w) (Nat.le_of_eq Hgx.out.symm)
   obtain⟨z0,z1,z2,z3,z4,z5,z6⟩:=HF6.out.cells
   have HFZ:=hide FZ
   have HBZ:=hide hbz
   clear FZ hbz
   go_wp2_with fail
   obtain⟨v0,v1,v2,v3,v4,v5,v6⟩:=HFZ.out.cells
   refine bodyPost_ret (v:= .tuple #[mlv 0 0 0 0 (.slice none 0 0) (.slice none 0 0) (.slice none 0 0),.bool false]) (by simp [results,Tryz.results63,go_sem,v0,v1,v2,v3,v4,v5,v6]) rfl ?_
   exact parsed_none hno.out HBZ.out
 ·obtain⟨h1,h2,h3⟩:bad=false∧l.length=0∧mayM (MlL.mp ⟨k,t,r,ix,iA,ic,i,oA,oc,o,sA,sc,s⟩):=by
   refine⟨?_,?_,?_⟩
   ·cases bad with
    | true=>exact (hfast (.inl rfl)).elim
    | false=>rfl
   ·rcases Nat.eq_zero_or_pos l.length with h | h
    ·exact h
    ·exact (hfast (.inr (.inl h))).elim
   ·exact Classical.byContradiction fun h=>hfast (.inr (.inr h))
  subst h1
  rw [h2] at d0
  obtain⟨body,hbody⟩:∃ q,bodyB (MlL.mp ⟨k,t,r,ix,iA,ic,i,oA,oc,o,sA,sc,s⟩)=q:=⟨_,rfl⟩
  have P:=hide (fun W (hW:Below w5.heap.size w5 W)=>show Calls Tryz.prog 53 #[mlv k t r ix (.slice iA i.length ic) (.slice oA o.length oc) (.slice sA s.length sc)] W fun e w'=>e= .returned (.bool true)∧Below W.heap.size W w' from by
   have:=rmay_any ⟨k,t,r,ix,iA,ic,i,oA,oc,o,sA,sc,s⟩ W ((Hrx.out.below hW).more hW.size) Hox.out
   rw [decide_eq_true h3] at this
   exact this)
  have P2:=hide (fun W (hW:Below w5.heap.size w5 W)=>show Calls Tryz.prog 55 #[mlv k t r ix (.slice iA i.length ic) (.slice oA o.length oc) (.slice sA s.length sc)] W (Lays W.heap.size W body) from by
   rw [←hbody]
   exact rbytes_any ⟨k,t,r,ix,iA,ic,i,oA,oc,o,sA,sc,s⟩ W ((Hrx.out.below hW).more hW.size) Hox.out h3)
  have HX2:=hide (show parseM b=if body=b then some (MlL.mp ⟨k,t,r,ix,iA,ic,i,oA,oc,o,sA,sc,s⟩) else none by
   rw [HX.out,←hbody]
   by_cases hb:bodyB (MlL.mp ⟨k,t,r,ix,iA,ic,i,oA,oc,o,sA,sc,s⟩)=b
   ·rw [if_pos hb,if_pos ⟨rfl,h2,h3,hb⟩]
   ·rw [if_neg hb,if_neg (fun h=>hb h.2.2.2)])
  have Hb5:=hide (show RB w5 w5.heap.size A b from (RD.below HR0.out HB5.out).more HB5.out.size)
  obtain⟨same,hsame⟩:∃ q,(body == b)= !q:=⟨!(body == b),by simp⟩
  have Hst:=hide hsame
  clear hbody h2 h3 hfast HX hsame hpa
  refine wp_region_inv (fun done ρ W=>PI w5 (paV g gy A A' b.length c c' (mlv k t r ix (.slice iA i.length ic) (.slice oA o.length oc) (.slice sA s.length sc)) body b same) body done ρ W) (by kernel_rfl) 38 rfl (by kernel_rfl) ?_ ?_ ?_
  ·exact⟨LI.start _ (Below.refl _ _).drew,fun k=>by cases k⟩
  ·refine⟨?_,?_,?_,?_,?_,?_,?_,?_,?_,?_,?_,?_,?_,?_,?_,?_,?_,?_,?_,?_,?_,?_,?_,?_,?_,trivial⟩
   ·
    intro done ρ W hn hf hd h
    have qs4:ρ 4= .pointer (some ⟨g,0,none⟩):=hf 4 (by kernel_rfl)
    clear hf
    refine .inl ⟨rfl,opOK_step fun R9 hR9=>?_⟩
    unfold opOK
    go_simp
    exact hR9 _ _ (h.plain rfl 0 11 _ rfl (by decide) (by decide) (Below.refl _ _))
   ·
    intro done ρ W hn hf hd h
    have qd0:=h.1.get 0 11 _ rfl (hd 0 (by kernel_rfl))
    clear hf
    refine .inl ⟨rfl,opOK_step fun R9 hR9=>?_⟩
    unfold opOK
    go_simp
    exact hR9 _ _ (h.plain rfl 1 12 _ rfl (by decide) (by decide) (Below.refl _ _))
   ·
    intro done ρ W hn hf hd h
    have qd1:=h.1.get 1 12 _ rfl (hd 1 (by kernel_rfl))
    clear hf
    refine .inl ⟨rfl,opOK_step fun R9 hR9=>?_⟩
    unfold opOK
    go_simp
    exact hR9 _ _ (h.plain rfl 2 13 _ rfl (by decide) (by decide) (Below.refl _ _))
   ·
    intro done ρ W hn hf hd h
    have qd2:=h.1.get 2 13 _ rfl (hd 2 (by kernel_rfl))
    have d0:=keepB h.1.1 hg5 d0
    have d1:=keepB h.1.1 hg5 d1
    clear hf
    refine .inl ⟨rfl,opOK_step fun R9 hR9=>?_⟩
    unfold opOK
    go_simp
    exact hR9 _ _ (h.plain rfl 3 14 _ rfl (by decide) (by decide) (Below.refl _ _))
   ·
    intro done ρ W hn hf hd h
    have qd3:=h.1.get 3 14 _ rfl (hd 3 (by kernel_rfl))
    clear hf
    refine .inl ⟨rfl,opOK_step fun R9 hR9=>?_⟩
    unfold opOK
    go_simp
    exact hR9 _ _ (h.plain rfl 4 15 _ rfl (by decide) (by decide) (Below.refl _ _))
   ·
    intro done ρ W hn hf hd h
    have qs4:ρ 4= .pointer (some ⟨g,0,none⟩):=hf 4 (by kernel_rfl)
    have qg:=h.1.get 4 15 _ rfl (hd 4 (by kernel_rfl))
    clear hf
    refine .inl ⟨ask_of rfl rfl qg,opOK_step fun R9 hR9=>?_⟩
    unfold opOK
    go_simp
    exact hR9 _ _ (h.plain rfl 5 16 _ rfl (by decide) (by decide) (Below.refl _ _))
   ·
    intro done ρ W hn hf hd h
    have qd5:=h.1.get 5 16 _ rfl (hd 5 (by kernel_rfl))
    have qg:=h.1.get 4 15 _ rfl (hd 4 (by kernel_rfl))
    clear hf
    refine .inl ⟨ask_of rfl rfl qg,opOK_step fun R9 hR9=>?_⟩
    unfold opOK
    go_simp
    exact hR9 _ _ (h.plain rfl 6 17 _ rfl (by decide) (by decide) (Below.refl _ _))
   ·
    intro done ρ W hn hf hd h
    have qd6:=h.1.get 6 17 _ rfl (hd 6 (by kernel_rfl))
    have qg:=h.1.get 4 15 _ rfl (hd 4 (by kernel_rfl))
    clear hf
    refine .inl ⟨ask_of rfl rfl qg,opOK_step fun R9 hR9=>?_⟩
    unfold opOK
    go_simp
    exact hR9 _ _ (h.plain rfl 7 18 _ rfl (by decide) (by decide) (Below.refl _ _))
   ·
    intro done ρ W hn hf hd h
    have qd7:=h.1.get 7 18 _ rfl (hd 7 (by kernel_rfl))
    have d0:=keepB h.1.1 hg5 d0
    have d1:=keepB h.1.1 hg5 d1
    have qg:=h.1.get 4 15 _ rfl (hd 4 (by kernel_rfl))
    clear hf
    refine .inl ⟨ask_of rfl rfl qg,opOK_step fun R9 hR9=>?_⟩
    unfold opOK
    go_simp
    exact hR9 _ _ (h.plain rfl 8 19 _ rfl (by decide) (by decide) (Below.refl _ _))
   ·
    intro done ρ W hn hf hd h
    have qd8:=h.1.get 8 19 _ rfl (hd 8 (by kernel_rfl))
    have qg:=h.1.get 4 15 _ rfl (hd 4 (by kernel_rfl))
    clear hf
    refine .inl ⟨ask_of rfl rfl qg,opOK_step fun R9 hR9=>?_⟩
    unfold opOK
    go_simp
    exact hR9 _ _ (h.plain rfl 9 20 _ rfl (by decide) (by decide) (Below.refl _ _))
   ·
    intro done ρ W hn hf hd h
    have qd9:=h.1.get 9 20 _ rfl (hd 9 (by kernel_rfl))
    have qg:=h.1.get 4 15 _ rfl (hd 4 (by kernel_rfl))
    clear hf
    refine .inl ⟨ask_of rfl rfl qg,opOK_step fun R9 hR9=>?_⟩
    unfold opOK
    go_simp
    exact hR9 _ _ (h.plain rfl 10 21 _ rfl (by decide) (by decide) (Below.refl _ _))
   ·
    intro done ρ W hn hf hd h
    have qd4:=h.1.get 4 15 _ rfl (hd 4 (by kernel_rfl))
    have qd10:=h.1.get 10 21 _ rfl (hd 10 (by kernel_rfl))
    clear hf
    refine .inl ⟨rfl,opOK_step fun R9 hR9=>?_⟩
    unfold opOK
    go_simp
    exact hR9 _ _ (h.plain rfl 11 22 _ rfl (by decide) (by decide) (Below.refl _ _))
   ·
    intro done ρ W hn hf hd h
    have qd11:=h.1.get 11 22 _ rfl (hd 11 (by kernel_rfl))
    clear hf
    refine .inl ⟨rfl,opOK_step fun R9 hR9=>?_⟩
    unfold opOK
    go_simp
    exact hR9 _ _ (h.plain rfl 12 23 _ rfl (by decide) (by decide) (Below.refl _ _))
   ·
    intro done ρ W hn hf hd h
    have qs5:ρ 5= .pointer (some ⟨gy,0,none⟩):=hf 5 (by kernel_rfl)
    have y0:=keepB h.1.1 hgy5 y0
    have y1:=keepB h.1.1 hgy5 y1
    have y2:=keepB h.1.1 hgy5 y2
    have y3:=keepB h.1.1 hgy5 y3
    have y4:=keepB h.1.1 hgy5 y4
    have y5:=keepB h.1.1 hgy5 y5
    have y6:=keepB h.1.1 hgy5 y6
    have qg:=h.1.get 12 23 _ rfl (hd 12 (by kernel_rfl))
    clear hf
    refine .inl ⟨ask_of rfl rfl qg,opOK_step fun R9 hR9=>?_⟩
    unfold opOK
    go_simp
    exact hR9 _ _ (h.plain rfl 13 24 _ rfl (by decide) (by decide) (Below.refl _ _))
   ·
    intro done ρ W hn hf hd h
    have qd13:=h.1.get 13 24 _ rfl (hd 13 (by kernel_rfl))
    have qg:=h.1.get 12 23 _ rfl (hd 12 (by kernel_rfl))
    clear hf
    refine .inl ⟨ask_of rfl rfl qg,opOK_step fun R9 hR9=>?_⟩
    unfold opOK
    go_simp
    refine (unhide P W h.1.1).mono ?_
    rintro e w' ⟨rfl,hb'⟩
    exact⟨_,rfl,hR9 _ _ (h.plain rfl 14 25 _ rfl (by decide) (by decide) hb')⟩
   ·
    intro done ρ W hn hf hd h
    have qd14:=h.1.get 14 25 _ rfl (hd 14 (by kernel_rfl))
    have qg:=h.1.get 12 23 _ rfl (hd 12 (by kernel_rfl))
    clear hf
    refine .inl ⟨ask_of rfl rfl qg,opOK_step fun R9 hR9=>?_⟩
    unfold opOK
    go_simp
    exact hR9 _ _ (h.plain rfl 15 26 _ rfl (by decide) (by decide) (Below.refl _ _))
   ·
    intro done ρ W hn hf hd h
    have qd12:=h.1.get 12 23 _ rfl (hd 12 (by kernel_rfl))
    have qd15:=h.1.get 15 26 _ rfl (hd 15 (by kernel_rfl))
    clear hf
    refine .inl ⟨rfl,opOK_step fun R9 hR9=>?_⟩
    unfold opOK
    go_simp
    exact hR9 _ _ (h.plain rfl 16 27 _ rfl (by decide) (by decide) (Below.refl _ _))
   ·
    intro done ρ W hn hf hd h
    have qd16:=h.1.get 16 27 _ rfl (hd 16 (by kernel_rfl))
    clear hf
    refine .inl ⟨rfl,opOK_step fun R9 hR9=>?_⟩
    unfold opOK
    go_simp
    exact hR9 _ _ (h.plain rfl 17 28 _ rfl (by decide) (by decide) (Below.refl _ _))
   ·
    intro done ρ W hn hf hd h
    have qs5:ρ 5= .pointer (some ⟨gy,0,none⟩):=hf 5 (by kernel_rfl)
    have y0:=keepB h.1.1 hgy5 y0
    have y1:=keepB h.1.1 hgy5 y1
    have y2:=keepB h.1.1 hgy5 y2
    have y3:=keepB h.1.1 hgy5 y3
    have y4:=keepB h.1.1 hgy5 y4
    have y5:=keepB h.1.1 hgy5 y5
    have y6:=keepB h.1.1 hgy5 y6
    have qg:=h.1.get 17 28 _ rfl (hd 17 (by kernel_rfl))
    clear hf
    refine .inl ⟨ask_of rfl rfl qg,opOK_step fun R9 hR9=>?_⟩
    unfold opOK
    go_simp
    exact hR9 _ _ (h.plain rfl 18 29 _ rfl (by decide) (by decide) (Below.refl _ _))
   ·
    intro done ρ W hn hf hd h
    have qd18:=h.1.get 18 29 _ rfl (hd 18 (by kernel_rfl))
    have qg:=h.1.get 17 28 _ rfl (hd 17 (by kernel_rfl))
    clear hf
    refine .inl ⟨ask_of rfl rfl qg,opOK_step fun R9 hR9=>?_⟩
    unfold opOK
    go_simp
    refine (unhide P2 W h.1.1).mono ?_
    rintro e w' ⟨v',rfl,hr',hb',hk'⟩
    exact⟨v',rfl,hR9 _ _ (h.row rfl rfl hb' hr')⟩
   ·
    intro done ρ W hn hf hd h
    have hrow:=h.2 (hd 19 (by kernel_rfl))
    obtain⟨A1,c1,e1,hown⟩:=hrow
    rw [e1] at hown
    have hcv:=conv_bytes (P:=Tryz.prog) (RD.of_own hown:RB W W.heap.size A1 body) Tryz.underlying23 Tryz.underlying5 Tryz.underlying9 c1
    clear hown
    have qg:=h.1.get 17 28 _ rfl (hd 17 (by kernel_rfl))
    clear hf
    refine .inl ⟨ask_of rfl rfl qg,opOK_step fun R9 hR9=>?_⟩
    unfold opOK
    go_simp
    exact hR9 _ _ (h.plain rfl 20 31 _ rfl (by decide) (by decide) (Below.refl _ _))
   ·
    intro done ρ W hn hf hd h
    have qs0:ρ 0= .slice A b.length c:=hf 0 (by kernel_rfl)
    have qg:=h.1.get 17 28 _ rfl (hd 17 (by kernel_rfl))
    clear hf
    refine .inl ⟨ask_of rfl rfl qg,opOK_step fun R9 hR9=>?_⟩
    unfold opOK
    go_simp
    exact hR9 _ _ (h.plain rfl 21 32 _ rfl (by decide) (by decide) (Below.refl _ _))
   ·
    intro done ρ W hn hf hd h
    have qd21:=h.1.get 21 32 _ rfl (hd 21 (by kernel_rfl))
    have hcv:=conv_bytes (P:=Tryz.prog) (show RB W W.heap.size A b from (RD.below Hb5.out h.1.1).more h.1.1.size) Tryz.underlying23 Tryz.underlying5 Tryz.underlying9 c
    have qg:=h.1.get 17 28 _ rfl (hd 17 (by kernel_rfl))
    clear hf
    refine .inl ⟨ask_of rfl rfl qg,opOK_step fun R9 hR9=>?_⟩
    unfold opOK
    go_simp
    exact hR9 _ _ (h.plain rfl 22 33 _ rfl (by decide) (by decide) (Below.refl _ _))
   ·
    intro done ρ W hn hf hd h
    have qd20:=h.1.get 20 31 _ rfl (hd 20 (by kernel_rfl))
    have qd22:=h.1.get 22 33 _ rfl (hd 22 (by kernel_rfl))
    have hst:=Hst.out
    have qg:=h.1.get 17 28 _ rfl (hd 17 (by kernel_rfl))
    clear hf
    refine .inl ⟨ask_of rfl rfl qg,opOK_step fun R9 hR9=>?_⟩
    unfold opOK
    go_simp
    exact hR9 _ _ (h.plain rfl 23 34 _ rfl (by decide) (by decide) (Below.refl _ _))
   ·
    intro done ρ W hn hf hd h
    have qd17:=h.1.get 17 28 _ rfl (hd 17 (by kernel_rfl))
    have qd23:=h.1.get 23 34 _ rfl (hd 23 (by kernel_rfl))
    clear hf
    refine .inl ⟨rfl,opOK_step fun R9 hR9=>?_⟩
    unfold opOK
    go_simp
    exact hR9 _ _ (h.plain rfl 24 35 _ rfl (by decide) (by decide) (Below.refl _ _))
  ·intro a' w6 hdf hsz hf h
   have hb6:=h.1.1
   have h35:=h.1.get 24 35 _ rfl (by kernel_rfl)
   have h2:slotsOf a' 2= .pointer (some ⟨gx,0,none⟩):=hf 2 (by kernel_rfl)
   have h5:slotsOf a' 5= .pointer (some ⟨gy,0,none⟩):=hf 5 (by kernel_rfl)
   obtain⟨T,D⟩:=a'
   have hD:D= []:=hdf
   subst hD
   obtain⟨f,hT,hff⟩:∃ f:Nat→Value,T=((List.range 38).map f).toArray∧slotsOf ⟨T, []⟩=f:=⟨_,arr_list T 38 hsz,rfl⟩
   rw [hff] at h2 h5 h35
   clear hff hsz hf h hdf
   simp only [List.range,List.range.loop,List.map] at hT
   subst hT
   rw [h2,h5,h35]
   clear h2 h5 h35 P P2
   have hbu:=fresh HB5.out hb6
   have HF6:=hide (HF3.out.below hb6)
   have HG6:=hide (HF5.out.below hb6)
   have Hr6:=hide (Hox5.out.below hb6)
   obtain⟨z0,z1,z2,z3,z4,z5,z6⟩:=HF6.out.cells
   clear y0 y1 y2 y3 y4 y5 y6 d0 d1
   cases same with
   | true=>
     have hno:=hide (show parseM b=none by
      rw [HX2.out,if_neg]
      intro hq
      have:=Hst.out
      rw [hq] at this
      simp at this)
     obtain⟨f0,f1,f2,f3,f4,f5,f6,FZ,hbz⟩:=wipe HF6.out hbu (w:=w) (Nat.le_of_eq Hgx.out.symm)
     have HFZ:=hide FZ
     have HBZ:=hide hbz
     clear FZ hbz HX2
     go_wp2_with fail
     obtain⟨v0,v1,v2,v3,v4,v5,v6⟩:=HFZ.out.cells
     refine bodyPost_ret (v:= .tuple #[mlv 0 0 0 0 (.slice none 0 0) (.slice none 0 0) (.slice none 0 0),.bool false]) (by simp [results,Tryz.results63,go_sem,v0,v1,v2,v3,v4,v5,v6]) rfl ?_
     exact parsed_none hno.out HBZ.out
   | false=>
     have hyes:=hide (show parseM b=some (MlL.mp ⟨k,t,r,ix,iA,ic,i,oA,oc,o,sA,sc,s⟩) by
      rw [HX2.out,if_pos]
      have:=Hst.out
      simpa using this)
     obtain⟨y0,y1,y2,y3,y4,y5,y6⟩:=HG6.out.cells
     obtain⟨f0,f1,f2,f3,f4,f5,f6,FZ,hbz⟩:=refill (.int .u8 k) (.int .u32 t) (.int .u8 r) (.int .i64 ix) (.slice iA i.length ic) (.slice oA o.length oc) (.slice sA s.length sc) HF6.out hbu (Nat.le_of_eq Hgx.out.symm)
     have HFZ:=hide FZ
     have HBZ:=hide hbz
     have HZ6:=hide (Hr6.out.fill (.int .u8 k) (.int .u32 t) (.int .u8 r) (.int .i64 ix) (.slice iA i.length ic) (.slice oA o.length oc) (.slice sA s.length sc) HF6.out)
     clear FZ hbz HX2
     go_wp2_with fail
     obtain⟨v0,v1,v2,v3,v4,v5,v6⟩:=HFZ.out.cells
     refine bodyPost_ret (v:= .tuple #[mlv k t r ix (.slice iA i.length ic) (.slice oA o.length oc) (.slice sA s.length sc),.bool true]) (by simp [results,Tryz.results63,go_sem,v0,v1,v2,v3,v4,v5,v6]) rfl ?_
     exact parsed_some (x:=⟨k,t,r,ix,iA,ic,i,oA,oc,o,sA,sc,s⟩) hyes.out rfl HZ6.out Hox.out HBZ.out
/-- octavoref02.Entry. -/
theorem entry_val (n:B32):(bs n).toNat=if n.toNat % 2=1 then (n.toNat / 2) ^^^ 3988292384 else n.toNat / 2:=by
 have hb:=bs_val n
 have e0:(bs n).toNat=(n.toNat / 2) ^^^ (if n.toNat % 2=1 then 3988292384 else 0):=by
  unfold bs
  rw [BitVec.toNat_xor,BitVec.toNat_ushiftRight,Nat.shiftRight_eq_div_pow]
  have:n.getLsbD 0=decide (n.toNat % 2=1):=by rw [←BitVec.testBit_toNat,Nat.testBit_zero]
  rw [this]
  by_cases h:n.toNat % 2=1 <;> simp [h,poly]
 rw [e0]
 split <;> simp
theorem entry_ok (x:B32) (w:World):Calls Tryz.prog 165 #[.int .u32 (x.toNat:Int)] w fun e w'=>e= .returned (.int .u32 ((tb x).toNat:Int))∧w=w':=by
 go_enter Tryz.func165,Tryz.ntmps165
 go_wp2_with fail
 go_loop [0,3] (fun n i=>∃ k:Nat,k≤8∧i= .int .i64 (k:Int)∧n= .int .u32 ((bsk k x).toNat:Int)) (fun _ i=>8 - (intOf i).toNat)
 case atStart=>exact⟨0,by omega,rfl,ret_val rfl⟩
 case round=>
  obtain⟨k,hk,rfl,rfl⟩:=hrel
  by_cases hlt:(k:Int) < 8
  ·have hn:=hide (bsk_next k x)
   have hv:=hide (entry_val (bsk k x))
   have hs:=(bsk k x).isLt
   generalize bsk k x=s at hn hv hs ⊢
   by_cases h2:(s.toNat:Int) % 2=1
   ·have ex:bits .xor .u32 ((s.toNat:Int) / 2) 3988292384=((bs s).toNat:Int):=by
     have:=u32_xor_nat (s.toNat / 2) 3988292384 (by omega) (by omega)
     rw [hv.out,if_pos (by omega)]
     simpa using this
    have h3:((s.toNat:Int) % 2 == 1)=true:=by simpa using h2
    clear hs
    go_wp2_with fail
    go_round
    case rel=>exact⟨k+1,by omega,by go_num,ret_val (by rw [hn.out])⟩
    case measure=>simp [intOf];omega
   ·have ex:(s.toNat:Int) / 2=((bs s).toNat:Int):=by
     rw [hv.out,if_neg (by omega)]
     omega
    have h3:((s.toNat:Int) % 2 == 1)=false:=by simpa using h2
    clear hs
    go_wp2_with fail
    go_round
    case rel=>exact⟨k+1,by omega,by go_num,ret_val (by rw [hn.out])⟩
    case measure=>simp [intOf];omega
  ·obtain rfl:k=8:=by omega
   go_wp2_with fail
   go_ret
   exact⟨rfl,rfl⟩
/-- One round of the document's sums. -/
theorem ref_round (T:B32→B32) (s:B32) (x:UInt8):∃ k:Nat,k < 256∧bits .xor .u32 ((s.toNat:Int) % 256) (x.toNat:Int)=(k:Int)∧
 (tcells T)[k]?=some (.int .u32 ((T (BitVec.ofNat 32 k)).toNat:Int))∧bits .xor .u32 ((T (BitVec.ofNat 32 k)).toNat:Int) ((s.toNat:Int) / 256)=((stp T s x).toNat:Int):=by
 obtain⟨k,h1,h2,h3,h4⟩:=sum_round T s x
 refine⟨k,h1,?_,h3,h4⟩
 have hx:=x.toNat_lt
 have e:(s.toNat:Int) % 256=((s.toNat % 256:Nat):Int):=by omega
 rw [e] at h2 ⊢
 rw [u8_xor_nat _ _ (by omega) (by omega)] at h2
 rw [u32_xor_nat _ _ (by omega) (by omega)]
 exact h2
theorem plain_ok (A:Option Addr) (c:Nat) (l:List UInt8) (w:World) (hr:RB w w.heap.size A l) (hl:l.length < 1000000):
 Calls Tryz.prog 133 #[.slice A l.length c] w fun e w'=>e= .returned (.int .u32 ((sm l).toNat:Int))∧w=w':=by
 go_enter Tryz.func133,Tryz.ntmps133
 go_wp2_with fail
 go_loop [3,4] (fun n i=>∃ (k:Nat),k≤l.length∧i= .int .i64 (k:Int)∧n= .int .u32 ((run tb ones (l.take k)).toNat:Int)) (fun _ i=>l.length - (intOf i).toNat)
 case atStart=>exact⟨0,by omega,rfl,ret_val rfl⟩
 case round=>
  obtain⟨k,hk,rfl,rfl⟩:=hrel
  by_cases hlt:k < l.length
  ·obtain⟨b,off,rfl,hbb,hc⟩:=RB.cell hr (by omega)
   have hck:=hc k hlt
   clear hc
   have hsn:=hide (run_snoc tb ones l k hlt)
   generalize run tb ones (l.take k)=s at hsn ⊢
   have lx:(l[k].toNat:Int)≤255:=by have:=l[k].toNat_lt;omega
   obtain⟨j,hj,e1,e2,e3⟩:=ref_round tb s l[k]
   have ej:=hide (show (j:Int)=((BitVec.ofNat 32 j).toNat:Int) by rw [BitVec.toNat_ofNat,Nat.mod_eq_of_lt (by omega)])
   clear e2
   have e3':=hide e3
   clear e3
   go_wp2_with fail
   refine (show Calls Tryz.prog 165 #[.int .u32 (j:Int)] w _ from by rw [ej.out];exact entry_ok _ _).mono ?_
   rintro e w1 ⟨rfl,rfl⟩
   go_wp2_with fail
   go_round
   case rel=>exact⟨k+1,by omega,by go_num,ret_val (by rw [e3'.out,hsn.out])⟩
   case measure=>simp [intOf];omega
  ·have hk':k=l.length:=by omega
   subst hk'
   rw [List.take_of_length_le (Nat.le_refl _)]
   have hs:=(run tb ones l).isLt
   have hnv:=hide (not_val (run tb ones l))
   have hs':((run tb ones l).toNat:Int)≤4294967295:=by omega
   clear hs
   go_wp2_with fail
   go_ret
   exact⟨ret_int hnv.out,rfl⟩
theorem plain_tb (A:Option Addr) (c:Nat) (l:List UInt8) (w:World) (hr:RB w w.heap.size A l) (hl:l.length < 1000000):
 Calls Tryz.prog 133 #[.slice A l.length c] w fun e w'=>e= .returned (.int .u32 ((smT tb l).toNat:Int))∧Below w.heap.size w w':=
 (plain_ok A c l w hr hl).mono fun _ _ ⟨he,hw⟩=>⟨he,hw ▸ Below.refl _ _⟩
end Go.Proofs.YtmkpfdcnikgokaaGreat
