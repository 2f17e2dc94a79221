/-
  Texts of this claim, put together: MailGet. What each theorem asks stands in its statement.
-/
import Derived.Test.YtmkpfdcnikgokaaGreatLt19
import Derived.Test.YtmkpfdcnikgokaaGreatLt21
import Derived.Test.YtmkpfdcnikgokaaGreatLt22
set_option linter.unusedVariables false
set_option linter.unusedSimpArgs false
set_option maxRecDepth 100000
set_option maxHeartbeats 25600000
namespace Go.Proofs.YtmkpfdcnikgokaaGreat
open Go.RowKit
/-- Wishes, one behind the other. -/
def eyeWs (acc:List WP):Nat→ES→List WP×ES
 | 0,st=>(acc,st)
 | k+1,st=>eyeWs (acc++ [(eyeW st).1]) k (eyeW st).2
/-- The mail of what is left to be read. -/
def bodyM (st:ES):MP×ES:=
 if (eyeN 6 st).1=1∨(eyeN 6 st).1=4 then (⟨(eyeN 6 st).1,0,0,0, [],(eyeO (eyeN 6 st).2).1, []⟩,(eyeO (eyeN 6 st).2).2)
 else if (eyeN 6 st).1=2 then (⟨(eyeN 6 st).1,0,0,0,(eyeC (eyeN 6 st).2).1, [], []⟩,(eyeC (eyeN 6 st).2).2)
 else if (eyeN 6 st).1=3 then
  (⟨(eyeN 6 st).1,0,0,0,(eyeC (eyeN 6 st).2).1, [],(eyeWs [] (eyeN 65 (eyeC (eyeN 6 st).2).2).1.toNat (eyeN 65 (eyeC (eyeN 6 st).2).2).2).1⟩,(eyeWs [] (eyeN 65 (eyeC (eyeN 6 st).2).2).1.toNat (eyeN 65 (eyeC (eyeN 6 st).2).2).2).2)
 else if (eyeN 6 st).1=5 then (⟨(eyeN 6 st).1,(eyeS (eyeN 6 st).2).1.1,(eyeS (eyeN 6 st).2).1.2,0,(eyeC (eyeS (eyeN 6 st).2).2).1, [], []⟩,(eyeC (eyeS (eyeN 6 st).2).2).2)
 else if (eyeN 6 st).1=6 then
  (⟨(eyeN 6 st).1,(eyeS (eyeN 6 st).2).1.1,(eyeS (eyeN 6 st).2).1.2,(eyeN 127 (eyeS (eyeN 6 st).2).2).1, [],(eyeO (eyeN 127 (eyeS (eyeN 6 st).2).2).2).1, []⟩,(eyeO (eyeN 127 (eyeS (eyeN 6 st).2).2).2).2)
 else (⟨(eyeN 6 st).1,0,0,0, [], [], []⟩,(eyeN 6 st).2)
/-- A body's mail. -/
def getB (m:List UInt8):Option MP:=if (bodyM (m,false)).2.2=false∧(bodyM (m,false)).2.1.length=0∧mayM (bodyM (m,false)).1 then some (bodyM (m,false)).1 else none
def mp0:MP:=⟨0,0,0,0, [], [], []⟩
def m0L:MlL:=⟨0,0,0,0,none,0, [],none,0, [],none,0, []⟩
def mcode (m:List UInt8):Int:=if (getB m).isSome=true then 0 else 8
theorem m0_ok:okM m0L:=⟨by decide,⟨fun y hy=>(by cases hy),fun y hy=>(by cases hy),fun y hy=>(by cases hy)⟩,by decide,by decide,by decide⟩
theorem m0_rm (w:World) (B:Nat):RM w B m0L:=⟨⟨RD.nil_,fun y hy=>by cases hy⟩,⟨RD.nil_,fun y hy=>by cases hy⟩,RW.nil w B none⟩
/-- What Get answers for a body. -/
def gotten (w w':World) (e:Ending) (m:List UInt8):Prop:=∃ x:MlL,e= .returned (.tuple #[x.val,.int .i64 (mcode m)])∧x.mp=(getB m).getD mp0∧RM w' w'.heap.size x∧okM x∧Below w.heap.size w w'
theorem gotten_bad {w w':World} {m:List UInt8} (h:getB m=none) (hb:Below w.heap.size w w'):gotten w w' (.returned (.tuple #[mlv 0 0 0 0 (.slice none 0 0) (.slice none 0 0) (.slice none 0 0),.int .i64 8])) m:=
 ⟨m0L,by unfold mcode;rw [h];rfl,by rw [h];rfl,m0_rm _ _,m0_ok,hb⟩
theorem gotten_ok {w w':World} {m:List UInt8} {x:MlL} {e:Ending} (h:getB m=some x.mp) (he:e= .returned (.tuple #[x.val,.int .i64 0])) (hr:RM w' w'.heap.size x) (ho:okM x) (hb:Below w.heap.size w w'):gotten w w' e m:=
 ⟨x,by unfold mcode;rw [h,he];rfl,by rw [h];rfl,hr,ho,hb⟩
theorem getB_bad {m l:List UInt8} {x:MP} (h:bodyM (m,false)=(x,(l,true))):getB m=none:=by unfold getB;rw [h];exact if_neg (fun k=>by cases k.1)
theorem getB_long {m l:List UInt8} {x:MP} {b:Bool} (h:bodyM (m,false)=(x,(l,b))) (hl:0 < l.length):getB m=none:=by unfold getB;rw [h];exact if_neg (fun k=>by have:=k.2.1;simp only at this;omega)
theorem getB_not {m l:List UInt8} {x:MP} {b:Bool} (h:bodyM (m,false)=(x,(l,b))) (hl:¬ mayM x):getB m=none:=by unfold getB;rw [h];exact if_neg (fun k=>hl k.2.2)
theorem getB_ok {m l:List UInt8} {x:MP} (h:bodyM (m,false)=(x,(l,false))) (hl:l.length=0) (hx:mayM x):getB m=some x:=by unfold getB;rw [h];exact if_pos ⟨rfl,hl,hx⟩
theorem OnlyAt.low {g N:Nat} {a b:World} (h:OnlyAt g a b) (hg:N≤g):Below N a b:=h.1.mono hg
theorem own_none {w:World} {base n c:Nat} {e:TypeId} {size:Nat} {xs:List Value} (h:w.ownsRow base e size (.slice none n c) n xs):c=0:=by
 rcases h.2 with⟨h1,-⟩ | ⟨g,cap,cur,h1,-⟩
 ·simp only [Value.slice.injEq] at h1;exact h1.2.2
 ·simp only [Value.slice.injEq] at h1;cases h1.1
theorem OO.setO {w:World} {base g c:Nat} {T:TypeId} {A:Option Addr} {L:List OpL} {cs:Array Value} (h:OO w base A c L) (hF:w.heap[g]?=some (.cells cs T (0,0))) (h1:104≠T) (h2:120≠T) (off:Nat) (u:Value):OO (w.setCell ⟨g,off,none⟩ u) base A c L:=
 ⟨own_setO h.1 hF h1 off u,fun x hx=>own_setO (h.2 x hx) hF h2 off u⟩
theorem OO.lessB {w:World} {base B c:Nat} {A:Option Addr} {L:List OpL} (h:OO w base A c L) (hB:B≤base):OO w B A c L:=⟨own_less h.1 hB,fun x hx=>own_less (h.2 x hx) hB⟩
theorem goodP_ok {L:List OpL} (h:∀ o∈L.map OpL.op,goodP o):∀ x∈L,okO x:=by
 intro x hx
 obtain⟨h1,h2,h3,h4,h5⟩:=h _ (List.mem_map_of_mem hx)
 have ha:mayI x.t x.r:=h1.1
 have hb:mayR x.p:=h1.2.1
 have hk:1≤x.k:=h3
 have hr:0≤x.r:=h5
 obtain⟨a1,a2,a3⟩:=ha
 have hl:=hb.2.1
 exact⟨by omega,⟨by show 0≤x.t;omega,by show x.t < 4294967296;omega,hr,by show x.r < 256;omega⟩,h2,by omega⟩
/-- A box of mail is emptied. -/
theorem wipe {w W:World} {gx:Nat} {a b c d e f h:Value} (hF:MB W gx a b c d e f h) (hb:Below w.heap.size w W) (hg:w.heap.size≤gx):
 W.frozen? ⟨gx,0,none⟩=false∧(W.setCell ⟨gx,0,none⟩ (.int .u8 0)).frozen? ⟨gx,1,none⟩=false∧((W.setCell ⟨gx,0,none⟩ (.int .u8 0)).setCell ⟨gx,1,none⟩ (.int .u32 0)).frozen? ⟨gx,2,none⟩=false∧(((W.setCell ⟨gx,0,none⟩ (.int .u8 0)).setCell ⟨gx,1,none⟩ (.int .u32 0)).setCell ⟨gx,2,none⟩ (.int .u8 0)).frozen? ⟨gx,3,none⟩=false∧((((W.setCell ⟨gx,0,none⟩ (.int .u8 0)).setCell ⟨gx,1,none⟩ (.int .u32 0)).setCell ⟨gx,2,none⟩ (.int .u8 0)).setCell ⟨gx,3,none⟩ (.int .i64 0)).frozen? ⟨gx,4,none⟩=false∧(((((W.setCell ⟨gx,0,none⟩ (.int .u8 0)).setCell ⟨gx,1,none⟩ (.int .u32 0)).setCell ⟨gx,2,none⟩ (.int .u8 0)).setCell ⟨gx,3,none⟩ (.int .i64 0)).setCell ⟨gx,4,none⟩ (.slice none 0 0)).frozen? ⟨gx,5,none⟩=false∧((((((W.setCell ⟨gx,0,none⟩ (.int .u8 0)).setCell ⟨gx,1,none⟩ (.int .u32 0)).setCell ⟨gx,2,none⟩ (.int .u8 0)).setCell ⟨gx,3,none⟩ (.int .i64 0)).setCell ⟨gx,4,none⟩ (.slice none 0 0)).setCell ⟨gx,5,none⟩ (.slice none 0 0)).frozen? ⟨gx,6,none⟩=false∧MB (((((((W.setCell ⟨gx,0,none⟩ (.int .u8 0)).setCell ⟨gx,1,none⟩ (.int .u32 0)).setCell ⟨gx,2,none⟩ (.int .u8 0)).setCell ⟨gx,3,none⟩ (.int .i64 0)).setCell ⟨gx,4,none⟩ (.slice none 0 0)).setCell ⟨gx,5,none⟩ (.slice none 0 0)).setCell ⟨gx,6,none⟩ (.slice none 0 0)) gx (.int .u8 0) (.int .u32 0) (.int .u8 0) (.int .i64 0) (.slice none 0 0) (.slice none 0 0) (.slice none 0 0)∧Below w.heap.size w (((((((W.setCell ⟨gx,0,none⟩ (.int .u8 0)).setCell ⟨gx,1,none⟩ (.int .u32 0)).setCell ⟨gx,2,none⟩ (.int .u8 0)).setCell ⟨gx,3,none⟩ (.int .i64 0)).setCell ⟨gx,4,none⟩ (.slice none 0 0)).setCell ⟨gx,5,none⟩ (.slice none 0 0)).setCell ⟨gx,6,none⟩ (.slice none 0 0)):=by
 have F1:=hF.set0 (.int .u8 0)
 have F2:=F1.set1 (.int .u32 0)
 have F3:=F2.set2 (.int .u8 0)
 have F4:=F3.set3 (.int .i64 0)
 have F5:=F4.set4 (.slice none 0 0)
 have F6:=F5.set5 (.slice none 0 0)
 have F7:=F6.set6 (.slice none 0 0)
 exact⟨hF.fr 0,F1.fr 1,F2.fr 2,F3.fr 3,F4.fr 4,F5.fr 5,F6.fr 6,F7,(((((((hb.setCell hg _).setCell hg _).setCell hg _).setCell hg _).setCell hg _).setCell hg _).setCell hg _)⟩
theorem mget_zero (A:Option Addr) (c:Nat) (b m:List UInt8) (s1:ES) (w:World) (hr:RB w w.heap.size A b) (hc:b.length≤c) (hl:b.length < 100000) (hm:opn b=some m) (h1:eyeN 6 (m,false)=(0,s1)):
 Calls Tryz.prog 23 #[.slice A b.length c] w fun e w'=>gotten w w' e m:=by
 obtain⟨w1,hw1,F1,hs1,hb1⟩:=mail_box w (.int .u8 0) (.int .u32 0) (.int .u8 0) (.int .i64 0) (.slice none 0 0) (.slice none 0 0) (.slice none 0 0)
 obtain⟨gx,hgx⟩:∃ q,q=w.heap.size:=⟨_,rfl⟩
 have Hgx:=hide hgx.symm
 have HF1:=hide F1
 rw [←hgx] at HF1
 have hO:=hide (open_any A c b w1 ((RD.below hr hb1).more hb1.size) hc hl)
 have Hm:=hide hm
 have H1:=hide h1
 clear hr hc hl hm h1 F1
 go_enter Tryz.func23,Tryz.ntmps23
 go_wp2_with fail
 rw [←hgx]
 rw [←hgx] at hs1
 clear hgx
 refine hO.out.mono ?_
 rintro e w2 ⟨ho,hb2⟩
 unfold opened at ho
 rw [Hm.out] at ho
 obtain⟨v,rfl,hown⟩:=ho
 obtain⟨A2,c2,rfl,hc2,hcm,hA2⟩:=own_slice hown
 have hAn:A2=none→c2=0:=fun h=>by subst h;exact own_none hown
 have hm9:m.length < 1073741824:=by have:=(opn_inv Hm.out).2;omega
 obtain⟨w3,hw3⟩:∃ q,w2.alloc (.cells #[.slice A2 m.length c2,.bool false] 94)=q:=⟨_,rfl⟩
 have hE3:EYE w3 w2.heap.size A2 m.length c2 false:=by rw [←hw3];exact heap_alloc_new _ _
 have hb3:Below w2.heap.size w2 w3:=by rw [←hw3];exact boxed _ _
 obtain⟨g,hg⟩:∃ q,q=w2.heap.size:=⟨_,rfl⟩
 have HE3:Hid (EY w3 g (m,false)):=hide (by rw [hg];exact⟨A2,c2,hE3,(RBT.of_own hown (Nat.le_refl _)).below hb3,hc2,hm9,hAn⟩)
 have HF3:=hide ((HF1.out.below hb2).below hb3)
 have HB3:=hide (fresh (fresh hb1 hb2) hb3)
 have Hbase:=hide (show g < w3.heap.size by have:=hE3.lt;omega)
 have Hgg:=hide (show gx < g by have:=hb2.size;omega)
 obtain⟨base,hbase⟩:∃ q,q=w3.heap.size:=⟨_,rfl⟩
 have HS3:=hide (Nat.le_of_eq hbase)
 rw [←hbase] at Hbase
 obtain⟨mn,hmn⟩:∃ q,q=m.length:=⟨_,rfl⟩
 rw [←hmn] at hw3 ⊢
 clear hb1 hb2 hb3 hE3 hown hc2 hA2 hcm hAn hm9 HF1 hO hbase hs1 hmn
 go_wp2_with fail
 rw [←hg]
 clear hg hw3 hw1
 refine (eye_at g 6 (m,false) w3 HE3.out 0 s1 H1.out (by decide)).mono ?_
 rintro e w4 ⟨rfl,hE4,ho4,-,-⟩
 have HE4:=hide hE4
 have HF4:=hide (HF3.out.only ho4 (Nat.ne_of_lt Hgg.out))
 have HB4:=hide (HB3.out.trans (ho4.low (Nat.le_of_lt (by have:=Hgx.out;have:=Hgg.out;omega))))
 have HS4:=hide (Nat.le_trans HS3.out ho4.1.size)
 clear hE4 ho4 HE3 HF3 HB3 HS3
 obtain⟨p0,p1,p2,p3,p4,p5,p6⟩:=HF4.out.cells
 have pf0:=(HF4.out).fr 0
 obtain⟨wN,hwN⟩:∃ q,(w4).setCell ⟨gx,0,none⟩ (.int .u8 0)=q:=⟨_,rfl⟩
 have HFN:Hid (MB wN gx (.int .u8 0) (.int .u32 0) (.int .u8 0) (.int .i64 0) (.slice none 0 0) (.slice none 0 0) (.slice none 0 0)):=hide (by rw [←hwN];exact (HF4.out).set0 (.int .u8 0))
 have HEN:Hid (EY wN g _):=hide (by rw [←hwN];exact (HE4.out).setO (HF4.out) (by decide) (Nat.ne_of_gt Hgg.out) 0 (.int .u8 0))
 have HBN:Hid (Below w.heap.size w wN):=hide (by rw [←hwN];exact (HB4.out).setCell (Nat.le_of_eq Hgx.out) _)
 have HSN:Hid (base≤wN.heap.size):=hide (by rw [←hwN];simpa using HS4.out)
 clear HF4 HE4 HB4 HS4
 obtain⟨sf,hsf⟩:∃ q,q=s1:=⟨_,rfl⟩
 have Hsf:=hide hsf
 clear hsf
 rw [←Hsf.out] at HEN
 obtain⟨xL,hxL⟩:∃ q:MlL,q=m0L:=⟨_,rfl⟩
 have Hxv:Hid (xL.val=mlv 0 0 0 0 (.slice none 0 0) (.slice none 0 0) (.slice none 0 0)):=hide (by rw [hxL];rfl)
 have HOK:Hid (okM xL):=hide (by rw [hxL];exact m0_ok)
 have HRM:Hid (RM wN wN.heap.size xL):=hide (by rw [hxL];exact m0_rm _ _)
 have HBD:Hid (bodyM (m,false)=(xL.mp,sf)):=hide (by rw [hxL];unfold bodyM;rw [H1.out,Hsf.out];rfl)
 have HEY:=HEN
 have HMB:=HFN
 have HBW:=HBN
 clear HEN HFN HBN HSN hxL H1 Hm Hsf
 obtain⟨zl,zb⟩:=sf
 obtain⟨zA,zc,hze,-⟩:=HEY.out
 obtain⟨e0,e1⟩:=hze.cells
 simp only at e0 e1
 obtain⟨zn,hzn⟩:∃ q,q=zl.length:=⟨_,rfl⟩
 rw [←hzn] at e0
 have Hzn:=hide hzn
 clear hze hzn
 cases zb with
 | true=>
   have HV:=hide (getB_bad HBD.out)
   obtain⟨f0,f1,f2,f3,f4,f5,f6,FZ,hbz⟩:=wipe HMB.out HBW.out (w:=w) (Nat.le_of_eq Hgx.out)
   obtain⟨y0,y1,y2,y3,y4,y5,y6⟩:=HMB.out.cells
   have HFZ:=hide FZ
   have HBZ:=hide hbz
   clear FZ hbz
   go_wp2_with fail
   obtain⟨v0,v1,v2,v3,v4,v5,v6⟩:=HFZ.out.cells
   refine bodyPost_ret (v:= .tuple #[mlv 0 0 0 0 (.slice none 0 0) (.slice none 0 0) (.slice none 0 0),.int .i64 8]) (by simp [results,Tryz.results23,go_sem,v0,v1,v2,v3,v4,v5,v6]) rfl ?_
   exact gotten_bad (HV.out) HBZ.out
 | false=>
   by_cases hzl:(0:Int) < zn
   ·have HV:=hide (getB_long HBD.out (by have:=Hzn.out;omega))
    have hzd:decide ((0:Int) < zn)=true:=decide_eq_true hzl
    have hze:decide (0 < zn)=true:=decide_eq_true (by omega)
    clear hzl
    obtain⟨f0,f1,f2,f3,f4,f5,f6,FZ,hbz⟩:=wipe HMB.out HBW.out (w:=w) (Nat.le_of_eq Hgx.out)
    obtain⟨y0,y1,y2,y3,y4,y5,y6⟩:=HMB.out.cells
    have HFZ:=hide FZ
    have HBZ:=hide hbz
    clear FZ hbz
    go_wp2_with fail
    obtain⟨v0,v1,v2,v3,v4,v5,v6⟩:=HFZ.out.cells
    refine bodyPost_ret (v:= .tuple #[mlv 0 0 0 0 (.slice none 0 0) (.slice none 0 0) (.slice none 0 0),.int .i64 8]) (by simp [results,Tryz.results23,go_sem,v0,v1,v2,v3,v4,v5,v6]) rfl ?_
    exact gotten_bad (HV.out) HBZ.out
   ·have hzd:decide ((0:Int) < zn)=false:=decide_eq_false hzl
    have hz0:zn=0:=by omega
    have HC:=hide (mcheck_any xL wN HRM.out HOK.out)
    rw [Hxv.out] at HC
    obtain⟨y0,y1,y2,y3,y4,y5,y6⟩:=HMB.out.cells
    by_cases hmay:mayM xL.mp
    ·have HV:=hide (getB_ok HBD.out (by rw [←Hzn.out];exact hz0) hmay)
     rw [show chkM xL.mp=0 from if_pos hmay] at HC
     clear hmay
     go_wp2_with fail
     refine HC.out.mono ?_
     rintro e wM ⟨rfl,hbM⟩
     have HMM:=hide (HMB.out.below hbM)
     have HBM:=hide (HBW.out.trans (hbM.mono HBW.out.size))
     have HRMM:=hide ((HRM.out.below hbM).more hbM.size)
     clear y0 y1 y2 y3 y4 y5 y6 e0 e1 p0 p1 p2 p3 p4 p5 p6 pf0 hwN
     obtain⟨y0,y1,y2,y3,y4,y5,y6⟩:=HMM.out.cells
     have f0:=HMM.out.fr 0
     have f1:=HMM.out.fr 1
     have f2:=HMM.out.fr 2
     have f3:=HMM.out.fr 3
     have f4:=HMM.out.fr 4
     have f5:=HMM.out.fr 5
     have f6:=HMM.out.fr 6
     have s0:=setCell_self y0
     have s1:=setCell_self y1
     have s2:=setCell_self y2
     have s3:=setCell_self y3
     have s4:=setCell_self y4
     have s5:=setCell_self y5
     have s6:=setCell_self y6
     go_wp2_with fail
     refine bodyPost_ret (v:= .tuple #[.agg #[.int .u8 0,.int .u32 0,.int .u8 0,.int .i64 0,.slice none 0 0,.slice none 0 0,.slice none 0 0],.int .i64 0]) (by simp [results,Tryz.results23,go_sem,y0,y1,y2,y3,y4,y5,y6]) rfl ?_
     exact gotten_ok HV.out (by rw [Hxv.out]) HRMM.out HOK.out HBM.out
    ·have HV:=hide (getB_not HBD.out hmay)
     rw [show chkM xL.mp=8 from if_neg hmay] at HC
     clear hmay
     go_wp2_with fail
     refine HC.out.mono ?_
     rintro e wM ⟨rfl,hbM⟩
     have HMM:=hide (HMB.out.below hbM)
     have HBM:=hide (HBW.out.trans (hbM.mono HBW.out.size))
     clear y0 y1 y2 y3 y4 y5 y6 e0 e1 p0 p1 p2 p3 p4 p5 p6 pf0 hwN
     obtain⟨f0,f1,f2,f3,f4,f5,f6,FZ,hbz⟩:=wipe HMM.out HBM.out (w:=w) (Nat.le_of_eq Hgx.out)
     obtain⟨y0,y1,y2,y3,y4,y5,y6⟩:=HMM.out.cells
     have HFZ:=hide FZ
     have HBZ:=hide hbz
     clear FZ hbz
     go_wp2_with fail
     obtain⟨v0,v1,v2,v3,v4,v5,v6⟩:=HFZ.out.cells
     refine bodyPost_ret (v:= .tuple #[mlv 0 0 0 0 (.slice none 0 0) (.slice none 0 0) (.slice none 0 0),.int .i64 8]) (by simp [results,Tryz.results23,go_sem,v0,v1,v2,v3,v4,v5,v6]) rfl ?_
     exact gotten_bad (HV.out) HBZ.out
theorem mget_ops1 (A:Option Addr) (c:Nat) (b m:List UInt8) (s1:ES) (w:World) (hr:RB w w.heap.size A b) (hc:b.length≤c) (hl:b.length < 100000) (hm:opn b=some m) (h1:eyeN 6 (m,false)=(1,s1)):
 Calls Tryz.prog 23 #[.slice A b.length c] w fun e w'=>gotten w w' e m:=by
 obtain⟨w1,hw1,F1,hs1,hb1⟩:=mail_box w (.int .u8 0) (.int .u32 0) (.int .u8 0) (.int .i64 0) (.slice none 0 0) (.slice none 0 0) (.slice none 0 0)
 obtain⟨gx,hgx⟩:∃ q,q=w.heap.size:=⟨_,rfl⟩
 have Hgx:=hide hgx.symm
 have HF1:=hide F1
 rw [←hgx] at HF1
 have hO:=hide (open_any A c b w1 ((RD.below hr hb1).more hb1.size) hc hl)
 have Hm:=hide hm
 have H1:=hide h1
 clear hr hc hl hm h1 F1
 go_enter Tryz.func23,Tryz.ntmps23
 go_wp2_with fail
 rw [←hgx]
 rw [←hgx] at hs1
 clear hgx
 refine hO.out.mono ?_
 rintro e w2 ⟨ho,hb2⟩
 unfold opened at ho
 rw [Hm.out] at ho
 obtain⟨v,rfl,hown⟩:=ho
 obtain⟨A2,c2,rfl,hc2,hcm,hA2⟩:=own_slice hown
 have hAn:A2=none→c2=0:=fun h=>by subst h;exact own_none hown
 have hm9:m.length < 1073741824:=by have:=(opn_inv Hm.out).2;omega
 obtain⟨w3,hw3⟩:∃ q,w2.alloc (.cells #[.slice A2 m.length c2,.bool false] 94)=q:=⟨_,rfl⟩
 have hE3:EYE w3 w2.heap.size A2 m.length c2 false:=by rw [←hw3];exact heap_alloc_new _ _
 have hb3:Below w2.heap.size w2 w3:=by rw [←hw3];exact boxed _ _
 obtain⟨g,hg⟩:∃ q,q=w2.heap.size:=⟨_,rfl⟩
 have HE3:Hid (EY w3 g (m,false)):=hide (by rw [hg];exact⟨A2,c2,hE3,(RBT.of_own hown (Nat.le_refl _)).below hb3,hc2,hm9,hAn⟩)
 have HF3:=hide ((HF1.out.below hb2).below hb3)
 have HB3:=hide (fresh (fresh hb1 hb2) hb3)
 have Hbase:=hide (show g < w3.heap.size by have:=hE3.lt;omega)
 have Hgg:=hide (show gx < g by have:=hb2.size;omega)
 obtain⟨base,hbase⟩:∃ q,q=w3.heap.size:=⟨_,rfl⟩
 have HS3:=hide (Nat.le_of_eq hbase)
 rw [←hbase] at Hbase
 obtain⟨mn,hmn⟩:∃ q,q=m.length:=⟨_,rfl⟩
 rw [←hmn] at hw3 ⊢
 clear hb1 hb2 hb3 hE3 hown hc2 hA2 hcm hAn hm9 HF1 hO hbase hs1 hmn
 go_wp2_with fail
 rw [←hg]
 clear hg hw3 hw1
 refine (eye_at g 6 (m,false) w3 HE3.out 1 s1 H1.out (by decide)).mono ?_
 rintro e w4 ⟨rfl,hE4,ho4,-,-⟩
 have HE4:=hide hE4
 have HF4:=hide (HF3.out.only ho4 (Nat.ne_of_lt Hgg.out))
 have HB4:=hide (HB3.out.trans (ho4.low (Nat.le_of_lt (by have:=Hgx.out;have:=Hgg.out;omega))))
 have HS4:=hide (Nat.le_trans HS3.out ho4.1.size)
 clear hE4 ho4 HE3 HF3 HB3 HS3
 obtain⟨y0,y1,y2,y3,y4,y5,y6⟩:=HF4.out.cells
 have f0:=(HF4.out).fr 0
 go_wp2_with fail
 obtain⟨w5,hw5⟩:∃ q,(w4).setCell ⟨gx,0,none⟩ (.int .u8 1)=q:=⟨_,rfl⟩
 have HF5:Hid (MB w5 gx (.int .u8 1) (.int .u32 0) (.int .u8 0) (.int .i64 0) (.slice none 0 0) (.slice none 0 0) (.slice none 0 0)):=hide (by rw [←hw5];exact (HF4.out).set0 (.int .u8 1))
 have HE5:Hid (EY w5 g _):=hide (by rw [←hw5];exact (HE4.out).setO (HF4.out) (by decide) (Nat.ne_of_gt Hgg.out) 0 (.int .u8 1))
 have HB5:Hid (Below w.heap.size w w5):=hide (by rw [←hw5];exact (HB4.out).setCell (Nat.le_of_eq Hgx.out) _)
 have HS5:Hid (base≤w5.heap.size):=hide (by rw [←hw5];simpa using HS4.out)
 rw [hw5]
 clear hw5 y0 y1 y2 y3 y4 y5 y6 f0 HF4 HE4 HB4 HS4
 obtain⟨OP,sf,h9⟩:∃ a b,eyeO s1=(a,b):=⟨_,_,rfl⟩
 have H2:=hide h9
 clear h9
 refine (eyeops g s1 w5 HE5.out OP sf H2.out).mono ?_
 rintro e w6 ⟨oA,oc,o,rfl,ho9,hO9,hE,ho⟩
 have HO6:=hide (hO9.lessB HS5.out)
 have Ho:=hide ho9
 obtain⟨no,eno⟩:∃ q,q=List.length (α:=OpL) o:=⟨_,rfl⟩
 have Eno:=hide eno
 rw [←eno]
 clear ho9 hO9 eno
 have HE6:=hide hE
 have HF6:=hide (HF5.out.only ho (Nat.ne_of_lt Hgg.out))
 have HB6:=hide (HB5.out.trans (ho.low (Nat.le_of_lt (by have:=Hgx.out;have:=Hgg.out;omega))))
 have HS6:=hide (Nat.le_trans HS5.out ho.1.size)
 clear hE ho HE5 HF5 HB5 HS5
 obtain⟨p0,p1,p2,p3,p4,p5,p6⟩:=HF6.out.cells
 have pf0:=(HF6.out).fr 5
 obtain⟨wN,hwN⟩:∃ q,(w6).setCell ⟨gx,5,none⟩ (.slice oA no oc)=q:=⟨_,rfl⟩
 have HFN:Hid (MB wN gx (.int .u8 1) (.int .u32 0) (.int .u8 0) (.int .i64 0) (.slice none 0 0) (.slice oA no oc) (.slice none 0 0)):=hide (by rw [←hwN];exact (HF6.out).set5 (.slice oA no oc))
 have HEN:Hid (EY wN g _):=hide (by rw [←hwN];exact (HE6.out).setO (HF6.out) (by decide) (Nat.ne_of_gt Hgg.out) 5 (.slice oA no oc))
 have HBN:Hid (Below w.heap.size w wN):=hide (by rw [←hwN];exact (HB6.out).setCell (Nat.le_of_eq Hgx.out) _)
 have HSN:Hid (base≤wN.heap.size):=hide (by rw [←hwN];simpa using HS6.out)
 have HON:Hid (OO wN base oA oc o):=hide (by rw [←hwN];exact (HO6.out).setO (HF6.out) (by decide) (by decide) 5 (.slice oA no oc))
 clear HF6 HE6 HB6 HS6 HO6
 obtain⟨xL,hxL⟩:∃ q:MlL,q=⟨1,0,0,0,none,0, [],oA,oc,o,none,0, []⟩:=⟨_,rfl⟩
 have Hxv:Hid (xL.val=mlv 1 0 0 0 (.slice none 0 0) (.slice oA no oc) (.slice none 0 0)):=hide (by rw [hxL];rw [Eno.out];rfl)
 have HOK:Hid (okM xL):=hide (by rw [hxL];exact⟨⟨Int.le_refl 0,(by show (0:Int) < 4294967296;decide),Int.le_refl 0,(by show (0:Int)≤255;decide)⟩,⟨fun y hy=>(by cases hy),(fun y hy=>goodP_ok (by rw [Ho.out];have:=(eyeO_good s1).1;rwa [H2.out] at this) y hy),fun y hy=>(by cases hy)⟩,(by show (0:Nat) < 1073741824;decide),(by have h9:=(eyeO_good s1).2;rw [H2.out,←Ho.out,List.length_map] at h9;show o.length < 1073741824;omega),(by show (0:Nat) < 1073741824;decide)⟩)
 have HRM:Hid (RM wN wN.heap.size xL):=hide (by rw [hxL];exact⟨⟨RD.nil_,fun y hy=>(by cases hy)⟩,HON.out.ro,RW.nil _ _ _⟩)
 have HBD:Hid (bodyM (m,false)=(xL.mp,sf)):=hide (by rw [hxL];simp [bodyM,MlL.mp,H1.out,H2.out,Ho.out])
 have HEY:=HEN
 have HMB:=HFN
 have HBW:=HBN
 clear HEN HFN HBN HSN hxL H1 H2 Hm Ho Eno HON
 obtain⟨zl,zb⟩:=sf
 obtain⟨zA,zc,hze,-⟩:=HEY.out
 obtain⟨e0,e1⟩:=hze.cells
 simp only at e0 e1
 obtain⟨zn,hzn⟩:∃ q,q=zl.length:=⟨_,rfl⟩
 rw [←hzn] at e0
 have Hzn:=hide hzn
 clear hze hzn
 cases zb with
 | true=>
   have HV:=hide (getB_bad HBD.out)
   obtain⟨f0,f1,f2,f3,f4,f5,f6,FZ,hbz⟩:=wipe HMB.out HBW.out (w:=w) (Nat.le_of_eq Hgx.out)
   obtain⟨y0,y1,y2,y3,y4,y5,y6⟩:=HMB.out.cells
   have HFZ:=hide FZ
   have HBZ:=hide hbz
   clear FZ hbz
   go_wp2_with fail
   obtain⟨v0,v1,v2,v3,v4,v5,v6⟩:=HFZ.out.cells
   refine bodyPost_ret (v:= .tuple #[mlv 0 0 0 0 (.slice none 0 0) (.slice none 0 0) (.slice none 0 0),.int .i64 8]) (by simp [results,Tryz.results23,go_sem,v0,v1,v2,v3,v4,v5,v6]) rfl ?_
   exact gotten_bad (HV.out) HBZ.out
 | false=>
   by_cases hzl:(0:Int) < zn
   ·have HV:=hide (getB_long HBD.out (by have:=Hzn.out;omega))
    have hzd:decide ((0:Int) < zn)=true:=decide_eq_true hzl
    have hze:decide (0 < zn)=true:=decide_eq_true (by omega)
    clear hzl
    obtain⟨f0,f1,f2,f3,f4,f5,f6,FZ,hbz⟩:=wipe HMB.out HBW.out (w:=w) (Nat.le_of_eq Hgx.out)
    obtain⟨y0,y1,y2,y3,y4,y5,y6⟩:=HMB.out.cells
    have HFZ:=hide FZ
    have HBZ:=hide hbz
    clear FZ hbz
    go_wp2_with fail
    obtain⟨v0,v1,v2,v3,v4,v5,v6⟩:=HFZ.out.cells
    refine bodyPost_ret (v:= .tuple #[mlv 0 0 0 0 (.slice none 0 0) (.slice none 0 0) (.slice none 0 0),.int .i64 8]) (by simp [results,Tryz.results23,go_sem,v0,v1,v2,v3,v4,v5,v6]) rfl ?_
    exact gotten_bad (HV.out) HBZ.out
   ·have hzd:decide ((0:Int) < zn)=false:=decide_eq_false hzl
    have hz0:zn=0:=by omega
    have HC:=hide (mcheck_any xL wN HRM.out HOK.out)
    rw [Hxv.out] at HC
    obtain⟨y0,y1,y2,y3,y4,y5,y6⟩:=HMB.out.cells
    by_cases hmay:mayM xL.mp
    ·have HV:=hide (getB_ok HBD.out (by rw [←Hzn.out];exact hz0) hmay)
     rw [show chkM xL.mp=0 from if_pos hmay] at HC
     clear hmay
     go_wp2_with fail
     refine HC.out.mono ?_
     rintro e wM ⟨rfl,hbM⟩
     have HMM:=hide (HMB.out.below hbM)
     have HBM:=hide (HBW.out.trans (hbM.mono HBW.out.size))
     have HRMM:=hide ((HRM.out.below hbM).more hbM.size)
     clear y0 y1 y2 y3 y4 y5 y6 e0 e1 p0 p1 p2 p3 p4 p5 p6 pf0 hwN
     obtain⟨y0,y1,y2,y3,y4,y5,y6⟩:=HMM.out.cells
     have f0:=HMM.out.fr 0
     have f1:=HMM.out.fr 1
     have f2:=HMM.out.fr 2
     have f3:=HMM.out.fr 3
     have f4:=HMM.out.fr 4
     have f5:=HMM.out.fr 5
     have f6:=HMM.out.fr 6
     have s0:=setCell_self y0
     have s1:=setCell_self y1
     have s2:=setCell_self y2
     have s3:=setCell_self y3
     have s4:=setCell_self y4
     have s5:=setCell_self y5
     have s6:=setCell_self y6
     go_wp2_with fail
     refine bodyPost_ret (v:= .tuple #[.agg #[.int .u8 1,.int .u32 0,.int .u8 0,.int .i64 0,.slice none 0 0,.slice oA no oc,.slice none 0 0],.int .i64 0]) (by simp [results,Tryz.results23,go_sem,y0,y1,y2,y3,y4,y5,y6]) rfl ?_
     exact gotten_ok HV.out (by rw [Hxv.out]) HRMM.out HOK.out HBM.out
    ·have HV:=hide (getB_not HBD.out hmay)
     rw [show chkM xL.mp=8 from if_neg hmay] at HC
     clear hmay
     go_wp2_with fail
     refine HC.out.mono ?_
     rintro e wM ⟨rfl,hbM⟩
     have HMM:=hide (HMB.out.below hbM)
     have HBM:=hide (HBW.out.trans (hbM.mono HBW.out.size))
     clear y0 y1 y2 y3 y4 y5 y6 e0 e1 p0 p1 p2 p3 p4 p5 p6 pf0 hwN
     obtain⟨f0,f1,f2,f3,f4,f5,f6,FZ,hbz⟩:=wipe HMM.out HBM.out (w:=w) (Nat.le_of_eq Hgx.out)
     obtain⟨y0,y1,y2,y3,y4,y5,y6⟩:=HMM.out.cells
     have HFZ:=hide FZ
     have HBZ:=hide hbz
     clear FZ hbz
     go_wp2_with fail
     obtain⟨v0,v1,v2,v3,v4,v5,v6⟩:=HFZ.out.cells
     refine bodyPost_ret (v:= .tuple #[mlv 0 0 0 0 (.slice none 0 0) (.slice none 0 0) (.slice none 0 0),.int .i64 8]) (by simp [results,Tryz.results23,go_sem,v0,v1,v2,v3,v4,v5,v6]) rfl ?_
     exact gotten_bad (HV.out) HBZ.out
theorem mget_ops4 (A:Option Addr) (c:Nat) (b m:List UInt8) (s1:ES) (w:World) (hr:RB w w.heap.size A b) (hc:b.length≤c) (hl:b.length < 100000) (hm:opn b=some m) (h1:eyeN 6 (m,false)=(4,s1)):
 Calls Tryz.prog 23 #[.slice A b.length c] w fun e w'=>gotten w w' e m:=by
 obtain⟨w1,hw1,F1,hs1,hb1⟩:=mail_box w (.int .u8 0) (.int .u32 0) (.int .u8 0) (.int .i64 0) (.slice none 0 0) (.slice none 0 0) (.slice none 0 0)
 obtain⟨gx,hgx⟩:∃ q,q=w.heap.size:=⟨_,rfl⟩
 have Hgx:=hide hgx.symm
 have HF1:=hide F1
 rw [←hgx] at HF1
 have hO:=hide (open_any A c b w1 ((RD.below hr hb1).more hb1.size) hc hl)
 have Hm:=hide hm
 have H1:=hide h1
 clear hr hc hl hm h1 F1
 go_enter Tryz.func23,Tryz.ntmps23
 go_wp2_with fail
 rw [←hgx]
 rw [←hgx] at hs1
 clear hgx
 refine hO.out.mono ?_
 rintro e w2 ⟨ho,hb2⟩
 unfold opened at ho
 rw [Hm.out] at ho
 obtain⟨v,rfl,hown⟩:=ho
 obtain⟨A2,c2,rfl,hc2,hcm,hA2⟩:=own_slice hown
 have hAn:A2=none→c2=0:=fun h=>by subst h;exact own_none hown
 have hm9:m.length < 1073741824:=by have:=(opn_inv Hm.out).2;omega
 obtain⟨w3,hw3⟩:∃ q,w2.alloc (.cells #[.slice A2 m.length c2,.bool false] 94)=q:=⟨_,rfl⟩
 have hE3:EYE w3 w2.heap.size A2 m.length c2 false:=by rw [←hw3];exact heap_alloc_new _ _
 have hb3:Below w2.heap.size w2 w3:=by rw [←hw3];exact boxed _ _
 obtain⟨g,hg⟩:∃ q,q=w2.heap.size:=⟨_,rfl⟩
 have HE3:Hid (EY w3 g (m,false)):=hide (by rw [hg];exact⟨A2,c2,hE3,(RBT.of_own hown (Nat.le_refl _)).below hb3,hc2,hm9,hAn⟩)
 have HF3:=hide ((HF1.out.below hb2).below hb3)
 have HB3:=hide (fresh (fresh hb1 hb2) hb3)
 have Hbase:=hide (show g < w3.heap.size by have:=hE3.lt;omega)
 have Hgg:=hide (show gx < g by have:=hb2.size;omega)
 obtain⟨base,hbase⟩:∃ q,q=w3.heap.size:=⟨_,rfl⟩
 have HS3:=hide (Nat.le_of_eq hbase)
 rw [←hbase] at Hbase
 obtain⟨mn,hmn⟩:∃ q,q=m.length:=⟨_,rfl⟩
 rw [←hmn] at hw3 ⊢
 clear hb1 hb2 hb3 hE3 hown hc2 hA2 hcm hAn hm9 HF1 hO hbase hs1 hmn
 go_wp2_with fail
 rw [←hg]
 clear hg hw3 hw1
 refine (eye_at g 6 (m,false) w3 HE3.out 4 s1 H1.out (by decide)).mono ?_
 rintro e w4 ⟨rfl,hE4,ho4,-,-⟩
 have HE4:=hide hE4
 have HF4:=hide (HF3.out.only ho4 (Nat.ne_of_lt Hgg.out))
 have HB4:=hide (HB3.out.trans (ho4.low (Nat.le_of_lt (by have:=Hgx.out;have:=Hgg.out;omega))))
 have HS4:=hide (Nat.le_trans HS3.out ho4.1.size)
 clear hE4 ho4 HE3 HF3 HB3 HS3
 obtain⟨y0,y1,y2,y3,y4,y5,y6⟩:=HF4.out.cells
 have f0:=(HF4.out).fr 0
 go_wp2_with fail
 obtain⟨w5,hw5⟩:∃ q,(w4).setCell ⟨gx,0,none⟩ (.int .u8 4)=q:=⟨_,rfl⟩
 have HF5:Hid (MB w5 gx (.int .u8 4) (.int .u32 0) (.int .u8 0) (.int .i64 0) (.slice none 0 0) (.slice none 0 0) (.slice none 0 0)):=hide (by rw [←hw5];exact (HF4.out).set0 (.int .u8 4))
 have HE5:Hid (EY w5 g _):=hide (by rw [←hw5];exact (HE4.out).setO (HF4.out) (by decide) (Nat.ne_of_gt Hgg.out) 0 (.int .u8 4))
 have HB5:Hid (Below w.heap.size w w5):=hide (by rw [←hw5];exact (HB4.out).setCell (Nat.le_of_eq Hgx.out) _)
 have HS5:Hid (base≤w5.heap.size):=hide (by rw [←hw5];simpa using HS4.out)
 rw [hw5]
 clear hw5 y0 y1 y2 y3 y4 y5 y6 f0 HF4 HE4 HB4 HS4
 obtain⟨OP,sf,h9⟩:∃ a b,eyeO s1=(a,b):=⟨_,_,rfl⟩
 have H2:=hide h9
 clear h9
 refine (eyeops g s1 w5 HE5.out OP sf H2.out).mono ?_
 rintro e w6 ⟨oA,oc,o,rfl,ho9,hO9,hE,ho⟩
 have HO6:=hide (hO9.lessB HS5.out)
 have Ho:=hide ho9
 obtain⟨no,eno⟩:∃ q,q=List.length (α:=OpL) o:=⟨_,rfl⟩
 have Eno:=hide eno
 rw [←eno]
 clear ho9 hO9 eno
 have HE6:=hide hE
 have HF6:=hide (HF5.out.only ho (Nat.ne_of_lt Hgg.out))
 have HB6:=hide (HB5.out.trans (ho.low (Nat.le_of_lt (by have:=Hgx.out;have:=Hgg.out;omega))))
 have HS6:=hide (Nat.le_trans HS5.out ho.1.size)
 clear hE ho HE5 HF5 HB5 HS5
 obtain⟨p0,p1,p2,p3,p4,p5,p6⟩:=HF6.out.cells
 have pf0:=(HF6.out).fr 5
 obtain⟨wN,hwN⟩:∃ q,(w6).setCell ⟨gx,5,none⟩ (.slice oA no oc)=q:=⟨_,rfl⟩
 have HFN:Hid (MB wN gx (.int .u8 4) (.int .u32 0) (.int .u8 0) (.int .i64 0) (.slice none 0 0) (.slice oA no oc) (.slice none 0 0)):=hide (by rw [←hwN];exact (HF6.out).set5 (.slice oA no oc))
 have HEN:Hid (EY wN g _):=hide (by rw [←hwN];exact (HE6.out).setO (HF6.out) (by decide) (Nat.ne_of_gt Hgg.out) 5 (.slice oA no oc))
 have HBN:Hid (Below w.heap.size w wN):=hide (by rw [←hwN];exact (HB6.out).setCell (Nat.le_of_eq Hgx.out) _)
 have HSN:Hid (base≤wN.heap.size):=hide (by rw [←hwN];simpa using HS6.out)
 have HON:Hid (OO wN base oA oc o):=hide (by rw [←hwN];exact (HO6.out).setO (HF6.out) (by decide) (by decide) 5 (.slice oA no oc))
 clear HF6 HE6 HB6 HS6 HO6
 obtain⟨xL,hxL⟩:∃ q:MlL,q=⟨4,0,0,0,none,0, [],oA,oc,o,none,0, []⟩:=⟨_,rfl⟩
 have Hxv:Hid (xL.val=mlv 4 0 0 0 (.slice none 0 0) (.slice oA no oc) (.slice none 0 0)):=hide (by rw [hxL];rw [Eno.out];rfl)
 have HOK:Hid (okM xL):=hide (by rw [hxL];exact⟨⟨Int.le_refl 0,(by show (0:Int) < 4294967296;decide),Int.le_refl 0,(by show (0:Int)≤255;decide)⟩,⟨fun y hy=>(by cases hy),(fun y hy=>goodP_ok (by rw [Ho.out];have:=(eyeO_good s1).1;rwa [H2.out] at this) y hy),fun y hy=>(by cases hy)⟩,(by show (0:Nat) < 1073741824;decide),(by have h9:=(eyeO_good s1).2;rw [H2.out,←Ho.out,List.length_map] at h9;show o.length < 1073741824;omega),(by show (0:Nat) < 1073741824;decide)⟩)
 have HRM:Hid (RM wN wN.heap.size xL):=hide (by rw [hxL];exact⟨⟨RD.nil_,fun y hy=>(by cases hy)⟩,HON.out.ro,RW.nil _ _ _⟩)
 have HBD:Hid (bodyM (m,false)=(xL.mp,sf)):=hide (by rw [hxL];simp [bodyM,MlL.mp,H1.out,H2.out,Ho.out])
 have HEY:=HEN
 have HMB:=HFN
 have HBW:=HBN
 clear HEN HFN HBN HSN hxL H1 H2 Hm Ho Eno HON
 obtain⟨zl,zb⟩:=sf
 obtain⟨zA,zc,hze,-⟩:=HEY.out
 obtain⟨e0,e1⟩:=hze.cells
 simp only at e0 e1
 obtain⟨zn,hzn⟩:∃ q,q=zl.length:=⟨_,rfl⟩
 rw [←hzn] at e0
 have Hzn:=hide hzn
 clear hze hzn
 cases zb with
 | true=>
   have HV:=hide (getB_bad HBD.out)
   obtain⟨f0,f1,f2,f3,f4,f5,f6,FZ,hbz⟩:=wipe HMB.out HBW.out (w:=w) (Nat.le_of_eq Hgx.out)
   obtain⟨y0,y1,y2,y3,y4,y5,y6⟩:=HMB.out.cells
   have HFZ:=hide FZ
   have HBZ:=hide hbz
   clear FZ hbz
   go_wp2_with fail
   obtain⟨v0,v1,v2,v3,v4,v5,v6⟩:=HFZ.out.cells
   refine bodyPost_ret (v:= .tuple #[mlv 0 0 0 0 (.slice none 0 0) (.slice none 0 0) (.slice none 0 0),.int .i64 8]) (by simp [results,Tryz.results23,go_sem,v0,v1,v2,v3,v4,v5,v6]) rfl ?_
   exact gotten_bad (HV.out) HBZ.out
 | false=>
   by_cases hzl:(0:Int) < zn
   ·have HV:=hide (getB_long HBD.out (by have:=Hzn.out;omega))
    have hzd:decide ((0:Int) < zn)=true:=decide_eq_true hzl
    have hze:decide (0 < zn)=true:=decide_eq_true (by omega)
    clear hzl
    obtain⟨f0,f1,f2,f3,f4,f5,f6,FZ,hbz⟩:=wipe HMB.out HBW.out (w:=w) (Nat.le_of_eq Hgx.out)
    obtain⟨y0,y1,y2,y3,y4,y5,y6⟩:=HMB.out.cells
    have HFZ:=hide FZ
    have HBZ:=hide hbz
    clear FZ hbz
    go_wp2_with fail
    obtain⟨v0,v1,v2,v3,v4,v5,v6⟩:=HFZ.out.cells
    refine bodyPost_ret (v:= .tuple #[mlv 0 0 0 0 (.slice none 0 0) (.slice none 0 0) (.slice none 0 0),.int .i64 8]) (by simp [results,Tryz.results23,go_sem,v0,v1,v2,v3,v4,v5,v6]) rfl ?_
    exact gotten_bad (HV.out) HBZ.out
   ·have hzd:decide ((0:Int) < zn)=false:=decide_eq_false hzl
    have hz0:zn=0:=by omega
    have HC:=hide (mcheck_any xL wN HRM.out HOK.out)
    rw [Hxv.out] at HC
    obtain⟨y0,y1,y2,y3,y4,y5,y6⟩:=HMB.out.cells
    by_cases hmay:mayM xL.mp
    ·have HV:=hide (getB_ok HBD.out (by rw [←Hzn.out];exact hz0) hmay)
     rw [show chkM xL.mp=0 from if_pos hmay] at HC
     clear hmay
     go_wp2_with fail
     refine HC.out.mono ?_
     rintro e wM ⟨rfl,hbM⟩
     have HMM:=hide (HMB.out.below hbM)
     have HBM:=hide (HBW.out.trans (hbM.mono HBW.out.size))
     have HRMM:=hide ((HRM.out.below hbM).more hbM.size)
     clear y0 y1 y2 y3 y4 y5 y6 e0 e1 p0 p1 p2 p3 p4 p5 p6 pf0 hwN
     obtain⟨y0,y1,y2,y3,y4,y5,y6⟩:=HMM.out.cells
     have f0:=HMM.out.fr 0
     have f1:=HMM.out.fr 1
     have f2:=HMM.out.fr 2
     have f3:=HMM.out.fr 3
     have f4:=HMM.out.fr 4
     have f5:=HMM.out.fr 5
     have f6:=HMM.out.fr 6
     have s0:=setCell_self y0
     have s1:=setCell_self y1
     have s2:=setCell_self y2
     have s3:=setCell_self y3
     have s4:=setCell_self y4
     have s5:=setCell_self y5
     have s6:=setCell_self y6
     go_wp2_with fail
     refine bodyPost_ret (v:= .tuple #[.agg #[.int .u8 4,.int .u32 0,.int .u8 0,.int .i64 0,.slice none 0 0,.slice oA no oc,.slice none 0 0],.int .i64 0]) (by simp [results,Tryz.results23,go_sem,y0,y1,y2,y3,y4,y5,y6]) rfl ?_
     exact gotten_ok HV.out (by rw [Hxv.out]) HRMM.out HOK.out HBM.out
    ·have HV:=hide (getB_not HBD.out hmay)
     rw [show chkM xL.mp=8 from if_neg hmay] at HC
     clear hmay
     go_wp2_with fail
     refine HC.out.mono ?_
     rintro e wM ⟨rfl,hbM⟩
     have HMM:=hide (HMB.out.below hbM)
     have HBM:=hide (HBW.out.trans (hbM.mono HBW.out.size))
     clear y0 y1 y2 y3 y4 y5 y6 e0 e1 p0 p1 p2 p3 p4 p5 p6 pf0 hwN
     obtain⟨f0,f1,f2,f3,f4,f5,f6,FZ,hbz⟩:=wipe HMM.out HBM.out (w:=w) (Nat.le_of_eq Hgx.out)
     obtain⟨y0,y1,y2,y3,y4,y5,y6⟩:=HMM.out.cells
     have HFZ:=hide FZ
     have HBZ:=hide hbz
     clear FZ hbz
     go_wp2_with fail
     obtain⟨v0,v1,v2,v3,v4,v5,v6⟩:=HFZ.out.cells
     refine bodyPost_ret (v:= .tuple #[mlv 0 0 0 0 (.slice none 0 0) (.slice none 0 0) (.slice none 0 0),.int .i64 8]) (by simp [results,Tryz.results23,go_sem,v0,v1,v2,v3,v4,v5,v6]) rfl ?_
     exact gotten_bad (HV.out) HBZ.out
theorem mget_ack (A:Option Addr) (c:Nat) (b m:List UInt8) (s1:ES) (w:World) (hr:RB w w.heap.size A b) (hc:b.length≤c) (hl:b.length < 100000) (hm:opn b=some m) (h1:eyeN 6 (m,false)=(2,s1)):
 Calls Tryz.prog 23 #[.slice A b.length c] w fun e w'=>gotten w w' e m:=by
 obtain⟨w1,hw1,F1,hs1,hb1⟩:=mail_box w (.int .u8 0) (.int .u32 0) (.int .u8 0) (.int .i64 0) (.slice none 0 0) (.slice none 0 0) (.slice none 0 0)
 obtain⟨gx,hgx⟩:∃ q,q=w.heap.size:=⟨_,rfl⟩
 have Hgx:=hide hgx.symm
 have HF1:=hide F1
 rw [←hgx] at HF1
 have hO:=hide (open_any A c b w1 ((RD.below hr hb1).more hb1.size) hc hl)
 have Hm:=hide hm
 have H1:=hide h1
 clear hr hc hl hm h1 F1
 go_enter Tryz.func23,Tryz.ntmps23
 go_wp2_with fail
 rw [←hgx]
 rw [←hgx] at hs1
 clear hgx
 refine hO.out.mono ?_
 rintro e w2 ⟨ho,hb2⟩
 unfold opened at ho
 rw [Hm.out] at ho
 obtain⟨v,rfl,hown⟩:=ho
 obtain⟨A2,c2,rfl,hc2,hcm,hA2⟩:=own_slice hown
 have hAn:A2=none→c2=0:=fun h=>by subst h;exact own_none hown
 have hm9:m.length < 1073741824:=by have:=(opn_inv Hm.out).2;omega
 obtain⟨w3,hw3⟩:∃ q,w2.alloc (.cells #[.slice A2 m.length c2,.bool false] 94)=q:=⟨_,rfl⟩
 have hE3:EYE w3 w2.heap.size A2 m.length c2 false:=by rw [←hw3];exact heap_alloc_new _ _
 have hb3:Below w2.heap.size w2 w3:=by rw [←hw3];exact boxed _ _
 obtain⟨g,hg⟩:∃ q,q=w2.heap.size:=⟨_,rfl⟩
 have HE3:Hid (EY w3 g (m,false)):=hide (by rw [hg];exact⟨A2,c2,hE3,(RBT.of_own hown (Nat.le_refl _)).below hb3,hc2,hm9,hAn⟩)
 have HF3:=hide ((HF1.out.below hb2).below hb3)
 have HB3:=hide (fresh (fresh hb1 hb2) hb3)
 have Hbase:=hide (show g < w3.heap.size by have:=hE3.lt;omega)
 have Hgg:=hide (show gx < g by have:=hb2.size;omega)
 obtain⟨base,hbase⟩:∃ q,q=w3.heap.size:=⟨_,rfl⟩
 have HS3:=hide (Nat.le_of_eq hbase)
 rw [←hbase] at Hbase
 obtain⟨mn,hmn⟩:∃ q,q=m.length:=⟨_,rfl⟩
 rw [←hmn] at hw3 ⊢
 clear hb1 hb2 hb3 hE3 hown hc2 hA2 hcm hAn hm9 HF1 hO hbase hs1 hmn
 go_wp2_with fail
 rw [←hg]
 clear hg hw3 hw1
 refine (eye_at g 6 (m,false) w3 HE3.out 2 s1 H1.out (by decide)).mono ?_
 rintro e w4 ⟨rfl,hE4,ho4,-,-⟩
 have HE4:=hide hE4
 have HF4:=hide (HF3.out.only ho4 (Nat.ne_of_lt Hgg.out))
 have HB4:=hide (HB3.out.trans (ho4.low (Nat.le_of_lt (by have:=Hgx.out;have:=Hgg.out;omega))))
 have HS4:=hide (Nat.le_trans HS3.out ho4.1.size)
 clear hE4 ho4 HE3 HF3 HB3 HS3
 obtain⟨y0,y1,y2,y3,y4,y5,y6⟩:=HF4.out.cells
 have f0:=(HF4.out).fr 0
 go_wp2_with fail
 obtain⟨w5,hw5⟩:∃ q,(w4).setCell ⟨gx,0,none⟩ (.int .u8 2)=q:=⟨_,rfl⟩
 have HF5:Hid (MB w5 gx (.int .u8 2) (.int .u32 0) (.int .u8 0) (.int .i64 0) (.slice none 0 0) (.slice none 0 0) (.slice none 0 0)):=hide (by rw [←hw5];exact (HF4.out).set0 (.int .u8 2))
 have HE5:Hid (EY w5 g _):=hide (by rw [←hw5];exact (HE4.out).setO (HF4.out) (by decide) (Nat.ne_of_gt Hgg.out) 0 (.int .u8 2))
 have HB5:Hid (Below w.heap.size w w5):=hide (by rw [←hw5];exact (HB4.out).setCell (Nat.le_of_eq Hgx.out) _)
 have HS5:Hid (base≤w5.heap.size):=hide (by rw [←hw5];simpa using HS4.out)
 rw [hw5]
 clear hw5 y0 y1 y2 y3 y4 y5 y6 f0 HF4 HE4 HB4 HS4
 obtain⟨II,sf,h9⟩:∃ a b,eyeC s1=(a,b):=⟨_,_,rfl⟩
 have H2:=hide h9
 clear h9
 refine (eyeclock g s1 w5 HE5.out II sf H2.out).mono ?_
 rintro e w6 ⟨iA,ic,i,rfl,hi,hT,hok,hi8,hE,ho⟩
 have HI6:=hide (hT.less HS5.out)
 have Hi:=hide (And.intro hi (And.intro hok hi8))
 obtain⟨ni,eni⟩:∃ q,q=List.length (α:=TmL) i:=⟨_,rfl⟩
 have Eni:=hide eni
 rw [←eni]
 clear hi hT hok hi8 eni
 have HE6:=hide hE
 have HF6:=hide (HF5.out.only ho (Nat.ne_of_lt Hgg.out))
 have HB6:=hide (HB5.out.trans (ho.low (Nat.le_of_lt (by have:=Hgx.out;have:=Hgg.out;omega))))
 have HS6:=hide (Nat.le_trans HS5.out ho.1.size)
 clear hE ho HE5 HF5 HB5 HS5
 obtain⟨p0,p1,p2,p3,p4,p5,p6⟩:=HF6.out.cells
 have pf0:=(HF6.out).fr 4
 obtain⟨wN,hwN⟩:∃ q,(w6).setCell ⟨gx,4,none⟩ (.slice iA ni ic)=q:=⟨_,rfl⟩
 have HFN:Hid (MB wN gx (.int .u8 2) (.int .u32 0) (.int .u8 0) (.int .i64 0) (.slice iA ni ic) (.slice none 0 0) (.slice none 0 0)):=hide (by rw [←hwN];exact (HF6.out).set4 (.slice iA ni ic))
 have HEN:Hid (EY wN g _):=hide (by rw [←hwN];exact (HE6.out).setO (HF6.out) (by decide) (Nat.ne_of_gt Hgg.out) 4 (.slice iA ni ic))
 have HBN:Hid (Below w.heap.size w wN):=hide (by rw [←hwN];exact (HB6.out).setCell (Nat.le_of_eq Hgx.out) _)
 have HSN:Hid (base≤wN.heap.size):=hide (by rw [←hwN];simpa using HS6.out)
 have HIN:Hid (OTm wN base iA ic i):=hide (by rw [←hwN];exact (HI6.out).setO (HF6.out) (by decide) (by decide) 4 (.slice iA ni ic))
 clear HF6 HE6 HB6 HS6 HI6
 obtain⟨xL,hxL⟩:∃ q:MlL,q=⟨2,0,0,0,iA,ic,i,none,0, [],none,0, []⟩:=⟨_,rfl⟩
 have Hxv:Hid (xL.val=mlv 2 0 0 0 (.slice iA ni ic) (.slice none 0 0) (.slice none 0 0)):=hide (by rw [hxL];rw [Eni.out];rfl)
 have HOK:Hid (okM xL):=hide (by rw [hxL];exact⟨⟨Int.le_refl 0,(by show (0:Int) < 4294967296;decide),Int.le_refl 0,(by show (0:Int)≤255;decide)⟩,⟨(fun y hy=>Hi.out.2.1 y hy),fun y hy=>(by cases hy),fun y hy=>(by cases hy)⟩,(by have:=Hi.out.2.2;show i.length < 1073741824;omega),(by show (0:Nat) < 1073741824;decide),(by show (0:Nat) < 1073741824;decide)⟩)
 have HRM:Hid (RM wN wN.heap.size xL):=hide (by rw [hxL];exact⟨HIN.out.rt,⟨RD.nil_,fun y hy=>(by cases hy)⟩,RW.nil _ _ _⟩)
 have HBD:Hid (bodyM (m,false)=(xL.mp,sf)):=hide (by rw [hxL];simp [bodyM,MlL.mp,H1.out,H2.out,Hi.out.1])
 have HEY:=HEN
 have HMB:=HFN
 have HBW:=HBN
 clear HEN HFN HBN HSN hxL H1 H2 Hm Hi Eni HIN
 obtain⟨zl,zb⟩:=sf
 obtain⟨zA,zc,hze,-⟩:=HEY.out
 obtain⟨e0,e1⟩:=hze.cells
 simp only at e0 e1
 obtain⟨zn,hzn⟩:∃ q,q=zl.length:=⟨_,rfl⟩
 rw [←hzn] at e0
 have Hzn:=hide hzn
 clear hze hzn
 cases zb with
 | true=>
   have HV:=hide (getB_bad HBD.out)
   obtain⟨f0,f1,f2,f3,f4,f5,f6,FZ,hbz⟩:=wipe HMB.out HBW.out (w:=w) (Nat.le_of_eq Hgx.out)
   obtain⟨y0,y1,y2,y3,y4,y5,y6⟩:=HMB.out.cells
   have HFZ:=hide FZ
   have HBZ:=hide hbz
   clear FZ hbz
   go_wp2_with fail
   obtain⟨v0,v1,v2,v3,v4,v5,v6⟩:=HFZ.out.cells
   refine bodyPost_ret (v:= .tuple #[mlv 0 0 0 0 (.slice none 0 0) (.slice none 0 0) (.slice none 0 0),.int .i64 8]) (by simp [results,Tryz.results23,go_sem,v0,v1,v2,v3,v4,v5,v6]) rfl ?_
   exact gotten_bad (HV.out) HBZ.out
 | false=>
   by_cases hzl:(0:Int) < zn
   ·have HV:=hide (getB_long HBD.out (by have:=Hzn.out;omega))
    have hzd:decide ((0:Int) < zn)=true:=decide_eq_true hzl
    have hze:decide (0 < zn)=true:=decide_eq_true (by omega)
    clear hzl
    obtain⟨f0,f1,f2,f3,f4,f5,f6,FZ,hbz⟩:=wipe HMB.out HBW.out (w:=w) (Nat.le_of_eq Hgx.out)
    obtain⟨y0,y1,y2,y3,y4,y5,y6⟩:=HMB.out.cells
    have HFZ:=hide FZ
    have HBZ:=hide hbz
    clear FZ hbz
    go_wp2_with fail
    obtain⟨v0,v1,v2,v3,v4,v5,v6⟩:=HFZ.out.cells
    refine bodyPost_ret (v:= .tuple #[mlv 0 0 0 0 (.slice none 0 0) (.slice none 0 0) (.slice none 0 0),.int .i64 8]) (by simp [results,Tryz.results23,go_sem,v0,v1,v2,v3,v4,v5,v6]) rfl ?_
    exact gotten_bad (HV.out) HBZ.out
   ·have hzd:decide ((0:Int) < zn)=false:=decide_eq_false hzl
    have hz0:zn=0:=by omega
    have HC:=hide (mcheck_any xL wN HRM.out HOK.out)
    rw [Hxv.out] at HC
    obtain⟨y0,y1,y2,y3,y4,y5,y6⟩:=HMB.out.cells
    by_cases hmay:mayM xL.mp
    ·have HV:=hide (getB_ok HBD.out (by rw [←Hzn.out];exact hz0) hmay)
     rw [show chkM xL.mp=0 from if_pos hmay] at HC
     clear hmay
     go_wp2_with fail
     refine HC.out.mono ?_
     rintro e wM ⟨rfl,hbM⟩
     have HMM:=hide (HMB.out.below hbM)
     have HBM:=hide (HBW.out.trans (hbM.mono HBW.out.size))
     have HRMM:=hide ((HRM.out.below hbM).more hbM.size)
     clear y0 y1 y2 y3 y4 y5 y6 e0 e1 p0 p1 p2 p3 p4 p5 p6 pf0 hwN
     obtain⟨y0,y1,y2,y3,y4,y5,y6⟩:=HMM.out.cells
     have f0:=HMM.out.fr 0
     have f1:=HMM.out.fr 1
     have f2:=HMM.out.fr 2
     have f3:=HMM.out.fr 3
     have f4:=HMM.out.fr 4
     have f5:=HMM.out.fr 5
     have f6:=HMM.out.fr 6
     have s0:=setCell_self y0
     have s1:=setCell_self y1
     have s2:=setCell_self y2
     have s3:=setCell_self y3
     have s4:=setCell_self y4
     have s5:=setCell_self y5
     have s6:=setCell_self y6
     go_wp2_with fail
     refine bodyPost_ret (v:= .tuple #[.agg #[.int .u8 2,.int .u32 0,.int .u8 0,.int .i64 0,.slice iA ni ic,.slice none 0 0,.slice none 0 0],.int .i64 0]) (by simp [results,Tryz.results23,go_sem,y0,y1,y2,y3,y4,y5,y6]) rfl ?_
     exact gotten_ok HV.out (by rw [Hxv.out]) HRMM.out HOK.out HBM.out
    ·have HV:=hide (getB_not HBD.out hmay)
     rw [show chkM xL.mp=8 from if_neg hmay] at HC
     clear hmay
     go_wp2_with fail
     refine HC.out.mono ?_
     rintro e wM ⟨rfl,hbM⟩
     have HMM:=hide (HMB.out.below hbM)
     have HBM:=hide (HBW.out.trans (hbM.mono HBW.out.size))
     clear y0 y1 y2 y3 y4 y5 y6 e0 e1 p0 p1 p2 p3 p4 p5 p6 pf0 hwN
     obtain⟨f0,f1,f2,f3,f4,f5,f6,FZ,hbz⟩:=wipe HMM.out HBM.out (w:=w) (Nat.le_of_eq Hgx.out)
     obtain⟨y0,y1,y2,y3,y4,y5,y6⟩:=HMM.out.cells
     have HFZ:=hide FZ
     have HBZ:=hide hbz
     clear FZ hbz
     go_wp2_with fail
     obtain⟨v0,v1,v2,v3,v4,v5,v6⟩:=HFZ.out.cells
     refine bodyPost_ret (v:= .tuple #[mlv 0 0 0 0 (.slice none 0 0) (.slice none 0 0) (.slice none 0 0),.int .i64 8]) (by simp [results,Tryz.results23,go_sem,v0,v1,v2,v3,v4,v5,v6]) rfl ?_
     exact gotten_bad (HV.out) HBZ.out
theorem mget_manifest (A:Option Addr) (c:Nat) (b m:List UInt8) (s1:ES) (w:World) (hr:RB w w.heap.size A b) (hc:b.length≤c) (hl:b.length < 100000) (hm:opn b=some m) (h1:eyeN 6 (m,false)=(5,s1)):
 Calls Tryz.prog 23 #[.slice A b.length c] w fun e w'=>gotten w w' e m:=by
 obtain⟨w1,hw1,F1,hs1,hb1⟩:=mail_box w (.int .u8 0) (.int .u32 0) (.int .u8 0) (.int .i64 0) (.slice none 0 0) (.slice none 0 0) (.slice none 0 0)
 obtain⟨gx,hgx⟩:∃ q,q=w.heap.size:=⟨_,rfl⟩
 have Hgx:=hide hgx.symm
 have HF1:=hide F1
 rw [←hgx] at HF1
 have hO:=hide (open_any A c b w1 ((RD.below hr hb1).more hb1.size) hc hl)
 have Hm:=hide hm
 have H1:=hide h1
 clear hr hc hl hm h1 F1
 go_enter Tryz.func23,Tryz.ntmps23
 go_wp2_with fail
 rw [←hgx]
 rw [←hgx] at hs1
 clear hgx
 refine hO.out.mono ?_
 rintro e w2 ⟨ho,hb2⟩
 unfold opened at ho
 rw [Hm.out] at ho
 obtain⟨v,rfl,hown⟩:=ho
 obtain⟨A2,c2,rfl,hc2,hcm,hA2⟩:=own_slice hown
 have hAn:A2=none→c2=0:=fun h=>by subst h;exact own_none hown
 have hm9:m.length < 1073741824:=by have:=(opn_inv Hm.out).2;omega
 obtain⟨w3,hw3⟩:∃ q,w2.alloc (.cells #[.slice A2 m.length c2,.bool false] 94)=q:=⟨_,rfl⟩
 have hE3:EYE w3 w2.heap.size A2 m.length c2 false:=by rw [←hw3];exact heap_alloc_new _ _
 have hb3:Below w2.heap.size w2 w3:=by rw [←hw3];exact boxed _ _
 obtain⟨g,hg⟩:∃ q,q=w2.heap.size:=⟨_,rfl⟩
 have HE3:Hid (EY w3 g (m,false)):=hide (by rw [hg];exact⟨A2,c2,hE3,(RBT.of_own hown (Nat.le_refl _)).below hb3,hc2,hm9,hAn⟩)
 have HF3:=hide ((HF1.out.below hb2).below hb3)
 have HB3:=hide (fresh (fresh hb1 hb2) hb3)
 have Hbase:=hide (show g < w3.heap.size by have:=hE3.lt;omega)
 have Hgg:=hide (show gx < g by have:=hb2.size;omega)
 obtain⟨base,hbase⟩:∃ q,q=w3.heap.size:=⟨_,rfl⟩
 have HS3:=hide (Nat.le_of_eq hbase)
 rw [←hbase] at Hbase
 obtain⟨mn,hmn⟩:∃ q,q=m.length:=⟨_,rfl⟩
 rw [←hmn] at hw3 ⊢
 clear hb1 hb2 hb3 hE3 hown hc2 hA2 hcm hAn hm9 HF1 hO hbase hs1 hmn
 go_wp2_with fail
 rw [←hg]
 clear hg hw3 hw1
 refine (eye_at g 6 (m,false) w3 HE3.out 5 s1 H1.out (by decide)).mono ?_
 rintro e w4 ⟨rfl,hE4,ho4,-,-⟩
 have HE4:=hide hE4
 have HF4:=hide (HF3.out.only ho4 (Nat.ne_of_lt Hgg.out))
 have HB4:=hide (HB3.out.trans (ho4.low (Nat.le_of_lt (by have:=Hgx.out;have:=Hgg.out;omega))))
 have HS4:=hide (Nat.le_trans HS3.out ho4.1.size)
 clear hE4 ho4 HE3 HF3 HB3 HS3
 obtain⟨y0,y1,y2,y3,y4,y5,y6⟩:=HF4.out.cells
 have f0:=(HF4.out).fr 0
 go_wp2_with fail
 obtain⟨w5,hw5⟩:∃ q,(w4).setCell ⟨gx,0,none⟩ (.int .u8 5)=q:=⟨_,rfl⟩
 have HF5:Hid (MB w5 gx (.int .u8 5) (.int .u32 0) (.int .u8 0) (.int .i64 0) (.slice none 0 0) (.slice none 0 0) (.slice none 0 0)):=hide (by rw [←hw5];exact (HF4.out).set0 (.int .u8 5))
 have HE5:Hid (EY w5 g _):=hide (by rw [←hw5];exact (HE4.out).setO (HF4.out) (by decide) (Nat.ne_of_gt Hgg.out) 0 (.int .u8 5))
 have HB5:Hid (Below w.heap.size w w5):=hide (by rw [←hw5];exact (HB4.out).setCell (Nat.le_of_eq Hgx.out) _)
 have HS5:Hid (base≤w5.heap.size):=hide (by rw [←hw5];simpa using HS4.out)
 rw [hw5]
 clear hw5 y0 y1 y2 y3 y4 y5 y6 f0 HF4 HE4 HB4 HS4
 obtain⟨⟨t,r⟩,s2,h9⟩:∃ a b,eyeS s1=(a,b):=⟨_,_,rfl⟩
 have H2:=hide h9
 clear h9
 obtain⟨II,sf,h9⟩:∃ a b,eyeC s2=(a,b):=⟨_,_,rfl⟩
 have H3:=hide h9
 clear h9
 refine (eyestamp g s1 w5 HE5.out t r s2 H2.out).mono ?_
 rintro e w6 ⟨rfl,hE,ho,t0,t1,r0,r1⟩
 have Htr:=hide (And.intro t0 (And.intro t1 (And.intro r0 r1)))
 clear t0 t1 r0 r1
 have HE6:=hide hE
 have HF6:=hide (HF5.out.only ho (Nat.ne_of_lt Hgg.out))
 have HB6:=hide (HB5.out.trans (ho.low (Nat.le_of_lt (by have:=Hgx.out;have:=Hgg.out;omega))))
 have HS6:=hide (Nat.le_trans HS5.out ho.1.size)
 clear hE ho HE5 HF5 HB5 HS5
 obtain⟨y0,y1,y2,y3,y4,y5,y6⟩:=HF6.out.cells
 have f0:=(HF6.out).fr 1
 have f1:=((HF6.out).set1 (.int .u32 t)).fr 2
 go_wp2_with fail
 obtain⟨w7,hw7⟩:∃ q,((w6).setCell ⟨gx,1,none⟩ (.int .u32 t)).setCell ⟨gx,2,none⟩ (.int .u8 r)=q:=⟨_,rfl⟩
 have HF7:Hid (MB w7 gx (.int .u8 5) (.int .u32 t) (.int .u8 r) (.int .i64 0) (.slice none 0 0) (.slice none 0 0) (.slice none 0 0)):=hide (by rw [←hw7];exact ((HF6.out).set1 (.int .u32 t)).set2 (.int .u8 r))
 have HE7:Hid (EY w7 g _):=hide (by rw [←hw7];exact ((HE6.out).setO (HF6.out) (by decide) (Nat.ne_of_gt Hgg.out) 1 (.int .u32 t)).setO ((HF6.out).set1 (.int .u32 t)) (by decide) (Nat.ne_of_gt Hgg.out) 2 (.int .u8 r))
 have HB7:Hid (Below w.heap.size w w7):=hide (by rw [←hw7];exact ((HB6.out).setCell (Nat.le_of_eq Hgx.out) _).setCell (Nat.le_of_eq Hgx.out) _)
 have HS7:Hid (base≤w7.heap.size):=hide (by rw [←hw7];simpa using HS6.out)
 rw [hw7]
 clear hw7 y0 y1 y2 y3 y4 y5 y6 f0 f1 HF6 HE6 HB6 HS6
 refine (eyeclock g s2 w7 HE7.out II sf H3.out).mono ?_
 rintro e w8 ⟨iA,ic,i,rfl,hi,hT,hok,hi8,hE,ho⟩
 have HI8:=hide (hT.less HS7.out)
 have Hi:=hide (And.intro hi (And.intro hok hi8))
 obtain⟨ni,eni⟩:∃ q,q=List.length (α:=TmL) i:=⟨_,rfl⟩
 have Eni:=hide eni
 rw [←eni]
 clear hi hT hok hi8 eni
 have HE8:=hide hE
 have HF8:=hide (HF7.out.only ho (Nat.ne_of_lt Hgg.out))
 have HB8:=hide (HB7.out.trans (ho.low (Nat.le_of_lt (by have:=Hgx.out;have:=Hgg.out;omega))))
 have HS8:=hide (Nat.le_trans HS7.out ho.1.size)
 clear hE ho HE7 HF7 HB7 HS7
 obtain⟨p0,p1,p2,p3,p4,p5,p6⟩:=HF8.out.cells
 have pf0:=(HF8.out).fr 4
 obtain⟨wN,hwN⟩:∃ q,(w8).setCell ⟨gx,4,none⟩ (.slice iA ni ic)=q:=⟨_,rfl⟩
 have HFN:Hid (MB wN gx (.int .u8 5) (.int .u32 t) (.int .u8 r) (.int .i64 0) (.slice iA ni ic) (.slice none 0 0) (.slice none 0 0)):=hide (by rw [←hwN];exact (HF8.out).set4 (.slice iA ni ic))
 have HEN:Hid (EY wN g _):=hide (by rw [←hwN];exact (HE8.out).setO (HF8.out) (by decide) (Nat.ne_of_gt Hgg.out) 4 (.slice iA ni ic))
 have HBN:Hid (Below w.heap.size w wN):=hide (by rw [←hwN];exact (HB8.out).setCell (Nat.le_of_eq Hgx.out) _)
 have HSN:Hid (base≤wN.heap.size):=hide (by rw [←hwN];simpa using HS8.out)
 have HIN:Hid (OTm wN base iA ic i):=hide (by rw [←hwN];exact (HI8.out).setO (HF8.out) (by decide) (by decide) 4 (.slice iA ni ic))
 clear HF8 HE8 HB8 HS8 HI8
 obtain⟨xL,hxL⟩:∃ q:MlL,q=⟨5,t,r,0,iA,ic,i,none,0, [],none,0, []⟩:=⟨_,rfl⟩
 have Hxv:Hid (xL.val=mlv 5 t r 0 (.slice iA ni ic) (.slice none 0 0) (.slice none 0 0)):=hide (by rw [hxL];rw [Eni.out];rfl)
 have HOK:Hid (okM xL):=hide (by rw [hxL];exact⟨(by obtain⟨a,b,c,d⟩:=Htr.out;exact⟨a,by show t < 4294967296;omega,c,by show r≤255;omega⟩),⟨(fun y hy=>Hi.out.2.1 y hy),fun y hy=>(by cases hy),fun y hy=>(by cases hy)⟩,(by have:=Hi.out.2.2;show i.length < 1073741824;omega),(by show (0:Nat) < 1073741824;decide),(by show (0:Nat) < 1073741824;decide)⟩)
 have HRM:Hid (RM wN wN.heap.size xL):=hide (by rw [hxL];exact⟨HIN.out.rt,⟨RD.nil_,fun y hy=>(by cases hy)⟩,RW.nil _ _ _⟩)
 have HBD:Hid (bodyM (m,false)=(xL.mp,sf)):=hide (by rw [hxL];simp [bodyM,MlL.mp,H1.out,H2.out,H3.out,Hi.out.1])
 have HEY:=HEN
 have HMB:=HFN
 have HBW:=HBN
 clear HEN HFN HBN HSN hxL H1 H2 H3 Hm Hi Eni HIN Htr
 obtain⟨zl,zb⟩:=sf
 obtain⟨zA,zc,hze,-⟩:=HEY.out
 obtain⟨e0,e1⟩:=hze.cells
 simp only at e0 e1
 obtain⟨zn,hzn⟩:∃ q,q=zl.length:=⟨_,rfl⟩
 rw [←hzn] at e0
 have Hzn:=hide hzn
 clear hze hzn
 cases zb with
 | true=>
   have HV:=hide (getB_bad HBD.out)
   obtain⟨f0,f1,f2,f3,f4,f5,f6,FZ,hbz⟩:=wipe HMB.out HBW.out (w:=w) (Nat.le_of_eq Hgx.out)
   obtain⟨y0,y1,y2,y3,y4,y5,y6⟩:=HMB.out.cells
   have HFZ:=hide FZ
   have HBZ:=hide hbz
   clear FZ hbz
   go_wp2_with fail
   obtain⟨v0,v1,v2,v3,v4,v5,v6⟩:=HFZ.out.cells
   refine bodyPost_ret (v:= .tuple #[mlv 0 0 0 0 (.slice none 0 0) (.slice none 0 0) (.slice none 0 0),.int .i64 8]) (by simp [results,Tryz.results23,go_sem,v0,v1,v2,v3,v4,v5,v6]) rfl ?_
   exact gotten_bad (HV.out) HBZ.out
 | false=>
   by_cases hzl:(0:Int) < zn
   ·have HV:=hide (getB_long HBD.out (by have:=Hzn.out;omega))
    have hzd:decide ((0:Int) < zn)=true:=decide_eq_true hzl
    have hze:decide (0 < zn)=true:=decide_eq_true (by omega)
    clear hzl
    obtain⟨f0,f1,f2,f3,f4,f5,f6,FZ,hbz⟩:=wipe HMB.out HBW.out (w:=w) (Nat.le_of_eq Hgx.out)
    obtain⟨y0,y1,y2,y3,y4,y5,y6⟩:=HMB.out.cells
    have HFZ:=hide FZ
    have HBZ:=hide hbz
    clear FZ hbz
    go_wp2_with fail
    obtain⟨v0,v1,v2,v3,v4,v5,v6⟩:=HFZ.out.cells
    refine bodyPost_ret (v:= .tuple #[mlv 0 0 0 0 (.slice none 0 0) (.slice none 0 0) (.slice none 0 0),.int .i64 8]) (by simp [results,Tryz.results23,go_sem,v0,v1,v2,v3,v4,v5,v6]) rfl ?_
    exact gotten_bad (HV.out) HBZ.out
   ·have hzd:decide ((0:Int) < zn)=false:=decide_eq_false hzl
    have hz0:zn=0:=by omega
    have HC:=hide (mcheck_any xL wN HRM.out HOK.out)
    rw [Hxv.out] at HC
    obtain⟨y0,y1,y2,y3,y4,y5,y6⟩:=HMB.out.cells
    by_cases hmay:mayM xL.mp
    ·have HV:=hide (getB_ok HBD.out (by rw [←Hzn.out];exact hz0) hmay)
     rw [show chkM xL.mp=0 from if_pos hmay] at HC
     clear hmay
     go_wp2_with fail
     refine HC.out.mono ?_
     rintro e wM ⟨rfl,hbM⟩
     have HMM:=hide (HMB.out.below hbM)
     have HBM:=hide (HBW.out.trans (hbM.mono HBW.out.size))
     have HRMM:=hide ((HRM.out.below hbM).more hbM.size)
     clear y0 y1 y2 y3 y4 y5 y6 e0 e1 p0 p1 p2 p3 p4 p5 p6 pf0 hwN
     obtain⟨y0,y1,y2,y3,y4,y5,y6⟩:=HMM.out.cells
     have f0:=HMM.out.fr 0
     have f1:=HMM.out.fr 1
     have f2:=HMM.out.fr 2
     have f3:=HMM.out.fr 3
     have f4:=HMM.out.fr 4
     have f5:=HMM.out.fr 5
     have f6:=HMM.out.fr 6
     have s0:=setCell_self y0
     have s1:=setCell_self y1
     have s2:=setCell_self y2
     have s3:=setCell_self y3
     have s4:=setCell_self y4
     have s5:=setCell_self y5
     have s6:=setCell_self y6
     go_wp2_with fail
     refine bodyPost_ret (v:= .tuple #[.agg #[.int .u8 5,.int .u32 t,.int .u8 r,.int .i64 0,.slice iA ni ic,.slice none 0 0,.slice none 0 0],.int .i64 0]) (by simp [results,Tryz.results23,go_sem,y0,y1,y2,y3,y4,y5,y6]) rfl ?_
     exact gotten_ok HV.out (by rw [Hxv.out]) HRMM.out HOK.out HBM.out
    ·have HV:=hide (getB_not HBD.out hmay)
     rw [show chkM xL.mp=8 from if_neg hmay] at HC
     clear hmay
     go_wp2_with fail
     refine HC.out.mono ?_
     rintro e wM ⟨rfl,hbM⟩
     have HMM:=hide (HMB.out.below hbM)
     have HBM:=hide (HBW.out.trans (hbM.mono HBW.out.size))
     clear y0 y1 y2 y3 y4 y5 y6 e0 e1 p0 p1 p2 p3 p4 p5 p6 pf0 hwN
     obtain⟨f0,f1,f2,f3,f4,f5,f6,FZ,hbz⟩:=wipe HMM.out HBM.out (w:=w) (Nat.le_of_eq Hgx.out)
     obtain⟨y0,y1,y2,y3,y4,y5,y6⟩:=HMM.out.cells
     have HFZ:=hide FZ
     have HBZ:=hide hbz
     clear FZ hbz
     go_wp2_with fail
     obtain⟨v0,v1,v2,v3,v4,v5,v6⟩:=HFZ.out.cells
     refine bodyPost_ret (v:= .tuple #[mlv 0 0 0 0 (.slice none 0 0) (.slice none 0 0) (.slice none 0 0),.int .i64 8]) (by simp [results,Tryz.results23,go_sem,v0,v1,v2,v3,v4,v5,v6]) rfl ?_
     exact gotten_bad (HV.out) HBZ.out
theorem mget_chunk (A:Option Addr) (c:Nat) (b m:List UInt8) (s1:ES) (w:World) (hr:RB w w.heap.size A b) (hc:b.length≤c) (hl:b.length < 100000) (hm:opn b=some m) (h1:eyeN 6 (m,false)=(6,s1)):
 Calls Tryz.prog 23 #[.slice A b.length c] w fun e w'=>gotten w w' e m:=by
 obtain⟨w1,hw1,F1,hs1,hb1⟩:=mail_box w (.int .u8 0) (.int .u32 0) (.int .u8 0) (.int .i64 0) (.slice none 0 0) (.slice none 0 0) (.slice none 0 0)
 obtain⟨gx,hgx⟩:∃ q,q=w.heap.size:=⟨_,rfl⟩
 have Hgx:=hide hgx.symm
 have HF1:=hide F1
 rw [←hgx] at HF1
 have hO:=hide (open_any A c b w1 ((RD.below hr hb1).more hb1.size) hc hl)
 have Hm:=hide hm
 have H1:=hide h1
 clear hr hc hl hm h1 F1
 go_enter Tryz.func23,Tryz.ntmps23
 go_wp2_with fail
 rw [←hgx]
 rw [←hgx] at hs1
 clear hgx
 refine hO.out.mono ?_
 rintro e w2 ⟨ho,hb2⟩
 unfold opened at ho
 rw [Hm.out] at ho
 obtain⟨v,rfl,hown⟩:=ho
 obtain⟨A2,c2,rfl,hc2,hcm,hA2⟩:=own_slice hown
 have hAn:A2=none→c2=0:=fun h=>by subst h;exact own_none hown
 have hm9:m.length < 1073741824:=by have:=(opn_inv Hm.out).2;omega
 obtain⟨w3,hw3⟩:∃ q,w2.alloc (.cells #[.slice A2 m.length c2,.bool false] 94)=q:=⟨_,rfl⟩
 have hE3:EYE w3 w2.heap.size A2 m.length c2 false:=by rw [←hw3];exact heap_alloc_new _ _
 have hb3:Below w2.heap.size w2 w3:=by rw [←hw3];exact boxed _ _
 obtain⟨g,hg⟩:∃ q,q=w2.heap.size:=⟨_,rfl⟩
 have HE3:Hid (EY w3 g (m,false)):=hide (by rw [hg];exact⟨A2,c2,hE3,(RBT.of_own hown (Nat.le_refl _)).below hb3,hc2,hm9,hAn⟩)
 have HF3:=hide ((HF1.out.below hb2).below hb3)
 have HB3:=hide (fresh (fresh hb1 hb2) hb3)
 have Hbase:=hide (show g < w3.heap.size by have:=hE3.lt;omega)
 have Hgg:=hide (show gx < g by have:=hb2.size;omega)
 obtain⟨base,hbase⟩:∃ q,q=w3.heap.size:=⟨_,rfl⟩
 have HS3:=hide (Nat.le_of_eq hbase)
 rw [←hbase] at Hbase
 obtain⟨mn,hmn⟩:∃ q,q=m.length:=⟨_,rfl⟩
 rw [←hmn] at hw3 ⊢
 clear hb1 hb2 hb3 hE3 hown hc2 hA2 hcm hAn hm9 HF1 hO hbase hs1 hmn
 go_wp2_with fail
 rw [←hg]
 clear hg hw3 hw1
 refine (eye_at g 6 (m,false) w3 HE3.out 6 s1 H1.out (by decide)).mono ?_
 rintro e w4 ⟨rfl,hE4,ho4,-,-⟩
 have HE4:=hide hE4
 have HF4:=hide (HF3.out.only ho4 (Nat.ne_of_lt Hgg.out))
 have HB4:=hide (HB3.out.trans (ho4.low (Nat.le_of_lt (by have:=Hgx.out;have:=Hgg.out;omega))))
 have HS4:=hide (Nat.le_trans HS3.out ho4.1.size)
 clear hE4 ho4 HE3 HF3 HB3 HS3
 obtain⟨y0,y1,y2,y3,y4,y5,y6⟩:=HF4.out.cells
 have f0:=(HF4.out).fr 0
 go_wp2_with fail
 obtain⟨w5,hw5⟩:∃ q,(w4).setCell ⟨gx,0,none⟩ (.int .u8 6)=q:=⟨_,rfl⟩
 have HF5:Hid (MB w5 gx (.int .u8 6) (.int .u32 0) (.int .u8 0) (.int .i64 0) (.slice none 0 0) (.slice none 0 0) (.slice none 0 0)):=hide (by rw [←hw5];exact (HF4.out).set0 (.int .u8 6))
 have HE5:Hid (EY w5 g _):=hide (by rw [←hw5];exact (HE4.out).setO (HF4.out) (by decide) (Nat.ne_of_gt Hgg.out) 0 (.int .u8 6))
 have HB5:Hid (Below w.heap.size w w5):=hide (by rw [←hw5];exact (HB4.out).setCell (Nat.le_of_eq Hgx.out) _)
 have HS5:Hid (base≤w5.heap.size):=hide (by rw [←hw5];simpa using HS4.out)
 rw [hw5]
 clear hw5 y0 y1 y2 y3 y4 y5 y6 f0 HF4 HE4 HB4 HS4
 obtain⟨⟨t,r⟩,s2,h9⟩:∃ a b,eyeS s1=(a,b):=⟨_,_,rfl⟩
 have H2:=hide h9
 clear h9
 obtain⟨x,s3,h9⟩:∃ a b,eyeN 127 s2=(a,b):=⟨_,_,rfl⟩
 have H3:=hide h9
 clear h9
 obtain⟨OP,sf,h9⟩:∃ a b,eyeO s3=(a,b):=⟨_,_,rfl⟩
 have H4:=hide h9
 clear h9
 refine (eyestamp g s1 w5 HE5.out t r s2 H2.out).mono ?_
 rintro e w6 ⟨rfl,hE,ho,t0,t1,r0,r1⟩
 have Htr:=hide (And.intro t0 (And.intro t1 (And.intro r0 r1)))
 clear t0 t1 r0 r1
 have HE6:=hide hE
 have HF6:=hide (HF5.out.only ho (Nat.ne_of_lt Hgg.out))
 have HB6:=hide (HB5.out.trans (ho.low (Nat.le_of_lt (by have:=Hgx.out;have:=Hgg.out;omega))))
 have HS6:=hide (Nat.le_trans HS5.out ho.1.size)
 clear hE ho HE5 HF5 HB5 HS5
 obtain⟨y0,y1,y2,y3,y4,y5,y6⟩:=HF6.out.cells
 have f0:=(HF6.out).fr 1
 have f1:=((HF6.out).set1 (.int .u32 t)).fr 2
 go_wp2_with fail
 obtain⟨w7,hw7⟩:∃ q,((w6).setCell ⟨gx,1,none⟩ (.int .u32 t)).setCell ⟨gx,2,none⟩ (.int .u8 r)=q:=⟨_,rfl⟩
 have HF7:Hid (MB w7 gx (.int .u8 6) (.int .u32 t) (.int .u8 r) (.int .i64 0) (.slice none 0 0) (.slice none 0 0) (.slice none 0 0)):=hide (by rw [←hw7];exact ((HF6.out).set1 (.int .u32 t)).set2 (.int .u8 r))
 have HE7:Hid (EY w7 g _):=hide (by rw [←hw7];exact ((HE6.out).setO (HF6.out) (by decide) (Nat.ne_of_gt Hgg.out) 1 (.int .u32 t)).setO ((HF6.out).set1 (.int .u32 t)) (by decide) (Nat.ne_of_gt Hgg.out) 2 (.int .u8 r))
 have HB7:Hid (Below w.heap.size w w7):=hide (by rw [←hw7];exact ((HB6.out).setCell (Nat.le_of_eq Hgx.out) _).setCell (Nat.le_of_eq Hgx.out) _)
 have HS7:Hid (base≤w7.heap.size):=hide (by rw [←hw7];simpa using HS6.out)
 rw [hw7]
 clear hw7 y0 y1 y2 y3 y4 y5 y6 f0 f1 HF6 HE6 HB6 HS6
 refine (eye_at g 127 s2 w7 HE7.out x s3 H3.out (by decide)).mono ?_
 rintro e w8 ⟨rfl,hE,ho,x0,x1⟩
 have Hx01:=hide (And.intro x0 x1)
 clear x0 x1
 have HE8:=hide hE
 have HF8:=hide (HF7.out.only ho (Nat.ne_of_lt Hgg.out))
 have HB8:=hide (HB7.out.trans (ho.low (Nat.le_of_lt (by have:=Hgx.out;have:=Hgg.out;omega))))
 have HS8:=hide (Nat.le_trans HS7.out ho.1.size)
 clear hE ho HE7 HF7 HB7 HS7
 obtain⟨y0,y1,y2,y3,y4,y5,y6⟩:=HF8.out.cells
 have f0:=(HF8.out).fr 3
 go_wp2_with fail
 obtain⟨w9,hw9⟩:∃ q,(w8).setCell ⟨gx,3,none⟩ (.int .i64 x)=q:=⟨_,rfl⟩
 have HF9:Hid (MB w9 gx (.int .u8 6) (.int .u32 t) (.int .u8 r) (.int .i64 x) (.slice none 0 0) (.slice none 0 0) (.slice none 0 0)):=hide (by rw [←hw9];exact (HF8.out).set3 (.int .i64 x))
 have HE9:Hid (EY w9 g _):=hide (by rw [←hw9];exact (HE8.out).setO (HF8.out) (by decide) (Nat.ne_of_gt Hgg.out) 3 (.int .i64 x))
 have HB9:Hid (Below w.heap.size w w9):=hide (by rw [←hw9];exact (HB8.out).setCell (Nat.le_of_eq Hgx.out) _)
 have HS9:Hid (base≤w9.heap.size):=hide (by rw [←hw9];simpa using HS8.out)
 rw [hw9]
 clear hw9 y0 y1 y2 y3 y4 y5 y6 f0 HF8 HE8 HB8 HS8
 refine (eyeops g s3 w9 HE9.out OP sf H4.out).mono ?_
 rintro e w10 ⟨oA,oc,o,rfl,ho9,hO9,hE,ho⟩
 have HO10:=hide (hO9.lessB HS9.out)
 have Ho:=hide ho9
 obtain⟨no,eno⟩:∃ q,q=List.length (α:=OpL) o:=⟨_,rfl⟩
 have Eno:=hide eno
 rw [←eno]
 clear ho9 hO9 eno
 have HE10:=hide hE
 have HF10:=hide (HF9.out.only ho (Nat.ne_of_lt Hgg.out))
 have HB10:=hide (HB9.out.trans (ho.low (Nat.le_of_lt (by have:=Hgx.out;have:=Hgg.out;omega))))
 have HS10:=hide (Nat.le_trans HS9.out ho.1.size)
 clear hE ho HE9 HF9 HB9 HS9
 obtain⟨p0,p1,p2,p3,p4,p5,p6⟩:=HF10.out.cells
 have pf0:=(HF10.out).fr 5
 obtain⟨wN,hwN⟩:∃ q,(w10).setCell ⟨gx,5,none⟩ (.slice oA no oc)=q:=⟨_,rfl⟩
 have HFN:Hid (MB wN gx (.int .u8 6) (.int .u32 t) (.int .u8 r) (.int .i64 x) (.slice none 0 0) (.slice oA no oc) (.slice none 0 0)):=hide (by rw [←hwN];exact (HF10.out).set5 (.slice oA no oc))
 have HEN:Hid (EY wN g _):=hide (by rw [←hwN];exact (HE10.out).setO (HF10.out) (by decide) (Nat.ne_of_gt Hgg.out) 5 (.slice oA no oc))
 have HBN:Hid (Below w.heap.size w wN):=hide (by rw [←hwN];exact (HB10.out).setCell (Nat.le_of_eq Hgx.out) _)
 have HSN:Hid (base≤wN.heap.size):=hide (by rw [←hwN];simpa using HS10.out)
 have HON:Hid (OO wN base oA oc o):=hide (by rw [←hwN];exact (HO10.out).setO (HF10.out) (by decide) (by decide) 5 (.slice oA no oc))
 clear HF10 HE10 HB10 HS10 HO10
 obtain⟨xL,hxL⟩:∃ q:MlL,q=⟨6,t,r,x,none,0, [],oA,oc,o,none,0, []⟩:=⟨_,rfl⟩
 have Hxv:Hid (xL.val=mlv 6 t r x (.slice none 0 0) (.slice oA no oc) (.slice none 0 0)):=hide (by rw [hxL];rw [Eno.out];rfl)
 have HOK:Hid (okM xL):=hide (by rw [hxL];exact⟨(by obtain⟨a,b,c,d⟩:=Htr.out;exact⟨a,by show t < 4294967296;omega,c,by show r≤255;omega⟩),⟨fun y hy=>(by cases hy),(fun y hy=>goodP_ok (by rw [Ho.out];have:=(eyeO_good s3).1;rwa [H4.out] at this) y hy),fun y hy=>(by cases hy)⟩,(by show (0:Nat) < 1073741824;decide),(by have h9:=(eyeO_good s3).2;rw [H4.out,←Ho.out,List.length_map] at h9;show o.length < 1073741824;omega),(by show (0:Nat) < 1073741824;decide)⟩)
 have HRM:Hid (RM wN wN.heap.size xL):=hide (by rw [hxL];exact⟨⟨RD.nil_,fun y hy=>(by cases hy)⟩,HON.out.ro,RW.nil _ _ _⟩)
 have HBD:Hid (bodyM (m,false)=(xL.mp,sf)):=hide (by rw [hxL];simp [bodyM,MlL.mp,H1.out,H2.out,H3.out,H4.out,Ho.out])
 have HEY:=HEN
 have HMB:=HFN
 have HBW:=HBN
 clear HEN HFN HBN HSN hxL H1 H2 H3 H4 Hm Ho Eno HON Htr Hx01
 obtain⟨zl,zb⟩:=sf
 obtain⟨zA,zc,hze,-⟩:=HEY.out
 obtain⟨e0,e1⟩:=hze.cells
 simp only at e0 e1
 obtain⟨zn,hzn⟩:∃ q,q=zl.length:=⟨_,rfl⟩
 rw [←hzn] at e0
 have Hzn:=hide hzn
 clear hze hzn
 cases zb with
 | true=>
   have HV:=hide (getB_bad HBD.out)
   obtain⟨f0,f1,f2,f3,f4,f5,f6,FZ,hbz⟩:=wipe HMB.out HBW.out (w:=w) (Nat.le_of_eq Hgx.out)
   obtain⟨y0,y1,y2,y3,y4,y5,y6⟩:=HMB.out.cells
   have HFZ:=hide FZ
   have HBZ:=hide hbz
   clear FZ hbz
   go_wp2_with fail
   obtain⟨v0,v1,v2,v3,v4,v5,v6⟩:=HFZ.out.cells
   refine bodyPost_ret (v:= .tuple #[mlv 0 0 0 0 (.slice none 0 0) (.slice none 0 0) (.slice none 0 0),.int .i64 8]) (by simp [results,Tryz.results23,go_sem,v0,v1,v2,v3,v4,v5,v6]) rfl ?_
   exact gotten_bad (HV.out) HBZ.out
 | false=>
   by_cases hzl:(0:Int) < zn
   ·have HV:=hide (getB_long HBD.out (by have:=Hzn.out;omega))
    have hzd:decide ((0:Int) < zn)=true:=decide_eq_true hzl
    have hze:decide (0 < zn)=true:=decide_eq_true (by omega)
    clear hzl
    obtain⟨f0,f1,f2,f3,f4,f5,f6,FZ,hbz⟩:=wipe HMB.out HBW.out (w:=w) (Nat.le_of_eq Hgx.out)
    obtain⟨y0,y1,y2,y3,y4,y5,y6⟩:=HMB.out.cells
    have HFZ:=hide FZ
    have HBZ:=hide hbz
    clear FZ hbz
    go_wp2_with fail
    obtain⟨v0,v1,v2,v3,v4,v5,v6⟩:=HFZ.out.cells
    refine bodyPost_ret (v:= .tuple #[mlv 0 0 0 0 (.slice none 0 0) (.slice none 0 0) (.slice none 0 0),.int .i64 8]) (by simp [results,Tryz.results23,go_sem,v0,v1,v2,v3,v4,v5,v6]) rfl ?_
    exact gotten_bad (HV.out) HBZ.out
   ·have hzd:decide ((0:Int) < zn)=false:=decide_eq_false hzl
    have hz0:zn=0:=by omega
    have HC:=hide (mcheck_any xL wN HRM.out HOK.out)
    rw [Hxv.out] at HC
    obtain⟨y0,y1,y2,y3,y4,y5,y6⟩:=HMB.out.cells
    by_cases hmay:mayM xL.mp
    ·have HV:=hide (getB_ok HBD.out (by rw [←Hzn.out];exact hz0) hmay)
     rw [show chkM xL.mp=0 from if_pos hmay] at HC
     clear hmay
     go_wp2_with fail
     refine HC.out.mono ?_
     rintro e wM ⟨rfl,hbM⟩
     have HMM:=hide (HMB.out.below hbM)
     have HBM:=hide (HBW.out.trans (hbM.mono HBW.out.size))
     have HRMM:=hide ((HRM.out.below hbM).more hbM.size)
     clear y0 y1 y2 y3 y4 y5 y6 e0 e1 p0 p1 p2 p3 p4 p5 p6 pf0 hwN
     obtain⟨y0,y1,y2,y3,y4,y5,y6⟩:=HMM.out.cells
     have f0:=HMM.out.fr 0
     have f1:=HMM.out.fr 1
     have f2:=HMM.out.fr 2
     have f3:=HMM.out.fr 3
     have f4:=HMM.out.fr 4
     have f5:=HMM.out.fr 5
     have f6:=HMM.out.fr 6
     have s0:=setCell_self y0
     have s1:=setCell_self y1
     have s2:=setCell_self y2
     have s3:=setCell_self y3
     have s4:=setCell_self y4
     have s5:=setCell_self y5
     have s6:=setCell_self y6
     go_wp2_with fail
     refine bodyPost_ret (v:= .tuple #[.agg #[.int .u8 6,.int .u32 t,.int .u8 r,.int .i64 x,.slice none 0 0,.slice oA no oc,.slice none 0 0],.int .i64 0]) (by simp [results,Tryz.results23,go_sem,y0,y1,y2,y3,y4,y5,y6]) rfl ?_
     exact gotten_ok HV.out (by rw [Hxv.out]) HRMM.out HOK.out HBM.out
    ·have HV:=hide (getB_not HBD.out hmay)
     rw [show chkM xL.mp=8 from if_neg hmay] at HC
     clear hmay
     go_wp2_with fail
     refine HC.out.mono ?_
     rintro e wM ⟨rfl,hbM⟩
     have HMM:=hide (HMB.out.below hbM)
     have HBM:=hide (HBW.out.trans (hbM.mono HBW.out.size))
     clear y0 y1 y2 y3 y4 y5 y6 e0 e1 p0 p1 p2 p3 p4 p5 p6 pf0 hwN
     obtain⟨f0,f1,f2,f3,f4,f5,f6,FZ,hbz⟩:=wipe HMM.out HBM.out (w:=w) (Nat.le_of_eq Hgx.out)
     obtain⟨y0,y1,y2,y3,y4,y5,y6⟩:=HMM.out.cells
     have HFZ:=hide FZ
     have HBZ:=hide hbz
     clear FZ hbz
     go_wp2_with fail
     obtain⟨v0,v1,v2,v3,v4,v5,v6⟩:=HFZ.out.cells
     refine bodyPost_ret (v:= .tuple #[mlv 0 0 0 0 (.slice none 0 0) (.slice none 0 0) (.slice none 0 0),.int .i64 8]) (by simp [results,Tryz.results23,go_sem,v0,v1,v2,v3,v4,v5,v6]) rfl ?_
     exact gotten_bad (HV.out) HBZ.out
end Go.Proofs.YtmkpfdcnikgokaaGreat
