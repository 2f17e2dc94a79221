/-
  Texts of this claim, put together: MayRef. What each theorem asks stands in its statement.
-/
import Derived.Test.YtmkpfdcnikgokaaGreatLt31
import Derived.Test.YtmkpfdcnikgokaaGreatLt44
set_option linter.unusedVariables false
set_option linter.unusedSimpArgs false
set_option maxRecDepth 100000
set_option maxHeartbeats 25600000
namespace Go.Proofs.YtmkpfdcnikgokaaGreat
open Go.RowKit
/-- Nothing but what its kind has, as only tells it. -/
def onlyB (m:MP) (bs bi bc bw bo:Bool):Bool:=(bs || decide (m.t=0∧m.r=0)) && (bi || decide (m.ix=0)) && (bc || decide (m.I.length=0)) && (bw || decide (m.W.length=0)) && (bo || decide (m.O.length=0))
theorem mayM_1 {m:MP} (hk:m.k=1):decide (mayM m)=((onlyB m false false false false true) && decide (someP m.O 64)):=by
 obtain⟨k,t,r,ix,I,O,W⟩:=m
 simp only at hk
 subst hk
 have e:mayM ⟨1,t,r,ix,I,O,W⟩↔isP ⟨1,t,r,ix,I,O,W⟩∧plP ⟨1,t,r,ix,I,O,W⟩=⟨1,t,r,ix,I,O,W⟩:=and_congr Iff.rfl samM_eq
 rw [Bool.eq_iff_iff,decide_eq_true_eq,e]
 simp only [onlyB,isP,plP,decide_eq_true_eq,Bool.and_eq_true,Bool.or_eq_true]
 constructor
 ·rintro ⟨h1,h2⟩
  simp at h1 h2
  simp_all <;> omega
 ·intro h
  simp at h
  simp_all
theorem mayM_4 {m:MP} (hk:m.k=4):decide (mayM m)=((onlyB m false false false false true) && decide (someP m.O 64)):=by
 obtain⟨k,t,r,ix,I,O,W⟩:=m
 simp only at hk
 subst hk
 have e:mayM ⟨4,t,r,ix,I,O,W⟩↔isP ⟨4,t,r,ix,I,O,W⟩∧plP ⟨4,t,r,ix,I,O,W⟩=⟨4,t,r,ix,I,O,W⟩:=and_congr Iff.rfl samM_eq
 rw [Bool.eq_iff_iff,decide_eq_true_eq,e]
 simp only [onlyB,isP,plP,decide_eq_true_eq,Bool.and_eq_true,Bool.or_eq_true]
 constructor
 ·rintro ⟨h1,h2⟩
  simp at h1 h2
  simp_all <;> omega
 ·intro h
  simp at h
  simp_all
theorem mayM_2 {m:MP} (hk:m.k=2):decide (mayM m)=((onlyB m false false true false false) && decide (idsP m.I)):=by
 obtain⟨k,t,r,ix,I,O,W⟩:=m
 simp only at hk
 subst hk
 have e:mayM ⟨2,t,r,ix,I,O,W⟩↔isP ⟨2,t,r,ix,I,O,W⟩∧plP ⟨2,t,r,ix,I,O,W⟩=⟨2,t,r,ix,I,O,W⟩:=and_congr Iff.rfl samM_eq
 rw [Bool.eq_iff_iff,decide_eq_true_eq,e]
 simp only [onlyB,isP,plP,decide_eq_true_eq,Bool.and_eq_true,Bool.or_eq_true]
 constructor
 ·rintro ⟨h1,h2⟩
  simp at h1 h2
  simp_all <;> omega
 ·intro h
  simp at h
  simp_all
theorem mayM_3 {m:MP} (hk:m.k=3):decide (mayM m)=(((onlyB m false false true true false) && decide (idsP m.I)) && decide (wantsP m.W)):=by
 obtain⟨k,t,r,ix,I,O,W⟩:=m
 simp only at hk
 subst hk
 have e:mayM ⟨3,t,r,ix,I,O,W⟩↔isP ⟨3,t,r,ix,I,O,W⟩∧plP ⟨3,t,r,ix,I,O,W⟩=⟨3,t,r,ix,I,O,W⟩:=and_congr Iff.rfl samM_eq
 rw [Bool.eq_iff_iff,decide_eq_true_eq,e]
 simp only [onlyB,isP,plP,decide_eq_true_eq,Bool.and_eq_true,Bool.or_eq_true]
 constructor
 ·rintro ⟨h1,h2⟩
  simp at h1 h2
  simp_all <;> omega
 ·intro h
  simp at h
  simp_all
theorem mayM_5 {m:MP} (hk:m.k=5):decide (mayM m)=(((onlyB m true false true false false) && decide (secI m.t m.r)) && decide (idsP m.I)):=by
 obtain⟨k,t,r,ix,I,O,W⟩:=m
 simp only at hk
 subst hk
 have e:mayM ⟨5,t,r,ix,I,O,W⟩↔isP ⟨5,t,r,ix,I,O,W⟩∧plP ⟨5,t,r,ix,I,O,W⟩=⟨5,t,r,ix,I,O,W⟩:=and_congr Iff.rfl samM_eq
 rw [Bool.eq_iff_iff,decide_eq_true_eq,e]
 simp only [onlyB,isP,plP,decide_eq_true_eq,Bool.and_eq_true,Bool.or_eq_true]
 constructor
 ·rintro ⟨h1,h2⟩
  simp at h1 h2
  simp_all <;> omega
 ·intro h
  simp at h
  simp_all
theorem mayM_6 {m:MP} (hk:m.k=6):decide (mayM m)=(((((onlyB m true true false false true) && decide (secI m.t m.r)) && decide (0≤m.ix)) && decide (m.ix < 128)) && decide (someP m.O 8)):=by
 obtain⟨k,t,r,ix,I,O,W⟩:=m
 simp only at hk
 subst hk
 have e:mayM ⟨6,t,r,ix,I,O,W⟩↔isP ⟨6,t,r,ix,I,O,W⟩∧plP ⟨6,t,r,ix,I,O,W⟩=⟨6,t,r,ix,I,O,W⟩:=and_congr Iff.rfl samM_eq
 rw [Bool.eq_iff_iff,decide_eq_true_eq,e]
 simp only [onlyB,isP,plP,decide_eq_true_eq,Bool.and_eq_true,Bool.or_eq_true]
 constructor
 ·rintro ⟨h1,h2⟩
  simp at h1 h2
  simp_all <;> omega
 ·intro h
  simp at h
  simp_all
theorem ronly_m (x:MlL) (bs bi bc bw bo:Bool) (w:World):Calls Tryz.prog 88 #[x.val,.bool bs,.bool bi,.bool bc,.bool bw,.bool bo] w fun e w'=>e= .returned (.bool (onlyB x.mp bs bi bc bw bo))∧Below w.heap.size w w':=by
 have h:=ronly_any x.k x.t x.r x.ix x.iA x.oA x.sA x.i.length x.ic x.o.length x.oc x.s.length x.sc bs bi bc bw bo w
 exact h.mono fun e w' k=>⟨k.1.trans (by simp only [onlyB,MlL.mp,List.length_map];congr),k.2⟩
theorem rmay_1 (x:MlL) (w:World) (hr:RM w w.heap.size x) (ok:okM x) (hk:x.k=1):Calls Tryz.prog 53 #[x.val] w fun e w'=>e= .returned (.bool (decide (mayM x.mp)))∧Below w.heap.size w w':=by
 obtain⟨kk,t,r,ix,iA,ic,i,oA,oc,o,sA,sc,s⟩:=x
 simp only at hk
 subst hk
 have HD:=hide (mayM_1 (m:=MlL.mp ⟨1,t,r,ix,iA,ic,i,oA,oc,o,sA,sc,s⟩) rfl)
 have up:∀ W,Below w.heap.size w W→RM W W.heap.size ⟨1,t,r,ix,iA,ic,i,oA,oc,o,sA,sc,s⟩:=fun W hb=>(hr.below hb).more hb.size
 obtain⟨w1,hw1,F1,hs1,hb1⟩:=mail_box w (.int .u8 1) (.int .u32 t) (.int .u8 r) (.int .i64 ix) (.slice iA i.length ic) (.slice oA o.length oc) (.slice sA s.length sc)
 obtain⟨a0,a1,a2,a3,a4,a5,a6⟩:=F1.cells
 have HF1:=hide F1
 have c0:=ronly_m ⟨1,t,r,ix,iA,ic,i,oA,oc,o,sA,sc,s⟩ false false false false true w1
 simp only [MlL.val] at c0 ⊢
 have C0:=hide c0
 clear c0
 obtain⟨ob,hob⟩:∃ q,onlyB (MlL.mp ⟨1,t,r,ix,iA,ic,i,oA,oc,o,sA,sc,s⟩) false false false false true=q:=⟨_,rfl⟩
 rw [hob] at C0 HD
 have Cops64:=hide (fun W (hb:Below w.heap.size w W)=>rops_any oA o.length oc o 64 W (up W hb).2.1 rfl ok.2.2.2.1 ok.2.1.2.1)
 obtain⟨pops64,hops64⟩:∃ q,decide (someP (o.map OpL.op) 64)=q:=⟨_,rfl⟩
 have HD2:=hide (HD.out.trans (show _=_ by rw [show decide (someP (MlL.mp ⟨1,t,r,ix,iA,ic,i,oA,oc,o,sA,sc,s⟩).O 64)=pops64 from hops64]))
 rw [hops64] at Cops64
 clear HD
 have HD:=HD2
 clear HD2 hops64
 clear up hr ok hob F1
 go_enter Tryz.func53,Tryz.ntmps53
 go_wp2_with fail
 refine C0.out.mono ?_
 rintro e w2 ⟨rfl,hb2⟩
 clear a0 a1 a2 a3 a4 a5 a6
 obtain⟨a0,a1,a2,a3,a4,a5,a6⟩:=(HF1.out.below hb2).cells
 cases ob with
 | false=>
   go_wp2_with fail
   go_ret
   exact⟨by rw [HD.out];first | rfl | (simp [MlL.mp];done) | (simp [MlL.mp,hge,hlt];done) | (simp [MlL.mp,hge];done),fresh hb1 hb2⟩
 | true=>
   go_wp2_with fail
   refine (Cops64.out _ (fresh hb1 hb2)).mono ?_
   rintro e w3 ⟨rfl,hx3⟩
   have hb3:=fresh hb2 hx3
   clear a0 a1 a2 a3 a4 a5 a6
   obtain⟨a0,a1,a2,a3,a4,a5,a6⟩:=(HF1.out.below hb3).cells
   cases pops64 with
   | false=>
     go_wp2_with fail
     go_ret
     exact⟨by rw [HD.out];first | rfl | (simp [MlL.mp];done) | (simp [MlL.mp,hge,hlt];done) | (simp [MlL.mp,hge];done),fresh hb1 hb3⟩
   | true=>
     go_wp2_with fail
     go_ret
     exact⟨by rw [HD.out];first | rfl | (simp [MlL.mp];done) | (simp [MlL.mp,hge,hlt];done) | (simp [MlL.mp,hge];done),fresh hb1 hb3⟩
theorem rmay_4 (x:MlL) (w:World) (hr:RM w w.heap.size x) (ok:okM x) (hk:x.k=4):Calls Tryz.prog 53 #[x.val] w fun e w'=>e= .returned (.bool (decide (mayM x.mp)))∧Below w.heap.size w w':=by
 obtain⟨kk,t,r,ix,iA,ic,i,oA,oc,o,sA,sc,s⟩:=x
 simp only at hk
 subst hk
 have HD:=hide (mayM_4 (m:=MlL.mp ⟨4,t,r,ix,iA,ic,i,oA,oc,o,sA,sc,s⟩) rfl)
 have up:∀ W,Below w.heap.size w W→RM W W.heap.size ⟨4,t,r,ix,iA,ic,i,oA,oc,o,sA,sc,s⟩:=fun W hb=>(hr.below hb).more hb.size
 obtain⟨w1,hw1,F1,hs1,hb1⟩:=mail_box w (.int .u8 4) (.int .u32 t) (.int .u8 r) (.int .i64 ix) (.slice iA i.length ic) (.slice oA o.length oc) (.slice sA s.length sc)
 obtain⟨a0,a1,a2,a3,a4,a5,a6⟩:=F1.cells
 have HF1:=hide F1
 have c0:=ronly_m ⟨4,t,r,ix,iA,ic,i,oA,oc,o,sA,sc,s⟩ false false false false true w1
 simp only [MlL.val] at c0 ⊢
 have C0:=hide c0
 clear c0
 obtain⟨ob,hob⟩:∃ q,onlyB (MlL.mp ⟨4,t,r,ix,iA,ic,i,oA,oc,o,sA,sc,s⟩) false false false false true=q:=⟨_,rfl⟩
 rw [hob] at C0 HD
 have Cops64:=hide (fun W (hb:Below w.heap.size w W)=>rops_any oA o.length oc o 64 W (up W hb).2.1 rfl ok.2.2.2.1 ok.2.1.2.1)
 obtain⟨pops64,hops64⟩:∃ q,decide (someP (o.map OpL.op) 64)=q:=⟨_,rfl⟩
 have HD2:=hide (HD.out.trans (show _=_ by rw [show decide (someP (MlL.mp ⟨4,t,r,ix,iA,ic,i,oA,oc,o,sA,sc,s⟩).O 64)=pops64 from hops64]))
 rw [hops64] at Cops64
 clear HD
 have HD:=HD2
 clear HD2 hops64
 clear up hr ok hob F1
 go_enter Tryz.func53,Tryz.ntmps53
 go_wp2_with fail
 refine C0.out.mono ?_
 rintro e w2 ⟨rfl,hb2⟩
 clear a0 a1 a2 a3 a4 a5 a6
 obtain⟨a0,a1,a2,a3,a4,a5,a6⟩:=(HF1.out.below hb2).cells
 cases ob with
 | false=>
   go_wp2_with fail
   go_ret
   exact⟨by rw [HD.out];first | rfl | (simp [MlL.mp];done) | (simp [MlL.mp,hge,hlt];done) | (simp [MlL.mp,hge];done),fresh hb1 hb2⟩
 | true=>
   go_wp2_with fail
   refine (Cops64.out _ (fresh hb1 hb2)).mono ?_
   rintro e w3 ⟨rfl,hx3⟩
   have hb3:=fresh hb2 hx3
   clear a0 a1 a2 a3 a4 a5 a6
   obtain⟨a0,a1,a2,a3,a4,a5,a6⟩:=(HF1.out.below hb3).cells
   cases pops64 with
   | false=>
     go_wp2_with fail
     go_ret
     exact⟨by rw [HD.out];first | rfl | (simp [MlL.mp];done) | (simp [MlL.mp,hge,hlt];done) | (simp [MlL.mp,hge];done),fresh hb1 hb3⟩
   | true=>
     go_wp2_with fail
     go_ret
     exact⟨by rw [HD.out];first | rfl | (simp [MlL.mp];done) | (simp [MlL.mp,hge,hlt];done) | (simp [MlL.mp,hge];done),fresh hb1 hb3⟩
theorem rmay_2 (x:MlL) (w:World) (hr:RM w w.heap.size x) (ok:okM x) (hk:x.k=2):Calls Tryz.prog 53 #[x.val] w fun e w'=>e= .returned (.bool (decide (mayM x.mp)))∧Below w.heap.size w w':=by
 obtain⟨kk,t,r,ix,iA,ic,i,oA,oc,o,sA,sc,s⟩:=x
 simp only at hk
 subst hk
 have HD:=hide (mayM_2 (m:=MlL.mp ⟨2,t,r,ix,iA,ic,i,oA,oc,o,sA,sc,s⟩) rfl)
 have up:∀ W,Below w.heap.size w W→RM W W.heap.size ⟨2,t,r,ix,iA,ic,i,oA,oc,o,sA,sc,s⟩:=fun W hb=>(hr.below hb).more hb.size
 obtain⟨w1,hw1,F1,hs1,hb1⟩:=mail_box w (.int .u8 2) (.int .u32 t) (.int .u8 r) (.int .i64 ix) (.slice iA i.length ic) (.slice oA o.length oc) (.slice sA s.length sc)
 obtain⟨a0,a1,a2,a3,a4,a5,a6⟩:=F1.cells
 have HF1:=hide F1
 have c0:=ronly_m ⟨2,t,r,ix,iA,ic,i,oA,oc,o,sA,sc,s⟩ false false true false false w1
 simp only [MlL.val] at c0 ⊢
 have C0:=hide c0
 clear c0
 obtain⟨ob,hob⟩:∃ q,onlyB (MlL.mp ⟨2,t,r,ix,iA,ic,i,oA,oc,o,sA,sc,s⟩) false false true false false=q:=⟨_,rfl⟩
 rw [hob] at C0 HD
 have Cids:=hide (fun W (hb:Below w.heap.size w W)=>rids_any iA i.length ic i W (up W hb).1 rfl ok.2.1.1 ok.2.2.1)
 obtain⟨pids,hids⟩:∃ q,decide (idsP (i.map TmL.pt))=q:=⟨_,rfl⟩
 have HD2:=hide (HD.out.trans (show _=_ by rw [show decide (idsP (MlL.mp ⟨2,t,r,ix,iA,ic,i,oA,oc,o,sA,sc,s⟩).I)=pids from hids]))
 rw [hids] at Cids
 clear HD
 have HD:=HD2
 clear HD2 hids
 clear up hr ok hob F1
 go_enter Tryz.func53,Tryz.ntmps53
 go_wp2_with fail
 refine C0.out.mono ?_
 rintro e w2 ⟨rfl,hb2⟩
 clear a0 a1 a2 a3 a4 a5 a6
 obtain⟨a0,a1,a2,a3,a4,a5,a6⟩:=(HF1.out.below hb2).cells
 cases ob with
 | false=>
   go_wp2_with fail
   go_ret
   exact⟨by rw [HD.out];first | rfl | (simp [MlL.mp];done) | (simp [MlL.mp,hge,hlt];done) | (simp [MlL.mp,hge];done),fresh hb1 hb2⟩
 | true=>
   go_wp2_with fail
   refine (Cids.out _ (fresh hb1 hb2)).mono ?_
   rintro e w3 ⟨rfl,hx3⟩
   have hb3:=fresh hb2 hx3
   clear a0 a1 a2 a3 a4 a5 a6
   obtain⟨a0,a1,a2,a3,a4,a5,a6⟩:=(HF1.out.below hb3).cells
   cases pids with
   | false=>
     go_wp2_with fail
     go_ret
     exact⟨by rw [HD.out];first | rfl | (simp [MlL.mp];done) | (simp [MlL.mp,hge,hlt];done) | (simp [MlL.mp,hge];done),fresh hb1 hb3⟩
   | true=>
     go_wp2_with fail
     go_ret
     exact⟨by rw [HD.out];first | rfl | (simp [MlL.mp];done) | (simp [MlL.mp,hge,hlt];done) | (simp [MlL.mp,hge];done),fresh hb1 hb3⟩
theorem rmay_3 (x:MlL) (w:World) (hr:RM w w.heap.size x) (ok:okM x) (hk:x.k=3):Calls Tryz.prog 53 #[x.val] w fun e w'=>e= .returned (.bool (decide (mayM x.mp)))∧Below w.heap.size w w':=by
 obtain⟨kk,t,r,ix,iA,ic,i,oA,oc,o,sA,sc,s⟩:=x
 simp only at hk
 subst hk
 have HD:=hide (mayM_3 (m:=MlL.mp ⟨3,t,r,ix,iA,ic,i,oA,oc,o,sA,sc,s⟩) rfl)
 have up:∀ W,Below w.heap.size w W→RM W W.heap.size ⟨3,t,r,ix,iA,ic,i,oA,oc,o,sA,sc,s⟩:=fun W hb=>(hr.below hb).more hb.size
 obtain⟨w1,hw1,F1,hs1,hb1⟩:=mail_box w (.int .u8 3) (.int .u32 t) (.int .u8 r) (.int .i64 ix) (.slice iA i.length ic) (.slice oA o.length oc) (.slice sA s.length sc)
 obtain⟨a0,a1,a2,a3,a4,a5,a6⟩:=F1.cells
 have HF1:=hide F1
 have c0:=ronly_m ⟨3,t,r,ix,iA,ic,i,oA,oc,o,sA,sc,s⟩ false false true true false w1
 simp only [MlL.val] at c0 ⊢
 have C0:=hide c0
 clear c0
 obtain⟨ob,hob⟩:∃ q,onlyB (MlL.mp ⟨3,t,r,ix,iA,ic,i,oA,oc,o,sA,sc,s⟩) false false true true false=q:=⟨_,rfl⟩
 rw [hob] at C0 HD
 have Cids:=hide (fun W (hb:Below w.heap.size w W)=>rids_any iA i.length ic i W (up W hb).1 rfl ok.2.1.1 ok.2.2.1)
 obtain⟨pids,hids⟩:∃ q,decide (idsP (i.map TmL.pt))=q:=⟨_,rfl⟩
 have HD2:=hide (HD.out.trans (show _=_ by rw [show decide (idsP (MlL.mp ⟨3,t,r,ix,iA,ic,i,oA,oc,o,sA,sc,s⟩).I)=pids from hids]))
 rw [hids] at Cids
 clear HD
 have HD:=HD2
 clear HD2 hids
 have Cwants:=hide (fun W (hb:Below w.heap.size w W)=>rwants_any sA s.length sc s W (up W hb).2.2 rfl ok.2.2.2.2 ok.2.1.2.2)
 obtain⟨pwants,hwants⟩:∃ q,decide (wantsP (s.map WsL.wp))=q:=⟨_,rfl⟩
 have HD2:=hide (HD.out.trans (show _=_ by rw [show decide (wantsP (MlL.mp ⟨3,t,r,ix,iA,ic,i,oA,oc,o,sA,sc,s⟩).W)=pwants from hwants]))
 rw [hwants] at Cwants
 clear HD
 have HD:=HD2
 clear HD2 hwants
 clear up hr ok hob F1
 go_enter Tryz.func53,Tryz.ntmps53
 go_wp2_with fail
 refine C0.out.mono ?_
 rintro e w2 ⟨rfl,hb2⟩
 clear a0 a1 a2 a3 a4 a5 a6
 obtain⟨a0,a1,a2,a3,a4,a5,a6⟩:=(HF1.out.below hb2).cells
 cases ob with
 | false=>
   go_wp2_with fail
   go_ret
   exact⟨by rw [HD.out];first | rfl | (simp [MlL.mp];done) | (simp [MlL.mp,hge,hlt];done) | (simp [MlL.mp,hge];done),fresh hb1 hb2⟩
 | true=>
   go_wp2_with fail
   refine (Cids.out _ (fresh hb1 hb2)).mono ?_
   rintro e w3 ⟨rfl,hx3⟩
   have hb3:=fresh hb2 hx3
   clear a0 a1 a2 a3 a4 a5 a6
   obtain⟨a0,a1,a2,a3,a4,a5,a6⟩:=(HF1.out.below hb3).cells
   cases pids with
   | false=>
     go_wp2_with fail
     go_ret
     exact⟨by rw [HD.out];first | rfl | (simp [MlL.mp];done) | (simp [MlL.mp,hge,hlt];done) | (simp [MlL.mp,hge];done),fresh hb1 hb3⟩
   | true=>
     go_wp2_with fail
     refine (Cwants.out _ (fresh hb1 hb3)).mono ?_
     rintro e w4 ⟨rfl,hx4⟩
     have hb4:=fresh hb3 hx4
     clear a0 a1 a2 a3 a4 a5 a6
     obtain⟨a0,a1,a2,a3,a4,a5,a6⟩:=(HF1.out.below hb4).cells
     cases pwants with
     | false=>
       go_wp2_with fail
       go_ret
       exact⟨by rw [HD.out];first | rfl | (simp [MlL.mp];done) | (simp [MlL.mp,hge,hlt];done) | (simp [MlL.mp,hge];done),fresh hb1 hb4⟩
     | true=>
       go_wp2_with fail
       go_ret
       exact⟨by rw [HD.out];first | rfl | (simp [MlL.mp];done) | (simp [MlL.mp,hge,hlt];done) | (simp [MlL.mp,hge];done),fresh hb1 hb4⟩
theorem rmay_5 (x:MlL) (w:World) (hr:RM w w.heap.size x) (ok:okM x) (hk:x.k=5):Calls Tryz.prog 53 #[x.val] w fun e w'=>e= .returned (.bool (decide (mayM x.mp)))∧Below w.heap.size w w':=by
 obtain⟨kk,t,r,ix,iA,ic,i,oA,oc,o,sA,sc,s⟩:=x
 simp only at hk
 subst hk
 have HD:=hide (mayM_5 (m:=MlL.mp ⟨5,t,r,ix,iA,ic,i,oA,oc,o,sA,sc,s⟩) rfl)
 have up:∀ W,Below w.heap.size w W→RM W W.heap.size ⟨5,t,r,ix,iA,ic,i,oA,oc,o,sA,sc,s⟩:=fun W hb=>(hr.below hb).more hb.size
 obtain⟨w1,hw1,F1,hs1,hb1⟩:=mail_box w (.int .u8 5) (.int .u32 t) (.int .u8 r) (.int .i64 ix) (.slice iA i.length ic) (.slice oA o.length oc) (.slice sA s.length sc)
 obtain⟨a0,a1,a2,a3,a4,a5,a6⟩:=F1.cells
 have HF1:=hide F1
 have c0:=ronly_m ⟨5,t,r,ix,iA,ic,i,oA,oc,o,sA,sc,s⟩ true false true false false w1
 simp only [MlL.val] at c0 ⊢
 have C0:=hide c0
 clear c0
 obtain⟨ob,hob⟩:∃ q,onlyB (MlL.mp ⟨5,t,r,ix,iA,ic,i,oA,oc,o,sA,sc,s⟩) true false true false false=q:=⟨_,rfl⟩
 rw [hob] at C0 HD
 have Csec:=hide (fun W (hb:Below w.heap.size w W)=>rsection_any t r W)
 obtain⟨psec,hsec⟩:∃ q,decide (secI t r)=q:=⟨_,rfl⟩
 have HD2:=hide (HD.out.trans (show _=_ by rw [show decide (secI (MlL.mp ⟨5,t,r,ix,iA,ic,i,oA,oc,o,sA,sc,s⟩).t (MlL.mp ⟨5,t,r,ix,iA,ic,i,oA,oc,o,sA,sc,s⟩).r)=psec from hsec]))
 rw [hsec] at Csec
 clear HD
 have HD:=HD2
 clear HD2 hsec
 have Cids:=hide (fun W (hb:Below w.heap.size w W)=>rids_any iA i.length ic i W (up W hb).1 rfl ok.2.1.1 ok.2.2.1)
 obtain⟨pids,hids⟩:∃ q,decide (idsP (i.map TmL.pt))=q:=⟨_,rfl⟩
 have HD2:=hide (HD.out.trans (show _=_ by rw [show decide (idsP (MlL.mp ⟨5,t,r,ix,iA,ic,i,oA,oc,o,sA,sc,s⟩).I)=pids from hids]))
 rw [hids] at Cids
 clear HD
 have HD:=HD2
 clear HD2 hids
 clear up hr ok hob F1
 go_enter Tryz.func53,Tryz.ntmps53
 go_wp2_with fail
 refine C0.out.mono ?_
 rintro e w2 ⟨rfl,hb2⟩
 clear a0 a1 a2 a3 a4 a5 a6
 obtain⟨a0,a1,a2,a3,a4,a5,a6⟩:=(HF1.out.below hb2).cells
 cases ob with
 | false=>
   go_wp2_with fail
   go_ret
   exact⟨by rw [HD.out];first | rfl | (simp [MlL.mp];done) | (simp [MlL.mp,hge,hlt];done) | (simp [MlL.mp,hge];done),fresh hb1 hb2⟩
 | true=>
   go_wp2_with fail
   refine (Csec.out _ (fresh hb1 hb2)).mono ?_
   rintro e w3 ⟨rfl,hx3⟩
   have hb3:=fresh hb2 hx3
   clear a0 a1 a2 a3 a4 a5 a6
   obtain⟨a0,a1,a2,a3,a4,a5,a6⟩:=(HF1.out.below hb3).cells
   cases psec with
   | false=>
     go_wp2_with fail
     go_ret
     exact⟨by rw [HD.out];first | rfl | (simp [MlL.mp];done) | (simp [MlL.mp,hge,hlt];done) | (simp [MlL.mp,hge];done),fresh hb1 hb3⟩
   | true=>
     go_wp2_with fail
     refine (Cids.out _ (fresh hb1 hb3)).mono ?_
     rintro e w4 ⟨rfl,hx4⟩
     have hb4:=fresh hb3 hx4
     clear a0 a1 a2 a3 a4 a5 a6
     obtain⟨a0,a1,a2,a3,a4,a5,a6⟩:=(HF1.out.below hb4).cells
     cases pids with
     | false=>
       go_wp2_with fail
       go_ret
       exact⟨by rw [HD.out];first | rfl | (simp [MlL.mp];done) | (simp [MlL.mp,hge,hlt];done) | (simp [MlL.mp,hge];done),fresh hb1 hb4⟩
     | true=>
       go_wp2_with fail
       go_ret
       exact⟨by rw [HD.out];first | rfl | (simp [MlL.mp];done) | (simp [MlL.mp,hge,hlt];done) | (simp [MlL.mp,hge];done),fresh hb1 hb4⟩
theorem rmay_6 (x:MlL) (w:World) (hr:RM w w.heap.size x) (ok:okM x) (hk:x.k=6):Calls Tryz.prog 53 #[x.val] w fun e w'=>e= .returned (.bool (decide (mayM x.mp)))∧Below w.heap.size w w':=by
 obtain⟨kk,t,r,ix,iA,ic,i,oA,oc,o,sA,sc,s⟩:=x
 simp only at hk
 subst hk
 have HD:=hide (mayM_6 (m:=MlL.mp ⟨6,t,r,ix,iA,ic,i,oA,oc,o,sA,sc,s⟩) rfl)
 have up:∀ W,Below w.heap.size w W→RM W W.heap.size ⟨6,t,r,ix,iA,ic,i,oA,oc,o,sA,sc,s⟩:=fun W hb=>(hr.below hb).more hb.size
 obtain⟨w1,hw1,F1,hs1,hb1⟩:=mail_box w (.int .u8 6) (.int .u32 t) (.int .u8 r) (.int .i64 ix) (.slice iA i.length ic) (.slice oA o.length oc) (.slice sA s.length sc)
 obtain⟨a0,a1,a2,a3,a4,a5,a6⟩:=F1.cells
 have HF1:=hide F1
 have c0:=ronly_m ⟨6,t,r,ix,iA,ic,i,oA,oc,o,sA,sc,s⟩ true true false false true w1
 simp only [MlL.val] at c0 ⊢
 have C0:=hide c0
 clear c0
 obtain⟨ob,hob⟩:∃ q,onlyB (MlL.mp ⟨6,t,r,ix,iA,ic,i,oA,oc,o,sA,sc,s⟩) true true false false true=q:=⟨_,rfl⟩
 rw [hob] at C0 HD
 have Csec:=hide (fun W (hb:Below w.heap.size w W)=>rsection_any t r W)
 obtain⟨psec,hsec⟩:∃ q,decide (secI t r)=q:=⟨_,rfl⟩
 have HD2:=hide (HD.out.trans (show _=_ by rw [show decide (secI (MlL.mp ⟨6,t,r,ix,iA,ic,i,oA,oc,o,sA,sc,s⟩).t (MlL.mp ⟨6,t,r,ix,iA,ic,i,oA,oc,o,sA,sc,s⟩).r)=psec from hsec]))
 rw [hsec] at Csec
 clear HD
 have HD:=HD2
 clear HD2 hsec
 have Cops8:=hide (fun W (hb:Below w.heap.size w W)=>rops_any oA o.length oc o 8 W (up W hb).2.1 rfl ok.2.2.2.1 ok.2.1.2.1)
 obtain⟨pops8,hops8⟩:∃ q,decide (someP (o.map OpL.op) 8)=q:=⟨_,rfl⟩
 have HD2:=hide (HD.out.trans (show _=_ by rw [show decide (someP (MlL.mp ⟨6,t,r,ix,iA,ic,i,oA,oc,o,sA,sc,s⟩).O 8)=pops8 from hops8]))
 rw [hops8] at Cops8
 clear HD
 have HD:=HD2
 clear HD2 hops8
 clear up hr ok hob F1
 go_enter Tryz.func53,Tryz.ntmps53
 go_wp2_with fail
 refine C0.out.mono ?_
 rintro e w2 ⟨rfl,hb2⟩
 clear a0 a1 a2 a3 a4 a5 a6
 obtain⟨a0,a1,a2,a3,a4,a5,a6⟩:=(HF1.out.below hb2).cells
 cases ob with
 | false=>
   go_wp2_with fail
   go_ret
   exact⟨by rw [HD.out];first | rfl | (simp [MlL.mp];done) | (simp [MlL.mp,hge,hlt];done) | (simp [MlL.mp,hge];done),fresh hb1 hb2⟩
 | true=>
   go_wp2_with fail
   refine (Csec.out _ (fresh hb1 hb2)).mono ?_
   rintro e w3 ⟨rfl,hx3⟩
   have hb3:=fresh hb2 hx3
   clear a0 a1 a2 a3 a4 a5 a6
   obtain⟨a0,a1,a2,a3,a4,a5,a6⟩:=(HF1.out.below hb3).cells
   cases psec with
   | false=>
     go_wp2_with fail
     go_ret
     exact⟨by rw [HD.out];first | rfl | (simp [MlL.mp];done) | (simp [MlL.mp,hge,hlt];done) | (simp [MlL.mp,hge];done),fresh hb1 hb3⟩
   | true=>
     by_cases hge:0≤ix
     ·by_cases hlt:ix < 128
      ·go_wp2_with fail
       refine (Cops8.out _ (fresh hb1 hb3)).mono ?_
       rintro e w4 ⟨rfl,hx4⟩
       have hb4:=fresh hb3 hx4
       clear a0 a1 a2 a3 a4 a5 a6
       obtain⟨a0,a1,a2,a3,a4,a5,a6⟩:=(HF1.out.below hb4).cells
       cases pops8 with
       | false=>
         go_wp2_with fail
         go_ret
         exact⟨by rw [HD.out];first | rfl | (simp [MlL.mp];done) | (simp [MlL.mp,hge,hlt];done) | (simp [MlL.mp,hge];done),fresh hb1 hb4⟩
       | true=>
         go_wp2_with fail
         go_ret
         exact⟨by rw [HD.out];first | rfl | (simp [MlL.mp];done) | (simp [MlL.mp,hge,hlt];done) | (simp [MlL.mp,hge];done),fresh hb1 hb4⟩
      ·go_wp2_with fail
       go_ret
       exact⟨by rw [HD.out];simp [MlL.mp];intro ya yb;have yz:=of_decide_eq_true yb;omega,fresh hb1 hb3⟩
     ·go_wp2_with fail
      go_ret
      exact⟨by rw [HD.out];simp [MlL.mp];intro ya yb;have yz:=of_decide_eq_true ya;omega,fresh hb1 hb3⟩
theorem rmay_any (x:MlL) (w:World) (hr:RM w w.heap.size x) (ok:okM x):Calls Tryz.prog 53 #[x.val] w fun e w'=>e= .returned (.bool (decide (mayM x.mp)))∧Below w.heap.size w w':=by
 by_cases h1:x.k=1
 ·exact rmay_1 x w hr ok h1
 by_cases h2:x.k=2
 ·exact rmay_2 x w hr ok h2
 by_cases h3:x.k=3
 ·exact rmay_3 x w hr ok h3
 by_cases h4:x.k=4
 ·exact rmay_4 x w hr ok h4
 by_cases h5:x.k=5
 ·exact rmay_5 x w hr ok h5
 by_cases h6:x.k=6
 ·exact rmay_6 x w hr ok h6
 have HD:=hide (show decide (mayM x.mp)=false from decide_eq_false fun h=>by
  have hk:x.mp.k=x.k:=rfl
  rcases h.1 with⟨h | h,-⟩ | ⟨h,-⟩ | ⟨h,-⟩ | ⟨h,-⟩ | ⟨h,-⟩ <;> rw [hk] at h <;> omega)
 rw [HD.out]
 obtain⟨k,t,r,ix,iA,ic,i,oA,oc,o,sA,sc,s⟩:=x
 simp only at h1 h2 h3 h4 h5 h6
 simp only [MlL.val]
 obtain⟨w1,hw1,F1,hs1,hb1⟩:=mail_box w (.int .u8 k) (.int .u32 t) (.int .u8 r) (.int .i64 ix) (.slice iA i.length ic) (.slice oA o.length oc) (.slice sA s.length sc)
 obtain⟨a0,a1,a2,a3,a4,a5,a6⟩:=F1.cells
 clear F1 hr ok HD
 go_enter Tryz.func53,Tryz.ntmps53
 go_wp2_with fail
 go_ret
 exact⟨rfl,hb1⟩
end Go.Proofs.YtmkpfdcnikgokaaGreat
