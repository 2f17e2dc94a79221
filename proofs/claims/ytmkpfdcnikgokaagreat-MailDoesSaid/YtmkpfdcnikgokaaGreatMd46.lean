/-
  Texts of this claim, put together: MayRef, MailGetAll, Refill. What each theorem asks stands in its statement.
-/
import Derived.Test.YtmkpfdcnikgokaaGreatMd15
import Derived.Test.YtmkpfdcnikgokaaGreatMd22
import Derived.Test.YtmkpfdcnikgokaaGreatMd27
import Derived.Test.YtmkpfdcnikgokaaGreatMd45
set_option linter.unusedVariables false
set_option linter.unusedSimpArgs false
set_option maxRecDepth 100000
set_option maxHeartbeats 25600000
namespace Go.Proofs.YtmkpfdcnikgokaaGreat
open Go.RowKit
def Ez (m:MP) (bs bi bc bw bo:Bool):Bool:=(bs || decide (m.t=0/\m.r=0)) && (bi || decide (m.ix=0)) && (bc || decide (m.I.length=0)) && (bw || decide (m.W.length=0)) && (bo || decide (m.O.length=0))
theorem Ae3 {m:MP} (hk:m.k=1):decide (B8 m)=((Ez m false false false false true) && decide (Dp m.O 64)):=by
 obtain⟨k,t,r,ix,I,O,W⟩:=m;simp only at hk;subst hk;have e:B8 ⟨1,t,r,ix,I,O,W⟩↔L9 ⟨1,t,r,ix,I,O,W⟩/\Rw ⟨1,t,r,ix,I,O,W⟩=⟨1,t,r,ix,I,O,W⟩:=and_congr Iff.rfl Gd;rw [Bool.eq_iff_iff,decide_eq_true_eq,e];simp only [Ez,L9,Rw,decide_eq_true_eq,Bool.and_eq_true,Bool.or_eq_true];constructor
 ·rintro ⟨h1,h2⟩;simp at h1 h2;simp_all <;> omega
 ·intro h;simp at h;simp_all
theorem Ae0 {m:MP} (hk:m.k=4):decide (B8 m)=((Ez m false false false false true) && decide (Dp m.O 64)):=by
 obtain⟨k,t,r,ix,I,O,W⟩:=m;simp only at hk;subst hk;have e:B8 ⟨4,t,r,ix,I,O,W⟩↔L9 ⟨4,t,r,ix,I,O,W⟩/\Rw ⟨4,t,r,ix,I,O,W⟩=⟨4,t,r,ix,I,O,W⟩:=and_congr Iff.rfl Gd;rw [Bool.eq_iff_iff,decide_eq_true_eq,e];simp only [Ez,L9,Rw,decide_eq_true_eq,Bool.and_eq_true,Bool.or_eq_true];constructor
 ·rintro ⟨h1,h2⟩;simp at h1 h2;simp_all <;> omega
 ·intro h;simp at h;simp_all
theorem Ae2 {m:MP} (hk:m.k=2):decide (B8 m)=((Ez m false false true false false) && decide (D9 m.I)):=by
 obtain⟨k,t,r,ix,I,O,W⟩:=m;simp only at hk;subst hk;have e:B8 ⟨2,t,r,ix,I,O,W⟩↔L9 ⟨2,t,r,ix,I,O,W⟩/\Rw ⟨2,t,r,ix,I,O,W⟩=⟨2,t,r,ix,I,O,W⟩:=and_congr Iff.rfl Gd;rw [Bool.eq_iff_iff,decide_eq_true_eq,e];simp only [Ez,L9,Rw,decide_eq_true_eq,Bool.and_eq_true,Bool.or_eq_true];constructor
 ·rintro ⟨h1,h2⟩;simp at h1 h2;simp_all <;> omega
 ·intro h;simp at h;simp_all
theorem Ae1 {m:MP} (hk:m.k=3):decide (B8 m)=(((Ez m false false true true false) && decide (D9 m.I)) && decide (Cy m.W)):=by
 obtain⟨k,t,r,ix,I,O,W⟩:=m;simp only at hk;subst hk;have e:B8 ⟨3,t,r,ix,I,O,W⟩↔L9 ⟨3,t,r,ix,I,O,W⟩/\Rw ⟨3,t,r,ix,I,O,W⟩=⟨3,t,r,ix,I,O,W⟩:=and_congr Iff.rfl Gd;rw [Bool.eq_iff_iff,decide_eq_true_eq,e];simp only [Ez,L9,Rw,decide_eq_true_eq,Bool.and_eq_true,Bool.or_eq_true];constructor
 ·rintro ⟨h1,h2⟩;simp at h1 h2;simp_all <;> omega
 ·intro h;simp at h;simp_all
theorem Aez {m:MP} (hk:m.k=5):decide (B8 m)=(((Ez m true false true false false) && decide (Fb m.t m.r)) && decide (D9 m.I)):=by
 obtain⟨k,t,r,ix,I,O,W⟩:=m;simp only at hk;subst hk;have e:B8 ⟨5,t,r,ix,I,O,W⟩↔L9 ⟨5,t,r,ix,I,O,W⟩/\Rw ⟨5,t,r,ix,I,O,W⟩=⟨5,t,r,ix,I,O,W⟩:=and_congr Iff.rfl Gd;rw [Bool.eq_iff_iff,decide_eq_true_eq,e];simp only [Ez,L9,Rw,decide_eq_true_eq,Bool.and_eq_true,Bool.or_eq_true];constructor
 ·rintro ⟨h1,h2⟩;simp at h1 h2;simp_all <;> omega
 ·intro h;simp at h;simp_all
theorem Aey {m:MP} (hk:m.k=6):decide (B8 m)=(((((Ez m true true false false true) && decide (Fb m.t m.r)) && decide (0<=m.ix)) && decide (m.ix < 128)) && decide (Dp m.O 8)):=by
 obtain⟨k,t,r,ix,I,O,W⟩:=m;simp only at hk;subst hk;have e:B8 ⟨6,t,r,ix,I,O,W⟩↔L9 ⟨6,t,r,ix,I,O,W⟩/\Rw ⟨6,t,r,ix,I,O,W⟩=⟨6,t,r,ix,I,O,W⟩:=and_congr Iff.rfl Gd;rw [Bool.eq_iff_iff,decide_eq_true_eq,e];simp only [Ez,L9,Rw,decide_eq_true_eq,Bool.and_eq_true,Bool.or_eq_true];constructor
 ·rintro ⟨h1,h2⟩;simp at h1 h2;simp_all <;> omega
 ·intro h;simp at h;simp_all
theorem K0 (x:Av) (bs bi bc bw bo:Bool) (w:World):Calls Tryz.prog 88 #[x.val,.bool bs,.bool bi,.bool bc,.bool bw,.bool bo] w fun e w'=>e= .returned (.bool (Ez x.mp bs bi bc bw bo))/\Below w.heap.size w w':=by
 have h:=Yg x.k x.t x.r x.ix x.iA x.oA x.sA x.i.length x.ic x.o.length x.oc x.s.length x.sc bs bi bc bw bo w;exact h.mono fun e w' k=>⟨k.1.trans (by simp only [Ez,Av.mp,List.length_map];congr),k.2⟩
theorem Ael (x:Av) (w:World) (hr:RM w w.heap.size x) (ok:Gm x) (hk:x.k=1):Calls Tryz.prog 53 #[x.val] w fun e w'=>e= .returned (.bool (decide (B8 x.mp)))/\Below w.heap.size w w':=by
 obtain⟨kk,t,r,ix,iA,ic,i,oA,oc,o,sA,sc,s⟩:=x;simp only at hk;subst hk;have HD:=Aa (Ae3 (m:=Av.mp ⟨1,t,r,ix,iA,ic,i,oA,oc,o,sA,sc,s⟩) rfl);have up:∀ W,Below w.heap.size w W->RM W W.heap.size ⟨1,t,r,ix,iA,ic,i,oA,oc,o,sA,sc,s⟩:=fun W hb=>(hr.below hb).more hb.size;obtain⟨w1,au,F1,af,ac⟩:=Am w (.int .u8 1) (.int .u32 t) (.int .u8 r) (.int .i64 ix) (.slice iA i.length ic) (.slice oA o.length oc) (.slice sA s.length sc);obtain⟨a0,a1,a2,a3,a4,a5,a6⟩:=F1.cells;have az:=Aa F1;have c0:=K0 ⟨1,t,r,ix,iA,ic,i,oA,oc,o,sA,sc,s⟩ false false false false true w1;simp only [Av.val] at c0 |-;have C0:=Aa c0;clear c0;obtain⟨ob,tz⟩:∃ q,Ez (Av.mp ⟨1,t,r,ix,iA,ic,i,oA,oc,o,sA,sc,s⟩) false false false false true=q:=⟨_,rfl⟩;rw [tz] at C0 HD;have vp:=Aa (fun W (hb:Below w.heap.size w W)=>Pe oA o.length oc o 64 W (up W hb).2.1 rfl ok.2.2.2.1 ok.2.1.2.1);obtain⟨vk,pu⟩:∃ q,decide (Dp (o.map Bj.op) 64)=q:=⟨_,rfl⟩;have te:=Aa (HD.out.trans (show _=_ by rw [show decide (Dp (Av.mp ⟨1,t,r,ix,iA,ic,i,oA,oc,o,sA,sc,s⟩).O 64)=vk from pu]));rw [pu] at vp;clear HD;have HD:=te;clear te pu;clear up hr ok tz F1;go_enter Tryz.func53,Tryz.ntmps53;go_wp2_with fail;refine C0.out.mono ?_;rintro e w2 ⟨rfl,ae⟩;clear a0 a1 a2 a3 a4 a5 a6;obtain⟨a0,a1,a2,a3,a4,a5,a6⟩:=(az.out.below ae).cells
 cases ob with
 | false=>
   go_wp2_with fail;go_ret;exact⟨by rw [HD.out];first | rfl | (simp [Av.mp];done) | (simp [Av.mp,hge,ai];done) | (simp [Av.mp,hge];done),Ad ac ae⟩
 | true=>
   go_wp2_with fail;refine (vp.out _ (Ad ac ae)).mono ?_;rintro e w3 ⟨rfl,IK⟩;have ag:=Ad ae IK;clear a0 a1 a2 a3 a4 a5 a6;obtain⟨a0,a1,a2,a3,a4,a5,a6⟩:=(az.out.below ag).cells
   cases vk with
   | false=>
     go_wp2_with fail;go_ret;exact⟨by rw [HD.out];first | rfl | (simp [Av.mp];done) | (simp [Av.mp,hge,ai];done) | (simp [Av.mp,hge];done),Ad ac ag⟩
   | true=>
     go_wp2_with fail;go_ret;exact⟨by rw [HD.out];first | rfl | (simp [Av.mp];done) | (simp [Av.mp,hge,ai];done) | (simp [Av.mp,hge];done),Ad ac ag⟩
theorem Aei (x:Av) (w:World) (hr:RM w w.heap.size x) (ok:Gm x) (hk:x.k=4):Calls Tryz.prog 53 #[x.val] w fun e w'=>e= .returned (.bool (decide (B8 x.mp)))/\Below w.heap.size w w':=by
 obtain⟨kk,t,r,ix,iA,ic,i,oA,oc,o,sA,sc,s⟩:=x;simp only at hk;subst hk;have HD:=Aa (Ae0 (m:=Av.mp ⟨4,t,r,ix,iA,ic,i,oA,oc,o,sA,sc,s⟩) rfl);have up:∀ W,Below w.heap.size w W->RM W W.heap.size ⟨4,t,r,ix,iA,ic,i,oA,oc,o,sA,sc,s⟩:=fun W hb=>(hr.below hb).more hb.size;obtain⟨w1,au,F1,af,ac⟩:=Am w (.int .u8 4) (.int .u32 t) (.int .u8 r) (.int .i64 ix) (.slice iA i.length ic) (.slice oA o.length oc) (.slice sA s.length sc);obtain⟨a0,a1,a2,a3,a4,a5,a6⟩:=F1.cells;have az:=Aa F1;have c0:=K0 ⟨4,t,r,ix,iA,ic,i,oA,oc,o,sA,sc,s⟩ false false false false true w1;simp only [Av.val] at c0 |-;have C0:=Aa c0;clear c0;obtain⟨ob,tz⟩:∃ q,Ez (Av.mp ⟨4,t,r,ix,iA,ic,i,oA,oc,o,sA,sc,s⟩) false false false false true=q:=⟨_,rfl⟩;rw [tz] at C0 HD;have vp:=Aa (fun W (hb:Below w.heap.size w W)=>Pe oA o.length oc o 64 W (up W hb).2.1 rfl ok.2.2.2.1 ok.2.1.2.1);obtain⟨vk,pu⟩:∃ q,decide (Dp (o.map Bj.op) 64)=q:=⟨_,rfl⟩;have te:=Aa (HD.out.trans (show _=_ by rw [show decide (Dp (Av.mp ⟨4,t,r,ix,iA,ic,i,oA,oc,o,sA,sc,s⟩).O 64)=vk from pu]));rw [pu] at vp;clear HD;have HD:=te;clear te pu;clear up hr ok tz F1;go_enter Tryz.func53,Tryz.ntmps53;go_wp2_with fail;refine C0.out.mono ?_;rintro e w2 ⟨rfl,ae⟩;clear a0 a1 a2 a3 a4 a5 a6;obtain⟨a0,a1,a2,a3,a4,a5,a6⟩:=(az.out.below ae).cells
 cases ob with
 | false=>
   go_wp2_with fail;go_ret;exact⟨by rw [HD.out];first | rfl | (simp [Av.mp];done) | (simp [Av.mp,hge,ai];done) | (simp [Av.mp,hge];done),Ad ac ae⟩
 | true=>
   go_wp2_with fail;refine (vp.out _ (Ad ac ae)).mono ?_;rintro e w3 ⟨rfl,IK⟩;have ag:=Ad ae IK;clear a0 a1 a2 a3 a4 a5 a6;obtain⟨a0,a1,a2,a3,a4,a5,a6⟩:=(az.out.below ag).cells
   cases vk with
   | false=>
     go_wp2_with fail;go_ret;exact⟨by rw [HD.out];first | rfl | (simp [Av.mp];done) | (simp [Av.mp,hge,ai];done) | (simp [Av.mp,hge];done),Ad ac ag⟩
   | true=>
     go_wp2_with fail;go_ret;exact⟨by rw [HD.out];first | rfl | (simp [Av.mp];done) | (simp [Av.mp,hge,ai];done) | (simp [Av.mp,hge];done),Ad ac ag⟩
theorem Aek (x:Av) (w:World) (hr:RM w w.heap.size x) (ok:Gm x) (hk:x.k=2):Calls Tryz.prog 53 #[x.val] w fun e w'=>e= .returned (.bool (decide (B8 x.mp)))/\Below w.heap.size w w':=by
 obtain⟨kk,t,r,ix,iA,ic,i,oA,oc,o,sA,sc,s⟩:=x;simp only at hk;subst hk;have HD:=Aa (Ae2 (m:=Av.mp ⟨2,t,r,ix,iA,ic,i,oA,oc,o,sA,sc,s⟩) rfl);have up:∀ W,Below w.heap.size w W->RM W W.heap.size ⟨2,t,r,ix,iA,ic,i,oA,oc,o,sA,sc,s⟩:=fun W hb=>(hr.below hb).more hb.size;obtain⟨w1,au,F1,af,ac⟩:=Am w (.int .u8 2) (.int .u32 t) (.int .u8 r) (.int .i64 ix) (.slice iA i.length ic) (.slice oA o.length oc) (.slice sA s.length sc);obtain⟨a0,a1,a2,a3,a4,a5,a6⟩:=F1.cells;have az:=Aa F1;have c0:=K0 ⟨2,t,r,ix,iA,ic,i,oA,oc,o,sA,sc,s⟩ false false true false false w1;simp only [Av.val] at c0 |-;have C0:=Aa c0;clear c0;obtain⟨ob,tz⟩:∃ q,Ez (Av.mp ⟨2,t,r,ix,iA,ic,i,oA,oc,o,sA,sc,s⟩) false false true false false=q:=⟨_,rfl⟩;rw [tz] at C0 HD;have At:=Aa (fun W (hb:Below w.heap.size w W)=>Mn iA i.length ic i W (up W hb).1 rfl ok.2.1.1 ok.2.2.1);obtain⟨AU,k7⟩:∃ q,decide (D9 (i.map Aq.pt))=q:=⟨_,rfl⟩;have te:=Aa (HD.out.trans (show _=_ by rw [show decide (D9 (Av.mp ⟨2,t,r,ix,iA,ic,i,oA,oc,o,sA,sc,s⟩).I)=AU from k7]));rw [k7] at At;clear HD;have HD:=te;clear te k7;clear up hr ok tz F1;go_enter Tryz.func53,Tryz.ntmps53;go_wp2_with fail;refine C0.out.mono ?_;rintro e w2 ⟨rfl,ae⟩;clear a0 a1 a2 a3 a4 a5 a6;obtain⟨a0,a1,a2,a3,a4,a5,a6⟩:=(az.out.below ae).cells
 cases ob with
 | false=>
   go_wp2_with fail;go_ret;exact⟨by rw [HD.out];first | rfl | (simp [Av.mp];done) | (simp [Av.mp,hge,ai];done) | (simp [Av.mp,hge];done),Ad ac ae⟩
 | true=>
   go_wp2_with fail;refine (At.out _ (Ad ac ae)).mono ?_;rintro e w3 ⟨rfl,IK⟩;have ag:=Ad ae IK;clear a0 a1 a2 a3 a4 a5 a6;obtain⟨a0,a1,a2,a3,a4,a5,a6⟩:=(az.out.below ag).cells
   cases AU with
   | false=>
     go_wp2_with fail;go_ret;exact⟨by rw [HD.out];first | rfl | (simp [Av.mp];done) | (simp [Av.mp,hge,ai];done) | (simp [Av.mp,hge];done),Ad ac ag⟩
   | true=>
     go_wp2_with fail;go_ret;exact⟨by rw [HD.out];first | rfl | (simp [Av.mp];done) | (simp [Av.mp,hge,ai];done) | (simp [Av.mp,hge];done),Ad ac ag⟩
theorem Aej (x:Av) (w:World) (hr:RM w w.heap.size x) (ok:Gm x) (hk:x.k=3):Calls Tryz.prog 53 #[x.val] w fun e w'=>e= .returned (.bool (decide (B8 x.mp)))/\Below w.heap.size w w':=by
 obtain⟨kk,t,r,ix,iA,ic,i,oA,oc,o,sA,sc,s⟩:=x;simp only at hk;subst hk;have HD:=Aa (Ae1 (m:=Av.mp ⟨3,t,r,ix,iA,ic,i,oA,oc,o,sA,sc,s⟩) rfl);have up:∀ W,Below w.heap.size w W->RM W W.heap.size ⟨3,t,r,ix,iA,ic,i,oA,oc,o,sA,sc,s⟩:=fun W hb=>(hr.below hb).more hb.size;obtain⟨w1,au,F1,af,ac⟩:=Am w (.int .u8 3) (.int .u32 t) (.int .u8 r) (.int .i64 ix) (.slice iA i.length ic) (.slice oA o.length oc) (.slice sA s.length sc);obtain⟨a0,a1,a2,a3,a4,a5,a6⟩:=F1.cells;have az:=Aa F1;have c0:=K0 ⟨3,t,r,ix,iA,ic,i,oA,oc,o,sA,sc,s⟩ false false true true false w1;simp only [Av.val] at c0 |-;have C0:=Aa c0;clear c0;obtain⟨ob,tz⟩:∃ q,Ez (Av.mp ⟨3,t,r,ix,iA,ic,i,oA,oc,o,sA,sc,s⟩) false false true true false=q:=⟨_,rfl⟩;rw [tz] at C0 HD;have At:=Aa (fun W (hb:Below w.heap.size w W)=>Mn iA i.length ic i W (up W hb).1 rfl ok.2.1.1 ok.2.2.1);obtain⟨AU,k7⟩:∃ q,decide (D9 (i.map Aq.pt))=q:=⟨_,rfl⟩;have te:=Aa (HD.out.trans (show _=_ by rw [show decide (D9 (Av.mp ⟨3,t,r,ix,iA,ic,i,oA,oc,o,sA,sc,s⟩).I)=AU from k7]));rw [k7] at At;clear HD;have HD:=te;clear te k7;have MV:=Aa (fun W (hb:Below w.heap.size w W)=>V5 sA s.length sc s W (up W hb).2.2 rfl ok.2.2.2.2 ok.2.1.2.2);obtain⟨MM,EA⟩:∃ q,decide (Cy (s.map Ay.wp))=q:=⟨_,rfl⟩;have te:=Aa (HD.out.trans (show _=_ by rw [show decide (Cy (Av.mp ⟨3,t,r,ix,iA,ic,i,oA,oc,o,sA,sc,s⟩).W)=MM from EA]));rw [EA] at MV;clear HD;have HD:=te;clear te EA;clear up hr ok tz F1;go_enter Tryz.func53,Tryz.ntmps53;go_wp2_with fail;refine C0.out.mono ?_;rintro e w2 ⟨rfl,ae⟩;clear a0 a1 a2 a3 a4 a5 a6;obtain⟨a0,a1,a2,a3,a4,a5,a6⟩:=(az.out.below ae).cells
 cases ob with
 | false=>
   go_wp2_with fail;go_ret;exact⟨by rw [HD.out];first | rfl | (simp [Av.mp];done) | (simp [Av.mp,hge,ai];done) | (simp [Av.mp,hge];done),Ad ac ae⟩
 | true=>
   go_wp2_with fail;refine (At.out _ (Ad ac ae)).mono ?_;rintro e w3 ⟨rfl,IK⟩;have ag:=Ad ae IK;clear a0 a1 a2 a3 a4 a5 a6;obtain⟨a0,a1,a2,a3,a4,a5,a6⟩:=(az.out.below ag).cells
   cases AU with
   | false=>
     go_wp2_with fail;go_ret;exact⟨by rw [HD.out];first | rfl | (simp [Av.mp];done) | (simp [Av.mp,hge,ai];done) | (simp [Av.mp,hge];done),Ad ac ag⟩
   | true=>
     go_wp2_with fail;refine (MV.out _ (Ad ac ag)).mono ?_;rintro e w4 ⟨rfl,ZV⟩;have aw:=Ad ag ZV;clear a0 a1 a2 a3 a4 a5 a6;obtain⟨a0,a1,a2,a3,a4,a5,a6⟩:=(az.out.below aw).cells
     cases MM with
     | false=>
       go_wp2_with fail;go_ret;exact⟨by rw [HD.out];first | rfl | (simp [Av.mp];done) | (simp [Av.mp,hge,ai];done) | (simp [Av.mp,hge];done),Ad ac aw⟩
     | true=>
       go_wp2_with fail;go_ret;exact⟨by rw [HD.out];first | rfl | (simp [Av.mp];done) | (simp [Av.mp,hge,ai];done) | (simp [Av.mp,hge];done),Ad ac aw⟩
theorem Aeh (x:Av) (w:World) (hr:RM w w.heap.size x) (ok:Gm x) (hk:x.k=5):Calls Tryz.prog 53 #[x.val] w fun e w'=>e= .returned (.bool (decide (B8 x.mp)))/\Below w.heap.size w w':=by
 obtain⟨kk,t,r,ix,iA,ic,i,oA,oc,o,sA,sc,s⟩:=x;simp only at hk;subst hk;have HD:=Aa (Aez (m:=Av.mp ⟨5,t,r,ix,iA,ic,i,oA,oc,o,sA,sc,s⟩) rfl);have up:∀ W,Below w.heap.size w W->RM W W.heap.size ⟨5,t,r,ix,iA,ic,i,oA,oc,o,sA,sc,s⟩:=fun W hb=>(hr.below hb).more hb.size;obtain⟨w1,au,F1,af,ac⟩:=Am w (.int .u8 5) (.int .u32 t) (.int .u8 r) (.int .i64 ix) (.slice iA i.length ic) (.slice oA o.length oc) (.slice sA s.length sc);obtain⟨a0,a1,a2,a3,a4,a5,a6⟩:=F1.cells;have az:=Aa F1;have c0:=K0 ⟨5,t,r,ix,iA,ic,i,oA,oc,o,sA,sc,s⟩ true false true false false w1;simp only [Av.val] at c0 |-;have C0:=Aa c0;clear c0;obtain⟨ob,tz⟩:∃ q,Ez (Av.mp ⟨5,t,r,ix,iA,ic,i,oA,oc,o,sA,sc,s⟩) true false true false false=q:=⟨_,rfl⟩;rw [tz] at C0 HD;have LZ:=Aa (fun W (hb:Below w.heap.size w W)=>Mx t r W);obtain⟨KO,fj⟩:∃ q,decide (Fb t r)=q:=⟨_,rfl⟩;have te:=Aa (HD.out.trans (show _=_ by rw [show decide (Fb (Av.mp ⟨5,t,r,ix,iA,ic,i,oA,oc,o,sA,sc,s⟩).t (Av.mp ⟨5,t,r,ix,iA,ic,i,oA,oc,o,sA,sc,s⟩).r)=KO from fj]));rw [fj] at LZ;clear HD;have HD:=te;clear te fj;have At:=Aa (fun W (hb:Below w.heap.size w W)=>Mn iA i.length ic i W (up W hb).1 rfl ok.2.1.1 ok.2.2.1);obtain⟨AU,k7⟩:∃ q,decide (D9 (i.map Aq.pt))=q:=⟨_,rfl⟩;have te:=Aa (HD.out.trans (show _=_ by rw [show decide (D9 (Av.mp ⟨5,t,r,ix,iA,ic,i,oA,oc,o,sA,sc,s⟩).I)=AU from k7]));rw [k7] at At;clear HD;have HD:=te;clear te k7;clear up hr ok tz F1;go_enter Tryz.func53,Tryz.ntmps53;go_wp2_with fail;refine C0.out.mono ?_;rintro e w2 ⟨rfl,ae⟩;clear a0 a1 a2 a3 a4 a5 a6;obtain⟨a0,a1,a2,a3,a4,a5,a6⟩:=(az.out.below ae).cells
 cases ob with
 | false=>
   go_wp2_with fail;go_ret;exact⟨by rw [HD.out];first | rfl | (simp [Av.mp];done) | (simp [Av.mp,hge,ai];done) | (simp [Av.mp,hge];done),Ad ac ae⟩
 | true=>
   go_wp2_with fail;refine (LZ.out _ (Ad ac ae)).mono ?_;rintro e w3 ⟨rfl,IK⟩;have ag:=Ad ae IK;clear a0 a1 a2 a3 a4 a5 a6;obtain⟨a0,a1,a2,a3,a4,a5,a6⟩:=(az.out.below ag).cells
   cases KO with
   | false=>
     go_wp2_with fail;go_ret;exact⟨by rw [HD.out];first | rfl | (simp [Av.mp];done) | (simp [Av.mp,hge,ai];done) | (simp [Av.mp,hge];done),Ad ac ag⟩
   | true=>
     go_wp2_with fail;refine (At.out _ (Ad ac ag)).mono ?_;rintro e w4 ⟨rfl,ZV⟩;have aw:=Ad ag ZV;clear a0 a1 a2 a3 a4 a5 a6;obtain⟨a0,a1,a2,a3,a4,a5,a6⟩:=(az.out.below aw).cells
     cases AU with
     | false=>
       go_wp2_with fail;go_ret;exact⟨by rw [HD.out];first | rfl | (simp [Av.mp];done) | (simp [Av.mp,hge,ai];done) | (simp [Av.mp,hge];done),Ad ac aw⟩
     | true=>
       go_wp2_with fail;go_ret;exact⟨by rw [HD.out];first | rfl | (simp [Av.mp];done) | (simp [Av.mp,hge,ai];done) | (simp [Av.mp,hge];done),Ad ac aw⟩
theorem Aeg (x:Av) (w:World) (hr:RM w w.heap.size x) (ok:Gm x) (hk:x.k=6):Calls Tryz.prog 53 #[x.val] w fun e w'=>e= .returned (.bool (decide (B8 x.mp)))/\Below w.heap.size w w':=by
 obtain⟨kk,t,r,ix,iA,ic,i,oA,oc,o,sA,sc,s⟩:=x;simp only at hk;subst hk;have HD:=Aa (Aey (m:=Av.mp ⟨6,t,r,ix,iA,ic,i,oA,oc,o,sA,sc,s⟩) rfl);have up:∀ W,Below w.heap.size w W->RM W W.heap.size ⟨6,t,r,ix,iA,ic,i,oA,oc,o,sA,sc,s⟩:=fun W hb=>(hr.below hb).more hb.size;obtain⟨w1,au,F1,af,ac⟩:=Am w (.int .u8 6) (.int .u32 t) (.int .u8 r) (.int .i64 ix) (.slice iA i.length ic) (.slice oA o.length oc) (.slice sA s.length sc);obtain⟨a0,a1,a2,a3,a4,a5,a6⟩:=F1.cells;have az:=Aa F1;have c0:=K0 ⟨6,t,r,ix,iA,ic,i,oA,oc,o,sA,sc,s⟩ true true false false true w1;simp only [Av.val] at c0 |-;have C0:=Aa c0;clear c0;obtain⟨ob,tz⟩:∃ q,Ez (Av.mp ⟨6,t,r,ix,iA,ic,i,oA,oc,o,sA,sc,s⟩) true true false false true=q:=⟨_,rfl⟩;rw [tz] at C0 HD;have LZ:=Aa (fun W (hb:Below w.heap.size w W)=>Mx t r W);obtain⟨KO,fj⟩:∃ q,decide (Fb t r)=q:=⟨_,rfl⟩;have te:=Aa (HD.out.trans (show _=_ by rw [show decide (Fb (Av.mp ⟨6,t,r,ix,iA,ic,i,oA,oc,o,sA,sc,s⟩).t (Av.mp ⟨6,t,r,ix,iA,ic,i,oA,oc,o,sA,sc,s⟩).r)=KO from fj]));rw [fj] at LZ;clear HD;have HD:=te;clear te fj;have SY:=Aa (fun W (hb:Below w.heap.size w W)=>Pe oA o.length oc o 8 W (up W hb).2.1 rfl ok.2.2.2.1 ok.2.1.2.1);obtain⟨RL,MA⟩:∃ q,decide (Dp (o.map Bj.op) 8)=q:=⟨_,rfl⟩;have te:=Aa (HD.out.trans (show _=_ by rw [show decide (Dp (Av.mp ⟨6,t,r,ix,iA,ic,i,oA,oc,o,sA,sc,s⟩).O 8)=RL from MA]));rw [MA] at SY;clear HD;have HD:=te;clear te MA;clear up hr ok tz F1;go_enter Tryz.func53,Tryz.ntmps53;go_wp2_with fail;refine C0.out.mono ?_;rintro e w2 ⟨rfl,ae⟩;clear a0 a1 a2 a3 a4 a5 a6;obtain⟨a0,a1,a2,a3,a4,a5,a6⟩:=(az.out.below ae).cells
 cases ob with
 | false=>
   go_wp2_with fail;go_ret;exact⟨by rw [HD.out];first | rfl | (simp [Av.mp];done) | (simp [Av.mp,hge,ai];done) | (simp [Av.mp,hge];done),Ad ac ae⟩
 | true=>
   go_wp2_with fail;refine (LZ.out _ (Ad ac ae)).mono ?_;rintro e w3 ⟨rfl,IK⟩;have ag:=Ad ae IK;clear a0 a1 a2 a3 a4 a5 a6;obtain⟨a0,a1,a2,a3,a4,a5,a6⟩:=(az.out.below ag).cells
   cases KO with
   | false=>
     go_wp2_with fail;go_ret;exact⟨by rw [HD.out];first | rfl | (simp [Av.mp];done) | (simp [Av.mp,hge,ai];done) | (simp [Av.mp,hge];done),Ad ac ag⟩
   | true=>
     by_cases hge:0<=ix
     ·by_cases ai:ix < 128
      ·go_wp2_with fail;refine (SY.out _ (Ad ac ag)).mono ?_;rintro e w4 ⟨rfl,ZV⟩;have aw:=Ad ag ZV;clear a0 a1 a2 a3 a4 a5 a6;obtain⟨a0,a1,a2,a3,a4,a5,a6⟩:=(az.out.below aw).cells
       cases RL with
       | false=>
         go_wp2_with fail;go_ret;exact⟨by rw [HD.out];first | rfl | (simp [Av.mp];done) | (simp [Av.mp,hge,ai];done) | (simp [Av.mp,hge];done),Ad ac aw⟩
       | true=>
         go_wp2_with fail;go_ret;exact⟨by rw [HD.out];first | rfl | (simp [Av.mp];done) | (simp [Av.mp,hge,ai];done) | (simp [Av.mp,hge];done),Ad ac aw⟩
      ·go_wp2_with fail;go_ret;exact⟨by rw [HD.out];simp [Av.mp];intro ya yb;have yz:=of_decide_eq_true yb;omega,Ad ac ag⟩
     ·go_wp2_with fail;go_ret;exact⟨by rw [HD.out];simp [Av.mp];intro ya yb;have yz:=of_decide_eq_true ya;omega,Ad ac ag⟩
theorem Mm (x:Av) (w:World) (hr:RM w w.heap.size x) (ok:Gm x):Calls Tryz.prog 53 #[x.val] w fun e w'=>e= .returned (.bool (decide (B8 x.mp)))/\Below w.heap.size w w':=by
 by_cases h1:x.k=1
 ·exact Ael x w hr ok h1
 by_cases h2:x.k=2
 ·exact Aek x w hr ok h2
 by_cases h3:x.k=3
 ·exact Aej x w hr ok h3
 by_cases h4:x.k=4
 ·exact Aei x w hr ok h4
 by_cases h5:x.k=5
 ·exact Aeh x w hr ok h5
 by_cases h6:x.k=6
 ·exact Aeg x w hr ok h6
 have HD:=Aa (show decide (B8 x.mp)=false from decide_eq_false fun h=>by
  have hk:x.mp.k=x.k:=rfl
  rcases h.1 with⟨h | h,-⟩ | ⟨h,-⟩ | ⟨h,-⟩ | ⟨h,-⟩ | ⟨h,-⟩ <;> rw [hk] at h <;> omega)
 rw [HD.out];obtain⟨k,t,r,ix,iA,ic,i,oA,oc,o,sA,sc,s⟩:=x;simp only at h1 h2 h3 h4 h5 h6;simp only [Av.val];obtain⟨w1,au,F1,af,ac⟩:=Am w (.int .u8 k) (.int .u32 t) (.int .u8 r) (.int .i64 ix) (.slice iA i.length ic) (.slice oA o.length oc) (.slice sA s.length sc);obtain⟨a0,a1,a2,a3,a4,a5,a6⟩:=F1.cells;clear F1 hr ok HD;go_enter Tryz.func53,Tryz.ntmps53;go_wp2_with fail;go_ret;exact⟨rfl,ac⟩
def Jx (b:List UInt8):Option MP:=(J3 b).bind G1
def I3 (b:List UInt8):Int:=match J3 b with
 | none=>30
 | some m=>Ow m
theorem Rr (b:List UInt8):I3 b=0↔(Jx b).isSome=true:=by
 unfold I3 Jx
 cases J3 b with
 | none=>simp
 | some m=>
   simp only [Option.bind_some,Ow];split <;> simp_all
theorem Y9 (A:Option Addr) (c:Nat) (b:List UInt8) (w:World) (hr:RB w w.heap.size A b) (hc:b.length<=c) (hl:b.length < 100000) (hm:J3 b=none):
 Calls Tryz.prog 23 #[.slice A b.length c] w fun e w'=>e= .returned (.tuple #[m0L.val,.int .i64 30])/\Below w.heap.size w w':=by
 obtain⟨w1,au,F1,af,ac⟩:=Am w (.int .u8 0) (.int .u32 0) (.int .u8 0) (.int .i64 0) (.slice none 0 0) (.slice none 0 0) (.slice none 0 0);obtain⟨gx,an⟩:∃ q,q=w.heap.size:=⟨_,rfl⟩;have av:=Aa an.symm;have az:=Aa F1;rw [<-an] at az;have hO:=Aa (Gj A c b w1 ((RD.below hr ac).more ac.size) hc hl);have Hm:=Aa hm;clear hr hc hl hm F1;go_enter Tryz.func23,Tryz.ntmps23;go_wp2_with fail;rw [<-an];rw [<-an] at af;clear an;refine hO.out.mono ?_;rintro e w2 ⟨ho,ae⟩;unfold Ex at ho;rw [Hm.out] at ho;subst ho;have db:=Aa (az.out.below ae);obtain⟨f0,f1,f2,f3,f4,f5,f6,FZ,ch⟩:=Fl db.out (Ad ac ae) (w:=w) (Nat.le_of_eq av.out);obtain⟨y0,y1,y2,y3,y4,y5,y6⟩:=db.out.cells;have da:=Aa FZ;have fb:=Aa ch;clear FZ ch au;go_wp2_with fail;obtain⟨v0,v1,v2,v3,v4,v5,v6⟩:=da.out.cells;refine bodyPost_ret (v:= .tuple #[Ci 0 0 0 0 (.slice none 0 0) (.slice none 0 0) (.slice none 0 0),.int .i64 30]) (by simp [results,Tryz.results23,go_sem,v0,v1,v2,v3,v4,v5,v6]) rfl ?_;exact⟨rfl,fb.out⟩
theorem Abi (A:Option Addr) (n c:Nat) (b:List UInt8) (w:World) (hr:RB w w.heap.size A b) (hn:b.length=n) (hc:n<=c) (hl:n < 100000):
 Calls Tryz.prog 23 #[.slice A n c] w fun e w'=>∃ x:Av,e= .returned (.tuple #[x.val,.int .i64 (I3 b)])/\x.mp=(Jx b).getD mp0/\RM w' w'.heap.size x/\Gm x/\Below w.heap.size w w':=by
 subst hn
 cases hm:J3 b with
 | none=>
   refine (Y9 A c b w hr hc hl hm).mono ?_;rintro e w' ⟨rfl,hb⟩;exact⟨m0L,by unfold I3;rw [hm],by unfold Jx;rw [hm];rfl,Xj _ _,To,hb⟩
 | some m=>
   have key:Calls Tryz.prog 23 #[.slice A b.length c] w fun e w'=>Iw w w' e m:=by
    obtain⟨k,s1,h1⟩:∃ k s,An 6 (m,false)=(k,s):=⟨_,_,rfl⟩;have h2:=Mt 6 (m,false) (by decide);rw [h1] at h2;simp only at h2;have h3:k=0\/k=1\/k=2\/k=3\/k=4\/k=5\/k=6:=by omega
    rcases h3 with rfl | rfl | rfl | rfl | rfl | rfl | rfl
    ·exact Y5 A c b m s1 w hr hc hl hm h1
    ·exact Y8 A c b m s1 w hr hc hl hm h1
    ·exact Abj A c b m s1 w hr hc hl hm h1
    ·exact Y6 A c b m s1 w hr hc hl hm h1
    ·exact Y7 A c b m s1 w hr hc hl hm h1
    ·exact Qj A c b m s1 w hr hc hl hm h1
    ·exact Wx A c b m s1 w hr hc hl hm h1
   refine key.mono ?_;rintro e w' ⟨x,he,hx,h⟩;exact⟨x,by unfold I3;rw [hm];exact he,by unfold Jx;rw [hm];exact hx,h⟩
theorem Kb {W:World} {gx B:Nat} {w:World} {a b c d e f h:Value} (v0 v1 v2 v3 v4 v5 v6:Value) (hF:MB W gx a b c d e f h) (hb:Below B w W) (hg:B<=gx):
 W.frozen? ⟨gx,0,none⟩=false/\(W.setCell ⟨gx,0,none⟩ v0).frozen? ⟨gx,1,none⟩=false/\((W.setCell ⟨gx,0,none⟩ v0).setCell ⟨gx,1,none⟩ v1).frozen? ⟨gx,2,none⟩=false/\(((W.setCell ⟨gx,0,none⟩ v0).setCell ⟨gx,1,none⟩ v1).setCell ⟨gx,2,none⟩ v2).frozen? ⟨gx,3,none⟩=false/\((((W.setCell ⟨gx,0,none⟩ v0).setCell ⟨gx,1,none⟩ v1).setCell ⟨gx,2,none⟩ v2).setCell ⟨gx,3,none⟩ v3).frozen? ⟨gx,4,none⟩=false/\(((((W.setCell ⟨gx,0,none⟩ v0).setCell ⟨gx,1,none⟩ v1).setCell ⟨gx,2,none⟩ v2).setCell ⟨gx,3,none⟩ v3).setCell ⟨gx,4,none⟩ v4).frozen? ⟨gx,5,none⟩=false/\((((((W.setCell ⟨gx,0,none⟩ v0).setCell ⟨gx,1,none⟩ v1).setCell ⟨gx,2,none⟩ v2).setCell ⟨gx,3,none⟩ v3).setCell ⟨gx,4,none⟩ v4).setCell ⟨gx,5,none⟩ v5).frozen? ⟨gx,6,none⟩=false/\MB (((((((W.setCell ⟨gx,0,none⟩ v0).setCell ⟨gx,1,none⟩ v1).setCell ⟨gx,2,none⟩ v2).setCell ⟨gx,3,none⟩ v3).setCell ⟨gx,4,none⟩ v4).setCell ⟨gx,5,none⟩ v5).setCell ⟨gx,6,none⟩ v6) gx v0 v1 v2 v3 v4 v5 v6/\Below B w (((((((W.setCell ⟨gx,0,none⟩ v0).setCell ⟨gx,1,none⟩ v1).setCell ⟨gx,2,none⟩ v2).setCell ⟨gx,3,none⟩ v3).setCell ⟨gx,4,none⟩ v4).setCell ⟨gx,5,none⟩ v5).setCell ⟨gx,6,none⟩ v6):=by
 have F1:=hF.set0 v0;have F2:=F1.set1 v1;have F3:=F2.set2 v2;have F4:=F3.set3 v3;have F5:=F4.set4 v4;have F6:=F5.set5 v5;have F7:=F6.set6 v6;exact⟨hF.fr 0,F1.fr 1,F2.fr 2,F3.fr 3,F4.fr 4,F5.fr 5,F6.fr 6,F7,(((((((hb.setCell hg _).setCell hg _).setCell hg _).setCell hg _).setCell hg _).setCell hg _).setCell hg _)⟩
end Go.Proofs.YtmkpfdcnikgokaaGreat
