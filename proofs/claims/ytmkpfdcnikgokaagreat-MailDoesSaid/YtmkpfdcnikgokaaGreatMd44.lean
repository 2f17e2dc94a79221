/-
  Texts of this claim, put together: OnlyRef. What each theorem asks stands in its statement.
-/
import Derived.Test.YtmkpfdcnikgokaaGreatMd17
import Derived.Test.YtmkpfdcnikgokaaGreatMd31
import Derived.Test.YtmkpfdcnikgokaaGreatMd43
set_option linter.unusedVariables false
set_option linter.unusedSimpArgs false
set_option maxRecDepth 100000
set_option maxHeartbeats 25600000
namespace Go.Proofs.YtmkpfdcnikgokaaGreat
open Go.RowKit
theorem Pe (A:Option Addr) (n c:Nat) (L:List Bj) (m:Int) (w:World) (hr:RO w w.heap.size A L) (hn:L.length=n) (hl:n < 1073741824) (ax:∀ x∈L,Zs x):
 Calls Tryz.prog 89 #[.slice A n c,.int .i64 m] w fun e w'=>e= .returned (.bool (decide (Dp (L.map Bj.op) m)))/\Below w.heap.size w w':=by
 have cp:(∀ o∈L.map Bj.op,R3 o)↔∀ x∈L,Fa x:=by
  constructor
  ·intro h x hx;exact h _ (List.mem_map_of_mem hx)
  ·intro h o ho;obtain⟨x,hx,rfl⟩:=List.mem_map.1 ho;exact h x hx
 by_cases h0:n=0
 ·have hE:=Aa (show decide (Dp (L.map Bj.op) m)=false from decide_eq_false fun h=>by have:=h.1;rw [List.length_map,hn] at this;omega);rw [hE.out];subst h0;clear hr hn ax cp hE;go_enter Tryz.func89,Tryz.ntmps89;go_wp2_with fail
  go_loopw [5] (fun i wr=>i= .int .i64 0/\Below w.heap.size w wr) (fun _ _=>0)
  case atStart=>exact⟨rfl,Below.refl _ _⟩
  case round=>
   obtain⟨rfl,hb⟩:=hrel;go_wp2_with fail;go_ret;exact⟨rfl,hb⟩
 by_cases h2:(n:Int)<=m;rotate_left
 ·have hE:=Aa (show decide (Dp (L.map Bj.op) m)=false from decide_eq_false fun h=>h2 (by have:=h.2.1;rw [List.length_map,hn] at this;exact this));rw [hE.out];have z1:(0:Int) < n:=by omega
  have z2:(1:Int)<=n:=by omega
  clear hr hn ax cp hE h0;go_enter Tryz.func89,Tryz.ntmps89;go_wp2_with fail
  go_loopw [5] (fun i wr=>i= .int .i64 0/\Below w.heap.size w wr) (fun _ _=>0)
  case atStart=>exact⟨rfl,Below.refl _ _⟩
  case round=>
   obtain⟨rfl,hb⟩:=hrel;go_wp2_with fail;go_ret;exact⟨Ae (decide_eq_false (by omega)),hb⟩
 have hE:∀ b,decide (∀ x∈L,Fa x)=b->decide (Dp (L.map Bj.op) m)=b:=by
  intro b hb;rw [<-hb];exact decide_eq_decide.2 ⟨fun h=>cp.1 h.2.2,fun h=>⟨by rw [List.length_map,hn];omega,by rw [List.length_map,hn];exact h2,cp.2 h⟩⟩
 have HE:=Aa hE;have HR:=Aa hr;have Hn:=Aa hn;have js:=Aa ax;have z2:(1:Int)<=n:=by omega
 clear hr hn ax cp hE h0;go_enter Tryz.func89,Tryz.ntmps89;go_wp2_with fail
 go_loopw [5] (fun i wr=>∃ j:Nat,j<=n/\i= .int .i64 (j:Int)/\Hid (∀ x∈L.take j,Fa x)/\Below w.heap.size w wr) (fun i _=>n - (intOf i).toNat)
 case atStart=>exact⟨0,by omega,rfl,Aa (fun x hx=>by cases hx),Below.refl _ _⟩
 case round=>
  obtain⟨j,hj,rfl,HM,hb⟩:=hrel;by_cases ai:j < n
  ·have ap:j < L.length:=by rw [Hn.out];exact ai
   have z0:(j:Int) < n:=by omega
   have zj:(0:Int)<=j:=by omega
   have pg:=(HR.out.below hb).more hb.size;obtain⟨bb,bo,rfl,hB,hC⟩:=RO.cell pg (by omega);obtain⟨d0,d1,d2,d3,d4⟩:=hC j ap;obtain⟨x,hx⟩:∃ x,L[j]=x:=⟨_,rfl⟩;rw [hx] at d0 d1 d2 d3 d4;have ba:x∈L:=by rw [<-hx];exact List.getElem_mem ap
   have Hx:=Aa ba;have jk:=Aa (show L.take (j+1)=L.take j++ [x] by rw [List.take_succ_eq_append_getElem ap,hx]);have jb:=js.out x ba;have hP:=Aa (Nx x.k x.t x.r x.z x.A x.p.length x.c x.p wr (pg.2 x ba) rfl jb.2.2.1);clear hC hx ba jb pg;by_cases hm:Dz x.k x.t x.r x.p x.z;rotate_left
   ·rw [decide_eq_false hm] at hP;have Hm:=Aa (HE.out false (decide_eq_false fun h=>hm (h x Hx.out)));clear hm;go_wp2_with fail;refine hP.out.mono ?_;rintro e w2 ⟨rfl,ae⟩;go_wp2_with fail;go_ret;exact⟨Ae Hm.out.symm,Ad hb ae⟩
   ·rw [decide_eq_true hm] at hP;have Hm:=Aa hm;clear hm;go_wp2_with fail;refine hP.out.mono ?_;rintro e w2 ⟨rfl,ae⟩;go_wp2_with fail;go_roundw
    case rel=>
     refine⟨j+1,by omega,by go_num,Aa fun q hq=>?_,Ad hb ae⟩;rw [jk.out] at hq;rcases List.mem_append.1 hq with h | h
     ·exact HM.out q h
     ·simp only [List.mem_singleton] at h;subst h;exact Hm.out
    case measure=>simp [intOf];omega
  ·have z0:¬ (j:Int) < n:=by omega
   have Ha:=Aa (HE.out true (decide_eq_true (by have:=HM.out;rwa [List.take_of_length_le (by rw [Hn.out];omega)] at this)));go_wp2_with fail;go_ret;exact⟨Ae Ha.out.symm,hb⟩
theorem Pi {b:Bool} {n:Nat}:b=true\/b=false/\n=0\/b=false/\¬ n=0:=by
 cases b
 ·by_cases h:n=0
  ·exact .inr (.inl ⟨rfl,h⟩)
  ·exact .inr (.inr ⟨rfl,h⟩)
 ·exact .inl rfl
theorem Yg (k t r ix:Int) (iA oA sA:Option Addr) (ni ic no oc ns sc:Nat) (bs bi bc bw bo:Bool) (w:World):
 Calls Tryz.prog 88 #[Ci k t r ix (.slice iA ni ic) (.slice oA no oc) (.slice sA ns sc),.bool bs,.bool bi,.bool bc,.bool bw,.bool bo] w fun e w'=>e= .returned (.bool ((bs || decide (t=0/\r=0)) && (bi || decide (ix=0)) && (bc || decide (ni=0)) && (bw || decide (ns=0)) && (bo || decide (no=0))))/\Below w.heap.size w w':=by
 obtain⟨w1,au,F1,af,ac⟩:=Am w (.int .u8 k) (.int .u32 t) (.int .u8 r) (.int .i64 ix) (.slice iA ni ic) (.slice oA no oc) (.slice sA ns sc);obtain⟨a0,a1,a2,a3,a4,a5,a6⟩:=F1.cells;clear F1;have q1:bs=true\/bs=false/\(t=0/\r=0)\/bs=false/\¬ t=0\/bs=false/\(t=0/\¬ r=0):=by
  cases bs
  ·by_cases h:t=0
   ·by_cases h':r=0
    ·exact .inr (.inl ⟨rfl,h,h'⟩)
    ·exact .inr (.inr (.inr ⟨rfl,h,h'⟩))
   ·exact .inr (.inr (.inl ⟨rfl,h⟩))
  ·exact .inl rfl
 have q2:bi=true\/bi=false/\ix=0\/bi=false/\¬ ix=0:=by
  cases bi
  ·by_cases h:ix=0
   ·exact .inr (.inl ⟨rfl,h⟩)
   ·exact .inr (.inr ⟨rfl,h⟩)
  ·exact .inl rfl
 have q3:=Pi (b:=bc) (n:=ni);have q4:=Pi (b:=bw) (n:=ns);have q5:=Pi (b:=bo) (n:=no);rcases q1 with rfl | ⟨rfl,rfl,rfl⟩ | ⟨rfl,h1⟩ | ⟨rfl,rfl,h1⟩
 ·rcases q2 with rfl | ⟨rfl,rfl⟩ | ⟨rfl,h1⟩
  ·rcases q3 with rfl | ⟨rfl,rfl⟩ | ⟨rfl,h1⟩
   ·rcases q4 with rfl | ⟨rfl,rfl⟩ | ⟨rfl,h1⟩
    ·rcases q5 with rfl | ⟨rfl,rfl⟩ | ⟨rfl,h1⟩
     ·go_enter Tryz.func88,Tryz.ntmps88;go_wp2_with fail;go_ret;exact⟨Ae (by rfl),ac⟩
     ·go_enter Tryz.func88,Tryz.ntmps88;go_wp2_with fail;go_ret;exact⟨Ae (by rfl),ac⟩
     ·have z:¬ (no:Int)=0:=by omega
      have zb:((no:Int) == 0)=false:=beq_eq_false_iff_ne.2 z;go_enter Tryz.func88,Tryz.ntmps88;go_wp2_with fail;go_ret;exact⟨Ae (by simp [h1]),ac⟩
    ·rcases q5 with rfl | ⟨rfl,rfl⟩ | ⟨rfl,h1⟩
     ·go_enter Tryz.func88,Tryz.ntmps88;go_wp2_with fail;go_ret;exact⟨Ae (by rfl),ac⟩
     ·go_enter Tryz.func88,Tryz.ntmps88;go_wp2_with fail;go_ret;exact⟨Ae (by rfl),ac⟩
     ·have z:¬ (no:Int)=0:=by omega
      have zb:((no:Int) == 0)=false:=beq_eq_false_iff_ne.2 z;go_enter Tryz.func88,Tryz.ntmps88;go_wp2_with fail;go_ret;exact⟨Ae (by simp [h1]),ac⟩
    ·have z:¬ (ns:Int)=0:=by omega
     have zb:((ns:Int) == 0)=false:=beq_eq_false_iff_ne.2 z;go_enter Tryz.func88,Tryz.ntmps88;go_wp2_with fail;go_ret;exact⟨Ae (by simp [h1]),ac⟩
   ·rcases q4 with rfl | ⟨rfl,rfl⟩ | ⟨rfl,h1⟩
    ·rcases q5 with rfl | ⟨rfl,rfl⟩ | ⟨rfl,h1⟩
     ·go_enter Tryz.func88,Tryz.ntmps88;go_wp2_with fail;go_ret;exact⟨Ae (by rfl),ac⟩
     ·go_enter Tryz.func88,Tryz.ntmps88;go_wp2_with fail;go_ret;exact⟨Ae (by rfl),ac⟩
     ·have z:¬ (no:Int)=0:=by omega
      have zb:((no:Int) == 0)=false:=beq_eq_false_iff_ne.2 z;go_enter Tryz.func88,Tryz.ntmps88;go_wp2_with fail;go_ret;exact⟨Ae (by simp [h1]),ac⟩
    ·rcases q5 with rfl | ⟨rfl,rfl⟩ | ⟨rfl,h1⟩
     ·go_enter Tryz.func88,Tryz.ntmps88;go_wp2_with fail;go_ret;exact⟨Ae (by rfl),ac⟩
     ·go_enter Tryz.func88,Tryz.ntmps88;go_wp2_with fail;go_ret;exact⟨Ae (by rfl),ac⟩
     ·have z:¬ (no:Int)=0:=by omega
      have zb:((no:Int) == 0)=false:=beq_eq_false_iff_ne.2 z;go_enter Tryz.func88,Tryz.ntmps88;go_wp2_with fail;go_ret;exact⟨Ae (by simp [h1]),ac⟩
    ·have z:¬ (ns:Int)=0:=by omega
     have zb:((ns:Int) == 0)=false:=beq_eq_false_iff_ne.2 z;go_enter Tryz.func88,Tryz.ntmps88;go_wp2_with fail;go_ret;exact⟨Ae (by simp [h1]),ac⟩
   ·have z:¬ (ni:Int)=0:=by omega
    have zb:((ni:Int) == 0)=false:=beq_eq_false_iff_ne.2 z;go_enter Tryz.func88,Tryz.ntmps88;go_wp2_with fail;go_ret;exact⟨Ae (by simp [h1]),ac⟩
  ·rcases q3 with rfl | ⟨rfl,rfl⟩ | ⟨rfl,h1⟩
   ·rcases q4 with rfl | ⟨rfl,rfl⟩ | ⟨rfl,h1⟩
    ·rcases q5 with rfl | ⟨rfl,rfl⟩ | ⟨rfl,h1⟩
     ·go_enter Tryz.func88,Tryz.ntmps88;go_wp2_with fail;go_ret;exact⟨Ae (by rfl),ac⟩
     ·go_enter Tryz.func88,Tryz.ntmps88;go_wp2_with fail;go_ret;exact⟨Ae (by rfl),ac⟩
     ·have z:¬ (no:Int)=0:=by omega
      have zb:((no:Int) == 0)=false:=beq_eq_false_iff_ne.2 z;go_enter Tryz.func88,Tryz.ntmps88;go_wp2_with fail;go_ret;exact⟨Ae (by simp [h1]),ac⟩
    ·rcases q5 with rfl | ⟨rfl,rfl⟩ | ⟨rfl,h1⟩
     ·go_enter Tryz.func88,Tryz.ntmps88;go_wp2_with fail;go_ret;exact⟨Ae (by rfl),ac⟩
     ·go_enter Tryz.func88,Tryz.ntmps88;go_wp2_with fail;go_ret;exact⟨Ae (by rfl),ac⟩
     ·have z:¬ (no:Int)=0:=by omega
      have zb:((no:Int) == 0)=false:=beq_eq_false_iff_ne.2 z;go_enter Tryz.func88,Tryz.ntmps88;go_wp2_with fail;go_ret;exact⟨Ae (by simp [h1]),ac⟩
    ·have z:¬ (ns:Int)=0:=by omega
     have zb:((ns:Int) == 0)=false:=beq_eq_false_iff_ne.2 z;go_enter Tryz.func88,Tryz.ntmps88;go_wp2_with fail;go_ret;exact⟨Ae (by simp [h1]),ac⟩
   ·rcases q4 with rfl | ⟨rfl,rfl⟩ | ⟨rfl,h1⟩
    ·rcases q5 with rfl | ⟨rfl,rfl⟩ | ⟨rfl,h1⟩
     ·go_enter Tryz.func88,Tryz.ntmps88;go_wp2_with fail;go_ret;exact⟨Ae (by rfl),ac⟩
     ·go_enter Tryz.func88,Tryz.ntmps88;go_wp2_with fail;go_ret;exact⟨Ae (by rfl),ac⟩
     ·have z:¬ (no:Int)=0:=by omega
      have zb:((no:Int) == 0)=false:=beq_eq_false_iff_ne.2 z;go_enter Tryz.func88,Tryz.ntmps88;go_wp2_with fail;go_ret;exact⟨Ae (by simp [h1]),ac⟩
    ·rcases q5 with rfl | ⟨rfl,rfl⟩ | ⟨rfl,h1⟩
     ·go_enter Tryz.func88,Tryz.ntmps88;go_wp2_with fail;go_ret;exact⟨Ae (by rfl),ac⟩
     ·go_enter Tryz.func88,Tryz.ntmps88;go_wp2_with fail;go_ret;exact⟨Ae (by rfl),ac⟩
     ·have z:¬ (no:Int)=0:=by omega
      have zb:((no:Int) == 0)=false:=beq_eq_false_iff_ne.2 z;go_enter Tryz.func88,Tryz.ntmps88;go_wp2_with fail;go_ret;exact⟨Ae (by simp [h1]),ac⟩
    ·have z:¬ (ns:Int)=0:=by omega
     have zb:((ns:Int) == 0)=false:=beq_eq_false_iff_ne.2 z;go_enter Tryz.func88,Tryz.ntmps88;go_wp2_with fail;go_ret;exact⟨Ae (by simp [h1]),ac⟩
   ·have z:¬ (ni:Int)=0:=by omega
    have zb:((ni:Int) == 0)=false:=beq_eq_false_iff_ne.2 z;go_enter Tryz.func88,Tryz.ntmps88;go_wp2_with fail;go_ret;exact⟨Ae (by simp [h1]),ac⟩
  ·go_enter Tryz.func88,Tryz.ntmps88;go_wp2_with fail;go_ret;exact⟨Ae (by simp [h1]),ac⟩
 ·rcases q2 with rfl | ⟨rfl,rfl⟩ | ⟨rfl,h1⟩
  ·rcases q3 with rfl | ⟨rfl,rfl⟩ | ⟨rfl,h1⟩
   ·rcases q4 with rfl | ⟨rfl,rfl⟩ | ⟨rfl,h1⟩
    ·rcases q5 with rfl | ⟨rfl,rfl⟩ | ⟨rfl,h1⟩
     ·go_enter Tryz.func88,Tryz.ntmps88;go_wp2_with fail;go_ret;exact⟨Ae (by rfl),ac⟩
     ·go_enter Tryz.func88,Tryz.ntmps88;go_wp2_with fail;go_ret;exact⟨Ae (by rfl),ac⟩
     ·have z:¬ (no:Int)=0:=by omega
      have zb:((no:Int) == 0)=false:=beq_eq_false_iff_ne.2 z;go_enter Tryz.func88,Tryz.ntmps88;go_wp2_with fail;go_ret;exact⟨Ae (by simp [h1]),ac⟩
    ·rcases q5 with rfl | ⟨rfl,rfl⟩ | ⟨rfl,h1⟩
     ·go_enter Tryz.func88,Tryz.ntmps88;go_wp2_with fail;go_ret;exact⟨Ae (by rfl),ac⟩
     ·go_enter Tryz.func88,Tryz.ntmps88;go_wp2_with fail;go_ret;exact⟨Ae (by rfl),ac⟩
     ·have z:¬ (no:Int)=0:=by omega
      have zb:((no:Int) == 0)=false:=beq_eq_false_iff_ne.2 z;go_enter Tryz.func88,Tryz.ntmps88;go_wp2_with fail;go_ret;exact⟨Ae (by simp [h1]),ac⟩
    ·have z:¬ (ns:Int)=0:=by omega
     have zb:((ns:Int) == 0)=false:=beq_eq_false_iff_ne.2 z;go_enter Tryz.func88,Tryz.ntmps88;go_wp2_with fail;go_ret;exact⟨Ae (by simp [h1]),ac⟩
   ·rcases q4 with rfl | ⟨rfl,rfl⟩ | ⟨rfl,h1⟩
    ·rcases q5 with rfl | ⟨rfl,rfl⟩ | ⟨rfl,h1⟩
     ·go_enter Tryz.func88,Tryz.ntmps88;go_wp2_with fail;go_ret;exact⟨Ae (by rfl),ac⟩
     ·go_enter Tryz.func88,Tryz.ntmps88;go_wp2_with fail;go_ret;exact⟨Ae (by rfl),ac⟩
     ·have z:¬ (no:Int)=0:=by omega
      have zb:((no:Int) == 0)=false:=beq_eq_false_iff_ne.2 z;go_enter Tryz.func88,Tryz.ntmps88;go_wp2_with fail;go_ret;exact⟨Ae (by simp [h1]),ac⟩
    ·rcases q5 with rfl | ⟨rfl,rfl⟩ | ⟨rfl,h1⟩
     ·go_enter Tryz.func88,Tryz.ntmps88;go_wp2_with fail;go_ret;exact⟨Ae (by rfl),ac⟩
     ·go_enter Tryz.func88,Tryz.ntmps88;go_wp2_with fail;go_ret;exact⟨Ae (by rfl),ac⟩
     ·have z:¬ (no:Int)=0:=by omega
      have zb:((no:Int) == 0)=false:=beq_eq_false_iff_ne.2 z;go_enter Tryz.func88,Tryz.ntmps88;go_wp2_with fail;go_ret;exact⟨Ae (by simp [h1]),ac⟩
    ·have z:¬ (ns:Int)=0:=by omega
     have zb:((ns:Int) == 0)=false:=beq_eq_false_iff_ne.2 z;go_enter Tryz.func88,Tryz.ntmps88;go_wp2_with fail;go_ret;exact⟨Ae (by simp [h1]),ac⟩
   ·have z:¬ (ni:Int)=0:=by omega
    have zb:((ni:Int) == 0)=false:=beq_eq_false_iff_ne.2 z;go_enter Tryz.func88,Tryz.ntmps88;go_wp2_with fail;go_ret;exact⟨Ae (by simp [h1]),ac⟩
  ·rcases q3 with rfl | ⟨rfl,rfl⟩ | ⟨rfl,h1⟩
   ·rcases q4 with rfl | ⟨rfl,rfl⟩ | ⟨rfl,h1⟩
    ·rcases q5 with rfl | ⟨rfl,rfl⟩ | ⟨rfl,h1⟩
     ·go_enter Tryz.func88,Tryz.ntmps88;go_wp2_with fail;go_ret;exact⟨Ae (by rfl),ac⟩
     ·go_enter Tryz.func88,Tryz.ntmps88;go_wp2_with fail;go_ret;exact⟨Ae (by rfl),ac⟩
     ·have z:¬ (no:Int)=0:=by omega
      have zb:((no:Int) == 0)=false:=beq_eq_false_iff_ne.2 z;go_enter Tryz.func88,Tryz.ntmps88;go_wp2_with fail;go_ret;exact⟨Ae (by simp [h1]),ac⟩
    ·rcases q5 with rfl | ⟨rfl,rfl⟩ | ⟨rfl,h1⟩
     ·go_enter Tryz.func88,Tryz.ntmps88;go_wp2_with fail;go_ret;exact⟨Ae (by rfl),ac⟩
     ·go_enter Tryz.func88,Tryz.ntmps88;go_wp2_with fail;go_ret;exact⟨Ae (by rfl),ac⟩
     ·have z:¬ (no:Int)=0:=by omega
      have zb:((no:Int) == 0)=false:=beq_eq_false_iff_ne.2 z;go_enter Tryz.func88,Tryz.ntmps88;go_wp2_with fail;go_ret;exact⟨Ae (by simp [h1]),ac⟩
    ·have z:¬ (ns:Int)=0:=by omega
     have zb:((ns:Int) == 0)=false:=beq_eq_false_iff_ne.2 z;go_enter Tryz.func88,Tryz.ntmps88;go_wp2_with fail;go_ret;exact⟨Ae (by simp [h1]),ac⟩
   ·rcases q4 with rfl | ⟨rfl,rfl⟩ | ⟨rfl,h1⟩
    ·rcases q5 with rfl | ⟨rfl,rfl⟩ | ⟨rfl,h1⟩
     ·go_enter Tryz.func88,Tryz.ntmps88;go_wp2_with fail;go_ret;exact⟨Ae (by rfl),ac⟩
     ·go_enter Tryz.func88,Tryz.ntmps88;go_wp2_with fail;go_ret;exact⟨Ae (by rfl),ac⟩
     ·have z:¬ (no:Int)=0:=by omega
      have zb:((no:Int) == 0)=false:=beq_eq_false_iff_ne.2 z;go_enter Tryz.func88,Tryz.ntmps88;go_wp2_with fail;go_ret;exact⟨Ae (by simp [h1]),ac⟩
    ·rcases q5 with rfl | ⟨rfl,rfl⟩ | ⟨rfl,h1⟩
     ·go_enter Tryz.func88,Tryz.ntmps88;go_wp2_with fail;go_ret;exact⟨Ae (by rfl),ac⟩
     ·go_enter Tryz.func88,Tryz.ntmps88;go_wp2_with fail;go_ret;exact⟨Ae (by rfl),ac⟩
     ·have z:¬ (no:Int)=0:=by omega
      have zb:((no:Int) == 0)=false:=beq_eq_false_iff_ne.2 z;go_enter Tryz.func88,Tryz.ntmps88;go_wp2_with fail;go_ret;exact⟨Ae (by simp [h1]),ac⟩
    ·have z:¬ (ns:Int)=0:=by omega
     have zb:((ns:Int) == 0)=false:=beq_eq_false_iff_ne.2 z;go_enter Tryz.func88,Tryz.ntmps88;go_wp2_with fail;go_ret;exact⟨Ae (by simp [h1]),ac⟩
   ·have z:¬ (ni:Int)=0:=by omega
    have zb:((ni:Int) == 0)=false:=beq_eq_false_iff_ne.2 z;go_enter Tryz.func88,Tryz.ntmps88;go_wp2_with fail;go_ret;exact⟨Ae (by simp [h1]),ac⟩
  ·go_enter Tryz.func88,Tryz.ntmps88;go_wp2_with fail;go_ret;exact⟨Ae (by simp [h1]),ac⟩
 ·go_enter Tryz.func88,Tryz.ntmps88;go_wp2_with fail;go_ret;exact⟨Ae (by simp [h1]),ac⟩
 ·go_enter Tryz.func88,Tryz.ntmps88;go_wp2_with fail;go_ret;exact⟨Ae (by simp [h1]),ac⟩
end Go.Proofs.YtmkpfdcnikgokaaGreat
