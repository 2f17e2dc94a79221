/-
  Texts of this claim, put together: Slices, FrameMath, Frame, FrameOpenM. What each theorem asks stands in its statement.
-/
import Derived.Lib.AppendZeros
import Derived.BigQuiet
import Derived.Test.YtmkpfdcnikgokaaGreatMd2
import Derived.Test.YtmkpfdcnikgokaaGreatMd3
import Derived.Test.YtmkpfdcnikgokaaGreatMd4
import Derived.Test.YtmkpfdcnikgokaaGreatMd5
import Derived.Test.YtmkpfdcnikgokaaGreatMd19
set_option linter.unusedVariables false
set_option linter.unusedSimpArgs false
set_option maxRecDepth 100000
set_option maxHeartbeats 25600000
namespace Go.Proofs.YtmkpfdcnikgokaaGreat
open Go.RowKit
theorem Ze (A B:Option Addr) (c d:Nat) (l m:List UInt8) (w:World) (hr:RB w w.heap.size A l) (hs:RB w w.heap.size B m) (hl:l.length < 1073741824) (hm:m.length < 1073741824):
 Calls Tryz.prog 100 #[.slice A l.length c,.slice B m.length d] w fun e w'=>e= .returned (.bool (l == m))/\Below w.heap.size w w':=by
 by_cases ak:(l.length:Int)=(m.length:Int)
 ·have tg:l.length=m.length:=by omega
  have E:=Aa tg;have ng:((l.length:Int) == (m.length:Int))=true:=by simpa using ak
  have ot:((l.length:Int) != (m.length:Int))=false:=by simpa using ak
  clear ak;go_enter Tryz.func100,Tryz.ntmps100;clear tg;go_wp2_with fail
  go_loopw [13] (fun i wr=>∃ k:Nat,k<=l.length/\i= .int .i64 (k:Int)/\Hid (l.take k=m.take k)/\Below w.heap.size w wr) (fun i _=>l.length - (intOf i).toNat)
  case atStart=>exact⟨0,by omega,rfl,Aa rfl,Below.refl _ _⟩
  case round=>
   obtain⟨k,hk,rfl,hT,hb⟩:=hrel;by_cases ai:k < l.length
   ·have di:k < m.length:=by have:=E.out;omega
    obtain⟨b0,o0,rfl,py,er⟩:=RB.cell (RD.below hr hb) (by omega);obtain⟨b1,o1,rfl,eb,kh⟩:=RB.cell (RD.below hs hb) (by omega);have d0:=er k ai;have d1:=kh k di;clear er kh;have z0:(k:Int) < l.length:=by omega
    have z1:(k:Int) < m.length:=by omega
    have z4:(0:Int)<=k:=by omega
    obtain⟨x,hx⟩:∃ x,x=l[k]:=⟨_,rfl⟩;obtain⟨y,hy⟩:∃ y,y=m[k]:=⟨_,rfl⟩;rw [<-hx] at d0;rw [<-hy] at d1;have ZW:=Aa hx;have zd:=Aa hy;clear hx hy;by_cases jy:x=y
    ·have hn:((x.toNat:Int) != (y.toNat:Int))=false:=by simp [jy]
     have VL:=Aa jy;clear jy;go_wp2_with fail
     go_quiet (fail)
     go_wp2_with fail;go_roundw
     case rel=>
      refine⟨k+1,by omega,by go_num,Aa ?_,Bk hb _⟩;rw [List.take_succ_eq_append_getElem ai,List.take_succ_eq_append_getElem di,hT.out,<-ZW.out,<-zd.out,VL.out]
     case measure=>simp [intOf];omega
    ·have hn:((x.toNat:Int) != (y.toNat:Int))=true:=by
      simp only [bne_iff_ne,ne_eq,Int.natCast_inj];exact fun e=>jy (UInt8.toNat_inj.1 e)
     have VL:=Aa jy;clear jy;go_wp2_with fail
     go_quiet (fail)
     go_wp2_with fail;go_ret;refine⟨Ae ?_,Bk hb _⟩
     symm
     rw [beq_eq_false_iff_ne];intro e;subst e;exact VL.out (ZW.out.trans zd.out.symm)
   ·have qv:¬ (k:Int) < l.length:=by omega
    have fin:=Aa (show (l == m)=true by
     have h1:=hT.out
     rw [List.take_of_length_le (by omega),List.take_of_length_le (by have:=E.out;omega)] at h1
     simpa using h1)
    go_wp2_with fail;go_ret;exact⟨Ae fin.out.symm,hb⟩
 ·have ng:((l.length:Int) == (m.length:Int))=false:=by simpa using ak
  have ot:((l.length:Int) != (m.length:Int))=true:=by simpa using ak
  have fin:=Aa (show (l == m)=false by
   rw [beq_eq_false_iff_ne]
   intro e
   exact ak (by rw [e]))
  clear ak;go_enter Tryz.func100,Tryz.ntmps100;go_wp2_with fail;go_ret;exact⟨Ae fin.out.symm,Below.refl _ _⟩
theorem X2 (w:World) (a:Option Addr) (n c:Nat):(binOp .eql 23 (.slice a n c) (.slice none 0 0)).run Tryz.prog w= .ok (.bool a.isNone) w:=by
 simp only [binOp];simp [run_equal_slice_nil w 23 5 a n c Tryz.underlying23]
theorem Rt (A:Option Addr) (n c:Nat) (l:List UInt8) (w:World) (hr:RB w w.heap.size A l) (hn:l.length=n) (hl:n < 1073741824) (ff:A=none->c=0):
 Calls Tryz.prog 101 #[.slice A n c] w fun e w'=>∃ v,e= .returned v/\w'.ownsRow w.heap.size 5 1 v l.length (Cw l)/\Below w.heap.size w w':=by
 subst hn;obtain⟨i0,cr,cb,cu,cq⟩:=info_parts Dq;rcases A with _ | a
 ·have hl0:l.length=0:=by
   rcases Nat.eq_zero_or_pos l.length with h | h
   ·exact h
   ·obtain⟨b,off,h,_⟩:=hr.2 h;cases h
  obtain rfl:=List.eq_nil_of_length_eq_zero hl0;obtain rfl:=ff rfl;clear ff hl0;have AH:=fun w:World=>X2 w none 0 0;go_enter Tryz.func101,Tryz.ntmps101;go_wp2_with fail;go_ret;exact⟨_,rfl,World.ownsRow_nil _ _ _ _,Below.refl _ _⟩
 ·clear ff;have AH:=fun w:World=>X2 w (some a) l.length c;go_enter Tryz.func101,Tryz.ntmps101;go_wp2_with (at_builtin;refine Ba _ rfl (.tmp 5) (.tmp 6) 23 rfl w.heap.size 5 i0 (.int .u8 0) 1 1 Tryz.underlying23 cr cb cu cq rfl (by decide) _ 0 [] rfl (Fx w _ _ _ (Nat.le_refl _)) w.heap.size (some a) l.length c (Cw l) rfl (RD.alloc hr (Nat.le_refl _) _) (Ce _) (by omega) (by decide) (by simp) ?_;intro v1 w1 aq ac;simp only [Nat.zero_add,List.nil_append] at aq);go_ret;exact⟨_,rfl,aq,((Below.refl w.heap.size w).alloc (Nat.le_refl _) _).trans ac⟩
theorem Abn (n:Nat) (w:World) (hn:n < 1073741824):
 Calls Tryz.prog 125 #[.slice none 0 0,.int .i64 (n:Int)] w fun e w'=>∃ v,e= .returned v/\w'.ownsRow w.heap.size 5 1 v 0 []/\Below w.heap.size w w':=by
 obtain⟨i0,cr,cb,cu,cq⟩:=info_parts Dq;by_cases h0:0 < n
 ·have h0':(0:Int) < n:=by omega
  go_enter Tryz.func125,Tryz.ntmps125;go_wp2_with (at_builtin;refine Lib.wpList_append_run _ rfl (.tmp 20) (.tmp 21) 23 3 rfl _ _ rfl rfl _ _ (Lib.run_append_nil_zeros w 23 3 _ 5 i0 (.int .u8 0) .i64 .i64 Tryz.underlying23 Tryz.underlying3 cr cb n h0 (by omega) (by omega) (by rw [cq];omega)) ?_);go_ret;refine⟨_,rfl,?_,((Below.refl w.heap.size w).alloc (Nat.le_refl _) _).drew⟩;have hge:=grownCap_ge w n 0 5;exact (World.ownsRow_made w _ (grownCap w n 0 5) (Nat.le_refl _) (grownCap_le_maxLen w n 0 _ (by unfold maxLen;omega)) (by simp [size_zeroCells];omega)).drew
 ·have h0':¬ (0:Int) < n:=by omega
  have NU:n=0:=by omega
  subst NU;go_enter Tryz.func125,Tryz.ntmps125;go_wp2_with fail;go_ret;exact⟨_,rfl,World.ownsRow_nil _ _ _ _,Below.refl _ _⟩
def It (xs:List (Option Addr×List UInt8×Nat)) (k:Nat):List UInt8:=(xs.take k).flatMap fun x=>x.2.1
theorem Rf (xs:List (Option Addr×List UInt8×Nat)) (k:Nat) (h:k < xs.length):It xs (k+1)=It xs k++xs[k].2.1:=by
 unfold It;rw [List.take_succ_eq_append_getElem h,List.flatMap_append];simp
theorem Ss (xs:List (Option Addr×List UInt8×Nat)) (k:Nat):(It xs k).length<=(It xs xs.length).length:=by
 have:It xs xs.length=It xs k++(xs.drop k).flatMap fun x=>x.2.1:=by
  unfold It;rw [List.take_length,<-List.flatMap_append,List.take_append_drop]
 rw [this,List.length_append];omega
theorem W7 (b c:Nat) (xs:List (Option Addr×List UInt8×Nat)) (w:World) (hb:b < w.heap.size) (hc:∀ j (h:j < xs.length),w.cell? ⟨b,j,none⟩=some (.slice xs[j].1 xs[j].2.1.length xs[j].2.2))
 (hr:∀ j (h:j < xs.length),RB w w.heap.size xs[j].1 xs[j].2.1) (hl:(It xs xs.length).length < 1073741824) (hm:xs.length < 1000):
 Calls Tryz.prog 87 #[.slice (some ⟨b,0,none⟩) xs.length c] w fun e w'=>∃ v,e= .returned v/\w'.ownsRow w.heap.size 5 1 v (It xs xs.length).length (Cw (It xs xs.length))/\Below w.heap.size w w':=by
 obtain⟨i0,cr,cb,cu,cq⟩:=info_parts Dq;have HC:=Aa hc;have HR:=Aa hr;have hml:(xs.length:Int) < 1000:=by omega
 clear hc hr;go_enter Tryz.func87,Tryz.ntmps87;go_wp2_with fail
 go_loop [3,11] (fun n i=>∃ k:Nat,k<=xs.length/\i= .int .i64 (k:Int)/\n= .int .i64 ((It xs k).length:Int)) (fun _ i=>xs.length - (intOf i).toNat)
 case atStart=>exact⟨0,by omega,rfl,rfl⟩
 case round=>
  obtain⟨k,hk,rfl,rfl⟩:=hrel;have xg:=Ss xs k;by_cases ai:k < xs.length
  ·have CN:=HC.out k ai;have hle2:=Ss xs (k+1);have hs:=congrArg List.length (Rf xs k ai);rw [List.length_append] at hs;have hsum:((It xs k).length:Int)+(xs[k].2.1.length:Int)<=1073741824:=by omega
   have xw:=Aa hs;clear hs;generalize xs[k].1=A1 at CN;generalize xs[k].2.1.length=n1 at CN hsum xw;generalize xs[k].2.2=c1 at CN;go_wp2_with fail
   go_round
   case rel=>exact⟨k+1,by omega,by go_num,Ge (by have:=xw.out;omega)⟩
   case measure=>simp [intOf];omega
  ·have qv:k=xs.length:=by omega
   subst qv;go_wp2_with fail;refine (Abn _ w hl).mono ?_;rintro e w1 ⟨v1,rfl,aq,ac⟩;clear xg ai hk;go_wp2_with fail
   go_loopw [6,27] (fun v i wr=>∃ k:Nat,k<=xs.length/\i= .int .i64 (k:Int)/\wr.ownsRow w.heap.size 5 1 v (It xs k).length (Cw (It xs k))/\Below w.heap.size w wr) (fun _ i _=>xs.length - (intOf i).toNat)
   case atStart=>exact⟨0,by omega,rfl,aq,ac⟩
   case round=>
    obtain⟨k,hk,rfl,ah,lj⟩:=hrel;by_cases ai:k < xs.length
    ·have CN:=(lj.cell (p:=⟨b,k,none⟩) hb).trans (HC.out k ai);have hle2:=Ss xs (k+1);have hs:=Rf xs k ai;have hrk:=RD.below (HR.out k ai) lj;have xw:=Aa hs;have tg:=congrArg List.length hs;rw [List.length_append] at tg;have hll':(It xs k).length+xs[k].2.1.length<=1073741824:=by omega
     clear hs tg;generalize xs[k].1=A1 at CN hrk;generalize xs[k].2.2=c1 at CN;generalize xs[k].2.1=l1 at CN hrk xw hll';go_wp2_with (at_builtin;refine Ba _ rfl (.tmp 31) (.tmp 32) 23 rfl w.heap.size 5 i0 (.int .u8 0) 1 1 Tryz.underlying23 cr cb cu cq rfl (by decide) _ _ _ rfl ah w.heap.size A1 l1.length c1 (Cw l1) rfl hrk (Ce _) hll' (by decide) lj.size ?_;intro v2 w2 cm ae);go_roundw
     case rel=>exact⟨k+1,by omega,by go_num,by rw [xw.out,Bg,List.length_append];exact cm,lj.trans ae⟩
     case measure=>simp [intOf];omega
    ·have qv:k=xs.length:=by omega
     subst qv;go_wp2_with fail;go_ret;exact⟨_,rfl,ah,lj⟩
end Go.Proofs.YtmkpfdcnikgokaaGreat
namespace Go.Proofs.YtmkpfdcnikgokaaGreat
def Dk (t:List UInt8):List UInt8:=t++ [Dt (sm t) 0,Dt (sm t) 1,Dt (sm t) 2,Dt (sm t) 3]
theorem I8 (t:List UInt8):(Dk t).length=t.length+4:=by simp [Dk]
def Gs (l:List UInt8):List UInt8:=70 :: (nb l.length++l)
def Jf (l:List UInt8):List UInt8:=Dk (Gs l)
theorem Ib (l:List UInt8):(Gs l).length=1+(nb l.length).length+l.length:=by simp [Gs];omega
theorem X1 (l:List UInt8):(Jf l).length=5+(nb l.length).length+l.length:=by rw [Jf,I8,Ib];omega
def J3 (b:List UInt8):Option (List UInt8):=
 if b.length < 6\/b.head?≠some 70 then none else
 match Ew ((b.take (b.length - 4)).drop 1) with
 | none=>none
 | some (n,s)=>if n > 16384\/1+s+n≠b.length - 4\/Dk (b.take (b.length - 4))≠b then none else some ((b.take (b.length - 4)).drop (1+s))
theorem Ly (t:List UInt8):(Dk t).take ((Dk t).length - 4)=t:=by
 rw [I8,Nat.add_sub_cancel,Dk,List.take_left'];rfl
theorem Aco (l:List UInt8) (h:l.length<=16384):J3 (Jf l)=some l:=by
 have hp:=Lv l.length;have hs:Ew (((Jf l).take ((Jf l).length - 4)).drop 1)=some (l.length,(nb l.length).length):=by
  rw [Jf,Ly,Gs,List.drop_one,List.tail_cons];exact Oh l.length l (by omega)
 unfold J3;rw [if_neg (by rw [X1];simp [Jf,Dk,Gs];omega),hs];simp only;rw [if_neg,Jf,Ly]
 ·congr 1
  rw [Gs,Nat.add_comm,List.drop_succ_cons,List.drop_left'];rfl
 ·rw [Jf,Ly,I8,Ib];simp;omega
theorem He {b l:List UInt8} (h:J3 b=some l):b=Jf l/\l.length<=16384:=by
 unfold J3 at h;by_cases h1:b.length < 6\/b.head?≠some 70
 ·rw [if_pos h1] at h;cases h
 rw [if_neg h1] at h
 cases hg:Ew ((b.take (b.length - 4)).drop 1) with
 | none=>rw [hg] at h;cases h
 | some ns=>
   obtain⟨n,s⟩:=ns;rw [hg] at h;simp only at h;by_cases h2:n > 16384\/1+s+n≠b.length - 4\/Dk (b.take (b.length - 4))≠b
   ·rw [if_pos h2] at h;cases h
   rw [if_neg h2] at h;simp only [Option.some.injEq] at h;obtain⟨t,ht⟩:∃ t,t=b.take (b.length - 4):=⟨_,rfl⟩;rw [<-ht] at h hg h2;have EH:t.length=b.length - 4:=by rw [ht,List.length_take];omega
   have SD:Dk t=b:=by
    rcases Classical.em (Dk t=b) with e | e
    ·exact e
    ·exact absurd (.inr (.inr e)) h2
   have hn:n<=16384:=by omega
   have hsum:1+s+n=t.length:=by omega
   obtain⟨hm,hs,hnb,QE⟩:=D6 hg;have tg:l.length=n:=by rw [<-h,List.length_drop];omega
   have hhead:t=70 :: t.drop 1:=by
    cases t with
    | nil=>simp at EH;omega
    | cons x t=>
      have:b.head?=some x:=by rw [<-SD];rfl
      have ET:b.head?=some 70:=by
       rcases Classical.em (b.head?=some 70) with e | e
       ·exact e
       ·exact absurd (.inr e) h1
      rw [this] at ET;simp only [Option.some.injEq] at ET;rw [ET];rfl
   refine⟨?_,by omega⟩;rw [<-SD,Jf]
   congr 1
   rw [hhead,Gs,tg,hnb]
   congr 1
   rw [<-h,<-List.drop_drop];exact (List.take_append_drop s _).symm
end Go.Proofs.YtmkpfdcnikgokaaGreat
namespace Go.Proofs.YtmkpfdcnikgokaaGreat
open Go.RowKit
def Mb (t:List UInt8) (k:Nat):List UInt8:=t++ [Dt (sm t) 0,Dt (sm t) 1,Dt (sm t) 2,Dt (sm t) 3].take k
theorem Ys (t:List UInt8) (k:Nat) (h:k<=4):(Mb t k).length=t.length+k:=by simp [Mb];omega
theorem Wo (t:List UInt8) (k:Nat) (h:k < 4):Mb t (k+1)=Mb t k++ [Dt (sm t) k]:=by
 unfold Mb;rw [List.append_assoc]
 congr 1
 have:k=0\/k=1\/k=2\/k=3:=by omega
 rcases this with rfl | rfl | rfl | rfl <;> rfl
theorem Qw (B:Nat) (v:Value) (t:List UInt8) (w:World) (ah:w.ownsRow B 5 1 v t.length (Cw t)) (hB:B<=w.heap.size) (ht:t.length < 100000):
 Calls Tryz.prog 86 #[v] w fun e w'=>∃ v',e= .returned v'/\w'.ownsRow B 5 1 v' (Dk t).length (Cw (Dk t))/\Below B w w':=by
 obtain⟨i0,cr,cb,cu,cq⟩:=info_parts Dq;obtain⟨A,c,rfl,hc,CM,-⟩:=Ao ah;have hr:RB w w.heap.size A t:=RD.of_own ah;go_enter Tryz.func86,Tryz.ntmps86;go_wp2_with fail;refine (Aao _).mono ?_;rintro e w1 ⟨rfl,ac⟩;have rh:RB w1 w1.heap.size A t:=(RD.below hr ac).more ac.size;have aq:=Ai ah ac (Nat.le_refl _);go_wp2_with fail;refine (Ach tb A c t w1 rh (by omega)).mono ?_;rintro e w2 ⟨rfl,ae⟩;have cm:=Ai aq ae (Nat.le_refl _);have cg:=(Ad ac ae).mono hB;clear hr rh ah aq ac ae hc CM;go_wp2_with fail;have hs:=(X4 tb t).isLt
 obtain⟨y0,y1,y2,y3⟩:((X4 tb t).toNat:Int) % 256=((Dt (sm t) 0).toNat:Int)/\((X4 tb t).toNat:Int) / 256 % 256=((Dt (sm t) 1).toNat:Int)/\((X4 tb t).toNat:Int) / 65536 % 256=((Dt (sm t) 2).toNat:Int)/\
  ((X4 tb t).toNat:Int) / 16777216=((Dt (sm t) 3).toNat:Int):=by
  show ((sm t).toNat:Int) % 256=_/\((sm t).toNat:Int) / 256 % 256=_/\((sm t).toNat:Int) / 65536 % 256=_/\((sm t).toNat:Int) / 16777216=_;unfold Dt;simp only [UInt8.toNat_ofNat'];have hv:=(sm t).isLt;refine⟨?_,?_,?_,?_⟩ <;> omega
 go_loopw [0,8] (fun v i wr=>∃ k:Nat,k<=4/\i= .int .i64 (k:Int)/\wr.ownsRow B 5 1 v (Mb t k).length (Cw (Mb t k))/\Below B w wr) (fun _ i _=>4 - (intOf i).toNat)
 case atStart=>exact⟨0,by omega,rfl,by simpa [Mb] using cm,cg⟩
 case round=>
  obtain⟨k,hk,rfl,ah,lj⟩:=hrel;by_cases ai:k < 4
  ·have nc:=Ys t k (by omega);have gw:=Aa (Wo t k ai);have QN:=Nat.le_trans hB lj.size;have cn:(Mb t k).length < 1073741824:=by omega
   clear nc;have:k=0\/k=1\/k=2\/k=3:=by omega
   rcases this with rfl | rfl | rfl | rfl
   ·go_wp2_with (at_builtin;refine Dv rfl _ _ 23 rfl B i0 (.int .u8 0) 1 1 Tryz.underlying23 cr cb cu cq rfl (by decide) _ _ _ rfl ah 1 rfl rfl rfl cn (by decide) QN ?_;intro v1 w1 aq ac);go_roundw
    case rel=>exact⟨1,by omega,rfl,by rw [gw.out,Bg,List.length_append];exact aq,lj.trans ac⟩
    case measure=>simp [intOf]
   ·go_wp2_with (at_builtin;refine Dv rfl _ _ 23 rfl B i0 (.int .u8 0) 1 1 Tryz.underlying23 cr cb cu cq rfl (by decide) _ _ _ rfl ah 1 rfl rfl rfl cn (by decide) QN ?_;intro v1 w1 aq ac);go_roundw
    case rel=>exact⟨2,by omega,rfl,by rw [gw.out,Bg,List.length_append];exact aq,lj.trans ac⟩
    case measure=>simp [intOf]
   ·go_wp2_with (at_builtin;refine Dv rfl _ _ 23 rfl B i0 (.int .u8 0) 1 1 Tryz.underlying23 cr cb cu cq rfl (by decide) _ _ _ rfl ah 1 rfl rfl rfl cn (by decide) QN ?_;intro v1 w1 aq ac);go_roundw
    case rel=>exact⟨3,by omega,rfl,by rw [gw.out,Bg,List.length_append];exact aq,lj.trans ac⟩
    case measure=>simp [intOf]
   ·go_wp2_with (at_builtin;refine Dv rfl _ _ 23 rfl B i0 (.int .u8 0) 1 1 Tryz.underlying23 cr cb cu cq rfl (by decide) _ _ _ rfl ah 1 rfl rfl rfl cn (by decide) QN ?_;intro v1 w1 aq ac);go_roundw
    case rel=>exact⟨4,by omega,rfl,by rw [gw.out,Bg,List.length_append];exact aq,lj.trans ac⟩
    case measure=>simp [intOf]
  ·obtain rfl:k=4:=by omega
   have VT:¬ ((4:Nat):Int) < 4:=by omega
   go_wp2_with fail;go_ret;exact⟨_,rfl,ah,lj⟩
theorem Zd (w:World) (cs:Array Value) (e:TypeId) (o:Obj):((w.alloc (.cells cs e)).alloc o).heap[w.heap.size]?=some (.cells cs e (0,0)):=by
 show ((w.heap.push (.cells cs e)).push o)[w.heap.size]?=_;rw [Array.getElem?_push,if_neg (by rw [Array.size_push];omega),Array.getElem?_push,if_pos rfl]
theorem Ya (A:Option Addr) (c:Nat) (l:List UInt8) (w:World) (h:(16384:Int) < (l.length:Int)):
 Calls Tryz.prog 52 #[.slice A l.length c] w fun e w'=>e= .returned (.tuple #[.slice none 0 0,.int .i64 4])/\w=w':=by
 go_enter Tryz.func52,Tryz.ntmps52;go_wp2_with fail;go_ret2;exact⟨rfl,rfl⟩
theorem Acc (A:Option Addr) (c:Nat) (l:List UInt8) (w:World) (hr:RB w w.heap.size A l) (h:l.length<=16384):
 Calls Tryz.prog 52 #[.slice A l.length c] w fun e w'=>∃ v,e= .returned (.tuple #[v,.int .i64 0])/\w'.ownsRow w.heap.size 5 1 v (Jf l).length (Cw (Jf l))/\Below w.heap.size w w':=by
 have xg:(l.length:Int)<=16384:=by omega
 have C:=Aa (Z6 l.length w (by omega));have hsix:=Gw (n:=l.length) (by omega);go_enter Tryz.func52,Tryz.ntmps52;go_wp2_with fail;refine (Ag C).mono ?_;rintro e w1 ⟨v1,rfl,aq,ac⟩;obtain⟨A1,c1,rfl,-,-,-⟩:=Ao aq;have rh:RB w1 w1.heap.size A1 (nb l.length):=RD.of_own aq;have hrl:RB w1 w1.heap.size A l:=(RD.below hr ac).more ac.size;clear aq C;go_wp2_with fail;have QK:It [(some ⟨w1.heap.size,0,none⟩, [70],1),(A1,nb l.length,c1),(A,l,c)] 3=Gs l:=by simp [It,Gs]
 refine (W7 (w1.heap.size+1) 3 [(some ⟨w1.heap.size,0,none⟩, [70],1),(A1,nb l.length,c1),(A,l,c)] _ ?_ ?_ ?_ ?_ (by simp)).mono ?_
 ·rw [World.size_alloc,World.size_alloc];exact Nat.lt_succ_self _
 ·intro j hj;have:j=0\/j=1\/j=2:=by simp at hj;omega
  rcases this with rfl | rfl | rfl
  ·exact World.cell?_alloc2_new _ _ _ 0
  ·exact World.cell?_alloc2_new _ _ _ 1
  ·exact World.cell?_alloc2_new _ _ _ 2
 ·intro j hj;have:j=0\/j=1\/j=2:=by simp at hj;omega
  rcases this with rfl | rfl | rfl
  ·refine RB.row (cs:=#[.int .u8 70]) (e:=5) (fr:=(0,0)) ?_ rfl;exact Zd w1 _ _ _
  ·exact (RD.alloc (RD.alloc rh (Nat.le_refl _) _) (by rw [World.size_alloc];exact Nat.le_succ _) _).more (by rw [World.size_alloc,World.size_alloc];exact Nat.le_add_right _ 2)
  ·exact (RD.alloc (RD.alloc hrl (Nat.le_refl _) _) (by rw [World.size_alloc];exact Nat.le_succ _) _).more (by rw [World.size_alloc,World.size_alloc];exact Nat.le_add_right _ 2)
 ·show (It _ 3).length < _;rw [QK,Ib];omega
 rintro e w2 ⟨v2,rfl,cm,ae⟩;change w2.ownsRow _ _ 1 v2 (It _ 3).length (Cw (It _ 3)) at cm;rw [QK] at cm;have cg:Below w1.heap.size w1 w2:=(((Below.refl w1.heap.size w1).alloc (Nat.le_refl _) _).alloc (by rw [World.size_alloc];exact Nat.le_succ _) _).trans (ae.mono (by rw [World.size_alloc,World.size_alloc];exact Nat.le_add_right _ 2));have dm:=I4 (base':=w1.heap.size) cm (by rw [World.size_alloc,World.size_alloc];exact Nat.le_add_right _ 2);clear cm ae;go_wp2_with fail;refine (Qw w1.heap.size v2 (Gs l) w2 dm cg.size (by rw [Ib];omega)).mono ?_;rintro e w3 ⟨v3,rfl,gu,ag⟩;go_wp2_with fail;go_ret2;exact⟨_,rfl,I4 gu ac.size,Ad ac (cg.trans ag)⟩
theorem Ac5 (A:Option Addr) (n c:Nat) (l:List UInt8) (w:World) (hr:RB w w.heap.size A l) (hn:l.length=n) (hl:n < 1073741824):
 Calls Tryz.prog 99 #[.slice A n c] w fun e w'=>e= .returned (Fp (Ew l))/\w=w':=by
 subst hn;exact Sr A c l w hr hl
theorem RB.opening {w:World} {B:Nat} {A:Option Addr} {l:List UInt8} (h:RB w B A l) (j:Nat) (hj:j<=l.length):RB w B A (l.take j):=by
 have:=h.take hj;rw [Nat.mul_one,Pb] at this;unfold RB;rw [List.length_take,Nat.min_eq_left hj];exact this
theorem V4 (B n:Nat) (v:Value) (t:List UInt8) (w:World) (ah:w.ownsRow B 5 1 v n (Cw t)) (hn:t.length=n) (hB:B<=w.heap.size) (ht:n < 100000):
 Calls Tryz.prog 86 #[v] w fun e w'=>∃ v',e= .returned v'/\w'.ownsRow B 5 1 v' (Dk t).length (Cw (Dk t))/\Below B w w':=by
 subst hn;exact Qw B v t w ah hB ht
theorem Rc (n s:Nat):Fp (some (n,s))= .tuple #[.int .i64 (n:Int),.int .i64 (s:Int),.int .i64 0]:=rfl
def Ex (w w':World) (e:Ending) (l:List UInt8):Prop:=
 match J3 l with
 | none=>e= .returned (.tuple #[.slice none 0 0,.int .i64 30])
 | some m=>∃ v,e= .returned (.tuple #[v,.int .i64 0])/\w'.ownsRow w.heap.size 5 1 v m.length (Cw m)
theorem Cq {w w':World} {l:List UInt8} (h:J3 l=none):Ex w w' (.returned (.tuple #[.slice none 0 0,.int .i64 30])) l:=by rw [Ex,h]
theorem Nz {w w':World} {v:Value} {l m:List UInt8} (h:J3 l=some m) (ho:w'.ownsRow w.heap.size 5 1 v m.length (Cw m)):Ex w w' (.returned (.tuple #[v,.int .i64 0])) l:=by
 rw [Ex,h];exact⟨v,rfl,ho⟩
theorem Gj (A:Option Addr) (c:Nat) (l:List UInt8) (w:World) (hr:RB w w.heap.size A l) (hc:l.length<=c) (hl:l.length < 100000):
 Calls Tryz.prog 56 #[.slice A l.length c] w fun e w'=>Ex w w' e l/\Below w.heap.size w w':=by
 by_cases h6:(l.length:Int) < 6
 ·have fin:J3 l=none:=by unfold J3;rw [if_pos (by omega)]
  go_enter Tryz.func56,Tryz.ntmps56;go_wp2_with fail;go_ret2;exact⟨Cq fin,Below.refl _ _⟩
 obtain⟨b0,o0,rfl,py,er⟩:=RB.cell hr (by omega);have d0:=er 0 (by omega);obtain⟨x,hx⟩:∃ x,x=l[0]'(by omega):=⟨_,rfl⟩;rw [<-hx] at d0;have hhd:l.head?=some x:=by rw [hx];cases l with | nil=>simp at h6 | cons a t=>rfl
 by_cases ET:x.toNat=70
 ·have H70:(x.toNat:Int)=70:=by omega
  rw [H70,Nat.add_zero] at d0;have hz:(70:Int)≠0:=by decide
  have tp:(1:Int)<=(l.length:Int) - 4:=by omega
  have hendc:(l.length:Int) - 4<=(c:Int):=by omega
  go_enter Tryz.func56,Tryz.ntmps56;go_wp2_with fail;obtain⟨t,XT⟩:∃ t,t=l.take (l.length - 4):=⟨_,rfl⟩;have EH:t.length=l.length - 4:=by rw [XT,List.length_take];omega
  have EJ:RB w w.heap.size (some ⟨b0,o0,none⟩) t:=XT ▸ hr.opening (l.length - 4) (by omega);have xe:RB w w.heap.size (some ⟨b0,o0+1,none⟩) (t.drop 1):=XT ▸ hr.sub 1 (l.length - 4) (by omega);refine (Ac5 (some ⟨b0,o0+1,none⟩) (l.length - 4 - 1) (c - 1) (t.drop 1) w xe (by rw [List.length_drop];omega) (by omega)).mono ?_;rintro e w1 ⟨rfl,rfl⟩
  have e8:J3 l=match Ew (t.drop 1) with
   | none=>none
   | some (n,s)=>if n > 16384\/1+s+n≠l.length - 4\/Dk t≠l then none else some (t.drop (1+s)):=by
   unfold J3;rw [if_neg (by rw [hhd,not_or];refine⟨by omega,fun h=>h ?_⟩;rw [show x=70 from UInt8.toNat_inj.1 ET]),XT]
   try rfl
  clear er hx d0 xe hhd
  cases hg:Ew (t.drop 1) with
  | none=>
    rw [hg] at e8;clear hg;unfold Fp;go_wp2_with fail;go_ret2;exact⟨Cq e8,Below.refl _ _⟩
  | some p=>
    obtain⟨n,s⟩:=p;have hinv:=D6 hg;obtain⟨hn1,af,-,-⟩:=hinv;rw [List.length_drop] at af;rw [hg] at e8;clear hg;by_cases jv:(16384:Int) < (n:Int)
    ·have dc:J3 l=none:=by rw [e8];exact if_pos (.inl (by omega))
     clear e8;unfold Fp;go_wp2_with fail;go_ret2;exact⟨Cq dc,Below.refl _ _⟩
    by_cases cn:¬ (1+s+n=l.length - 4)
    ·have dc:J3 l=none:=by rw [e8];exact if_pos (.inr (.inl cn))
     have z:((1:Int)+(s:Int)+(n:Int) != (l.length:Int) - 4)=true:=by simp;omega
     have XV:(s:Int) < 1000000:=by omega
     clear e8 cn;unfold Fp;go_wp2_with fail;go_ret2;exact⟨Cq dc,Below.refl _ _⟩
    replace cn:=Classical.not_not.1 cn;have z:((1:Int)+(s:Int)+(n:Int) != (l.length:Int) - 4)=false:=by simp;omega
    have XV:(s:Int) < 1000000:=by omega
    have SG:J3 l=if Dk t=l then some (t.drop (1+s)) else none:=by
     rw [e8];show (if n > 16384\/1+s+n≠l.length - 4\/Dk t≠l then none else some (t.drop (1+s)))=_;by_cases sh:Dk t=l
     ·rw [if_pos sh,if_neg];intro h;rcases h with h | h | h;omega;exact h cn;exact h sh
     ·rw [if_neg sh,if_pos (.inr (.inr sh))]
    have GS:=Aa cn;have tu:=Aa SG;have Htl:=Aa EH;have zz:(1:Int)+(s:Int)+(n:Int)=(l.length:Int) - 4:=by omega
    have Hr:=Aa hr;have Htt:=Aa XT;clear e8 cn hn1 SG EH af XT hr z;rw [Rc]
    ((try dsimp only);repeat (first | go_values | go_skip | go_guarded | go_step | go_back))
    have EH:=Htl.out;refine (Rt (some ⟨b0,o0,none⟩) (l.length - 4) c t w EJ EH (by omega) (by intro h;cases h)).mono ?_;rintro e w1 ⟨v1,rfl,aq,ac⟩;clear EH
    ((try dsimp only);repeat (first | go_values | go_skip | go_guarded | go_step | go_back))
    refine (V4 w.heap.size t.length v1 t w1 aq rfl ac.size (by have:=Htl.out;omega)).mono ?_;rintro e w2 ⟨v2,rfl,cm,ae⟩;have cg:=ac.trans ae;obtain⟨A2,c2,rfl,-,-,-⟩:=Ao cm;have hr2:RB w2 w2.heap.size A2 (Dk t):=RD.of_own cm;have OM:RB w2 w2.heap.size (some ⟨b0,o0,none⟩) l:=(RD.below (Ag Hr) cg).more cg.size;clear cm ae aq ac EJ
    ((try dsimp only);repeat (first | go_values | go_skip | go_guarded | go_step | go_back))
    refine (Ze A2 (some ⟨b0,o0,none⟩) c2 c (Dk t) l w2 hr2 OM (by rw [I8];have:=Htl.out;omega) (by omega)).mono ?_;rintro e w3 ⟨rfl,ag⟩;have jn:=cg.trans (ag.mono cg.size);by_cases sh:Dk t=l
    ·have dc:=tu.out.trans (if_pos sh);have ng:(Dk t == l)=true:=by simpa using sh
     rw [ng];clear sh
     ((try dsimp only);repeat (first | go_values | go_skip | go_guarded | go_step | go_back))
     have hr3:RB w3 w3.heap.size (some ⟨b0,o0+(1+s),none⟩) (t.drop (1+s)):=by
      rw [Htt.out];exact (RD.below ((Ag Hr).sub (1+s) (l.length - 4) (by omega)) jn).more jn.size
     have zf:(t.drop (1+s)).length=l.length - 4 - (1+s):=by rw [List.length_drop,Htl.out]
     refine (Rt (some ⟨b0,o0+(1+s),none⟩) (l.length - 4 - (1+s)) (c - (1+s)) (t.drop (1+s)) w3 hr3 zf (by omega) (by intro h;cases h)).mono ?_;rintro e w4 ⟨v4,rfl,gu,aw⟩;clear zf hr3
     ((try dsimp only);repeat (first | go_values | go_skip | go_guarded | go_step | go_back))
     go_ret2;exact⟨Nz dc (I4 gu jn.size),Ad jn aw⟩
    ·have dc:=tu.out.trans (if_neg sh);have ng:(Dk t == l)=false:=by simpa using sh
     rw [ng];clear sh
     ((try dsimp only);repeat (first | go_values | go_skip | go_guarded | go_step | go_back))
     go_ret2;exact⟨Cq dc,jn⟩
 ·clear er;have Hx:=Aa hx;clear hx;have hb:((x.toNat:Int) != 70)=true:=by simp;omega
  have fin:J3 l=none:=by unfold J3;rw [if_pos (.inr (by rw [hhd];intro e;simp at e;subst e;exact ET rfl))]
  rw [Nat.add_zero] at d0;go_enter Tryz.func56,Tryz.ntmps56;go_wp2_with fail;go_ret2;exact⟨Cq fin,Below.refl _ _⟩
end Go.Proofs.YtmkpfdcnikgokaaGreat
