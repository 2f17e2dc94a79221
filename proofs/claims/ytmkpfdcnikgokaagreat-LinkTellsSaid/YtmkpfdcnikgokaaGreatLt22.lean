/-
  Texts of this claim, put together: Slices, FrameMath, Frame, FrameOpenM. What each theorem asks stands in its statement.
-/
import Derived.Lib.AppendZeros
import Derived.BigQuiet
import Derived.Test.YtmkpfdcnikgokaaGreatLt1
import Derived.Test.YtmkpfdcnikgokaaGreatLt7
import Derived.Test.YtmkpfdcnikgokaaGreatLt8
import Derived.Test.YtmkpfdcnikgokaaGreatLt9
import Derived.Test.YtmkpfdcnikgokaaGreatLt21
set_option linter.unusedVariables false
set_option linter.unusedSimpArgs false
set_option maxRecDepth 100000
set_option maxHeartbeats 25600000
namespace Go.Proofs.YtmkpfdcnikgokaaGreat
open Go.RowKit
/-- slices.Equal: the same bytes. -/
theorem equal_any (A B:Option Addr) (c d:Nat) (l m:List UInt8) (w:World) (hr:RB w w.heap.size A l) (hs:RB w w.heap.size B m) (hl:l.length < 1073741824) (hm:m.length < 1073741824):
 Calls Tryz.prog 100 #[.slice A l.length c,.slice B m.length d] w fun e w'=>e= .returned (.bool (l == m))∧Below w.heap.size w w':=by
 by_cases hne:(l.length:Int)=(m.length:Int)
 ·have hll:l.length=m.length:=by omega
  have E:=hide hll
  have hbe:((l.length:Int) == (m.length:Int))=true:=by simpa using hne
  have hbn:((l.length:Int) != (m.length:Int))=false:=by simpa using hne
  clear hne
  go_enter Tryz.func100,Tryz.ntmps100
  clear hll
  go_wp2_with fail
  go_loopw [13] (fun i wr=>∃ k:Nat,k≤l.length∧i= .int .i64 (k:Int)∧Hid (l.take k=m.take k)∧Below w.heap.size w wr) (fun i _=>l.length - (intOf i).toNat)
  case atStart=>exact⟨0,by omega,rfl,hide rfl,Below.refl _ _⟩
  case round=>
   obtain⟨k,hk,rfl,hT,hb⟩:=hrel
   by_cases hlt:k < l.length
   ·have hltm:k < m.length:=by have:=E.out;omega
    obtain⟨b0,o0,rfl,hB0,hC0⟩:=RB.cell (RD.below hr hb) (by omega)
    obtain⟨b1,o1,rfl,hB1,hC1⟩:=RB.cell (RD.below hs hb) (by omega)
    have d0:=hC0 k hlt
    have d1:=hC1 k hltm
    clear hC0 hC1
    have z0:(k:Int) < l.length:=by omega
    have z1:(k:Int) < m.length:=by omega
    have z4:(0:Int)≤k:=by omega
    obtain⟨x,hx⟩:∃ x,x=l[k]:=⟨_,rfl⟩
    obtain⟨y,hy⟩:∃ y,y=m[k]:=⟨_,rfl⟩
    rw [←hx] at d0
    rw [←hy] at d1
    have hx':=hide hx
    have hy':=hide hy
    clear hx hy
    by_cases hxy:x=y
    ·have hn:((x.toNat:Int) != (y.toNat:Int))=false:=by simp [hxy]
     have hxy':=hide hxy
     clear hxy
     go_wp2_with fail
     go_quiet (fail)
     go_wp2_with fail
     go_roundw
     case rel=>
      refine⟨k+1,by omega,by go_num,hide ?_,below_drewN hb _⟩
      rw [List.take_succ_eq_append_getElem hlt,List.take_succ_eq_append_getElem hltm,hT.out,←hx'.out,←hy'.out,hxy'.out]
     case measure=>simp [intOf];omega
    ·have hn:((x.toNat:Int) != (y.toNat:Int))=true:=by
      simp only [bne_iff_ne,ne_eq,Int.natCast_inj]
      exact fun e=>hxy (UInt8.toNat_inj.1 e)
     have hxy':=hide hxy
     clear hxy
     go_wp2_with fail
     go_quiet (fail)
     go_wp2_with fail
     go_ret
     refine⟨ret_bool ?_,below_drewN hb _⟩
     symm
     rw [beq_eq_false_iff_ne]
     intro e
     subst e
     exact hxy'.out (hx'.out.trans hy'.out.symm)
   ·have hkl:¬ (k:Int) < l.length:=by omega
    have fin:=hide (show (l == m)=true by
     have h1:=hT.out
     rw [List.take_of_length_le (by omega),List.take_of_length_le (by have:=E.out;omega)] at h1
     simpa using h1)
    go_wp2_with fail
    go_ret
    exact⟨ret_bool fin.out.symm,hb⟩
 ·have hbe:((l.length:Int) == (m.length:Int))=false:=by simpa using hne
  have hbn:((l.length:Int) != (m.length:Int))=true:=by simpa using hne
  have fin:=hide (show (l == m)=false by
   rw [beq_eq_false_iff_ne]
   intro e
   exact hne (by rw [e]))
  clear hne
  go_enter Tryz.func100,Tryz.ntmps100
  go_wp2_with fail
  go_ret
  exact⟨ret_bool fin.out.symm,Below.refl _ _⟩
theorem eql_nil (w:World) (a:Option Addr) (n c:Nat):(binOp .eql 23 (.slice a n c) (.slice none 0 0)).run Tryz.prog w= .ok (.bool a.isNone) w:=by
 simp only [binOp]
 simp [run_equal_slice_nil w 23 5 a n c Tryz.underlying23]
/-- slices.Clone: the same bytes in new memory. -/
theorem clone_any (A:Option Addr) (n c:Nat) (l:List UInt8) (w:World) (hr:RB w w.heap.size A l) (hn:l.length=n) (hl:n < 1073741824) (hnil:A=none→c=0):
 Calls Tryz.prog 101 #[.slice A n c] w fun e w'=>∃ v,e= .returned v∧w'.ownsRow w.heap.size 5 1 v l.length (u8s l)∧Below w.heap.size w w':=by
 subst hn
 obtain⟨i0,hi0,hz0,hz1,hz2⟩:=info_parts u8info
 rcases A with _ | a
 ·have hl0:l.length=0:=by
   rcases Nat.eq_zero_or_pos l.length with h | h
   ·exact h
   ·obtain⟨b,off,h,_⟩:=hr.2 h
    cases h
  obtain rfl:=List.eq_nil_of_length_eq_zero hl0
  obtain rfl:=hnil rfl
  clear hnil hl0
  have heq:=fun w:World=>eql_nil w none 0 0
  go_enter Tryz.func101,Tryz.ntmps101
  go_wp2_with fail
  go_ret
  exact⟨_,rfl,World.ownsRow_nil _ _ _ _,Below.refl _ _⟩
 ·clear hnil
  have heq:=fun w:World=>eql_nil w (some a) l.length c
  go_enter Tryz.func101,Tryz.ntmps101
  go_wp2_with (at_builtin;refine wpList_append_src _ rfl (.tmp 5) (.tmp 6) 23 rfl w.heap.size 5 i0 (.int .u8 0) 1 1 Tryz.underlying23 hi0 hz0 hz1 hz2 rfl (by decide) _ 0 [] rfl (own_empty w _ _ _ (Nat.le_refl _)) w.heap.size (some a) l.length c (u8s l) rfl (RD.alloc hr (Nat.le_refl _) _) (u8s_one _) (by omega) (by decide) (by simp) ?_;intro v1 w1 hown1 hb1;simp only [Nat.zero_add,List.nil_append] at hown1)
  go_ret
  exact⟨_,rfl,hown1,((Below.refl w.heap.size w).alloc (Nat.le_refl _) _).trans hb1⟩
end Go.Proofs.YtmkpfdcnikgokaaGreat
namespace Go.Proofs.YtmkpfdcnikgokaaGreat
/-- Bytes with their sum behind. -/
def shut4 (t:List UInt8):List UInt8:=t++ [byteOf (sm t) 0,byteOf (sm t) 1,byteOf (sm t) 2,byteOf (sm t) 3]
theorem shut4_len (t:List UInt8):(shut4 t).length=t.length+4:=by simp [shut4]
/-- A frame's bytes ahead of its sum. -/
def head (l:List UInt8):List UInt8:=70 :: (nb l.length++l)
def frm (l:List UInt8):List UInt8:=shut4 (head l)
theorem head_len (l:List UInt8):(head l).length=1+(nb l.length).length+l.length:=by simp [head];omega
theorem frm_len (l:List UInt8):(frm l).length=5+(nb l.length).length+l.length:=by rw [frm,shut4_len,head_len];omega
/-- What Open takes out of bytes, as frame.Open does it. -/
def opn (b:List UInt8):Option (List UInt8):=
 if b.length < 6∨b.head?≠some 70 then none else
 match gget ((b.take (b.length - 4)).drop 1) with
 | none=>none
 | some (n,s)=>if n > 16384∨1+s+n≠b.length - 4∨shut4 (b.take (b.length - 4))≠b then none else some ((b.take (b.length - 4)).drop (1+s))
theorem shut4_take (t:List UInt8):(shut4 t).take ((shut4 t).length - 4)=t:=by
 rw [shut4_len,Nat.add_sub_cancel,shut4,List.take_left']
 rfl
theorem opn_frm (l:List UInt8) (h:l.length≤16384):opn (frm l)=some l:=by
 have hp:=nb_pos l.length
 have hs:gget (((frm l).take ((frm l).length - 4)).drop 1)=some (l.length,(nb l.length).length):=by
  rw [frm,shut4_take,head,List.drop_one,List.tail_cons]
  exact gget_nb l.length l (by omega)
 unfold opn
 rw [if_neg (by rw [frm_len];simp [frm,shut4,head];omega),hs]
 simp only
 rw [if_neg,frm,shut4_take]
 ·congr 1
  rw [head,Nat.add_comm,List.drop_succ_cons,List.drop_left']
  rfl
 ·rw [frm,shut4_take,shut4_len,head_len]
  simp
  omega
theorem opn_inv {b l:List UInt8} (h:opn b=some l):b=frm l∧l.length≤16384:=by
 unfold opn at h
 by_cases h1:b.length < 6∨b.head?≠some 70
 ·rw [if_pos h1] at h;cases h
 rw [if_neg h1] at h
 cases hg:gget ((b.take (b.length - 4)).drop 1) with
 | none=>rw [hg] at h;cases h
 | some ns=>
   obtain⟨n,s⟩:=ns
   rw [hg] at h
   simp only at h
   by_cases h2:n > 16384∨1+s+n≠b.length - 4∨shut4 (b.take (b.length - 4))≠b
   ·rw [if_pos h2] at h;cases h
   rw [if_neg h2] at h
   simp only [Option.some.injEq] at h
   obtain⟨t,ht⟩:∃ t,t=b.take (b.length - 4):=⟨_,rfl⟩
   rw [←ht] at h hg h2
   have htl:t.length=b.length - 4:=by rw [ht,List.length_take];omega
   have hseal:shut4 t=b:=by
    rcases Classical.em (shut4 t=b) with e | e
    ·exact e
    ·exact absurd (.inr (.inr e)) h2
   have hn:n≤16384:=by omega
   have hsum:1+s+n=t.length:=by omega
   obtain⟨hm,hs,hnb,hnl⟩:=gget_inv hg
   have hll:l.length=n:=by rw [←h,List.length_drop];omega
   have hhead:t=70 :: t.drop 1:=by
    cases t with
    | nil=>simp at htl;omega
    | cons x t=>
      have:b.head?=some x:=by rw [←hseal];rfl
      have h70:b.head?=some 70:=by
       rcases Classical.em (b.head?=some 70) with e | e
       ·exact e
       ·exact absurd (.inr e) h1
      rw [this] at h70
      simp only [Option.some.injEq] at h70
      rw [h70];rfl
   refine⟨?_,by omega⟩
   rw [←hseal,frm]
   congr 1
   rw [hhead,head,hll,hnb]
   congr 1
   rw [←h,←List.drop_drop]
   exact (List.take_append_drop s _).symm
end Go.Proofs.YtmkpfdcnikgokaaGreat
namespace Go.Proofs.YtmkpfdcnikgokaaGreat
open Go.RowKit
/-- The first k bytes of a text's sum behind it. -/
def part4 (t:List UInt8) (k:Nat):List UInt8:=t++ [byteOf (sm t) 0,byteOf (sm t) 1,byteOf (sm t) 2,byteOf (sm t) 3].take k
theorem part4_len (t:List UInt8) (k:Nat) (h:k≤4):(part4 t k).length=t.length+k:=by simp [part4];omega
theorem part4_next (t:List UInt8) (k:Nat) (h:k < 4):part4 t (k+1)=part4 t k++ [byteOf (sm t) k]:=by
 unfold part4
 rw [List.append_assoc]
 congr 1
 have:k=0∨k=1∨k=2∨k=3:=by omega
 rcases this with rfl | rfl | rfl | rfl <;> rfl
theorem sealed_ok (B:Nat) (v:Value) (t:List UInt8) (w:World) (hown:w.ownsRow B 5 1 v t.length (u8s t)) (hB:B≤w.heap.size) (ht:t.length < 100000):
 Calls Tryz.prog 86 #[v] w fun e w'=>∃ v',e= .returned v'∧w'.ownsRow B 5 1 v' (shut4 t).length (u8s (shut4 t))∧Below B w w':=by
 obtain⟨i0,hi0,hz0,hz1,hz2⟩:=info_parts u8info
 obtain⟨A,c,rfl,hc,hcm,-⟩:=own_slice hown
 have hr:RB w w.heap.size A t:=RD.of_own hown
 go_enter Tryz.func86,Tryz.ntmps86
 go_wp2_with fail
 refine (table_ok _).mono ?_
 rintro e w1 ⟨rfl,hb1⟩
 have hr1:RB w1 w1.heap.size A t:=(RD.below hr hb1).more hb1.size
 have hown1:=own_below hown hb1 (Nat.le_refl _)
 go_wp2_with fail
 refine (sum_any tb A c t w1 hr1 (by omega)).mono ?_
 rintro e w2 ⟨rfl,hb2⟩
 have hown2:=own_below hown1 hb2 (Nat.le_refl _)
 have hb12:=(fresh hb1 hb2).mono hB
 clear hr hr1 hown hown1 hb1 hb2 hc hcm
 go_wp2_with fail
 have hs:=(smT tb t).isLt
 obtain⟨y0,y1,y2,y3⟩:((smT tb t).toNat:Int) % 256=((byteOf (sm t) 0).toNat:Int)∧((smT tb t).toNat:Int) / 256 % 256=((byteOf (sm t) 1).toNat:Int)∧((smT tb t).toNat:Int) / 65536 % 256=((byteOf (sm t) 2).toNat:Int)∧
  ((smT tb t).toNat:Int) / 16777216=((byteOf (sm t) 3).toNat:Int):=by
  show ((sm t).toNat:Int) % 256=_∧((sm t).toNat:Int) / 256 % 256=_∧((sm t).toNat:Int) / 65536 % 256=_∧((sm t).toNat:Int) / 16777216=_
  unfold byteOf
  simp only [UInt8.toNat_ofNat']
  have hv:=(sm t).isLt
  refine⟨?_,?_,?_,?_⟩ <;> omega
 go_loopw [0,8] (fun v i wr=>∃ k:Nat,k≤4∧i= .int .i64 (k:Int)∧wr.ownsRow B 5 1 v (part4 t k).length (u8s (part4 t k))∧Below B w wr) (fun _ i _=>4 - (intOf i).toNat)
 case atStart=>exact⟨0,by omega,rfl,by simpa [part4] using hown2,hb12⟩
 case round=>
  obtain⟨k,hk,rfl,hown,hbr⟩:=hrel
  by_cases hlt:k < 4
  ·have hpl:=part4_len t k (by omega)
   have hnext:=hide (part4_next t k hlt)
   have hBr:=Nat.le_trans hB hbr.size
   have hlen:(part4 t k).length < 1073741824:=by omega
   clear hpl
   have:k=0∨k=1∨k=2∨k=3:=by omega
   rcases this with rfl | rfl | rfl | rfl
   ·go_wp2_with (at_builtin;refine wpList_push rfl _ _ 23 rfl B i0 (.int .u8 0) 1 1 Tryz.underlying23 hi0 hz0 hz1 hz2 rfl (by decide) _ _ _ rfl hown 1 rfl rfl rfl hlen (by decide) hBr ?_;intro v1 w1 hown1 hb1)
    go_roundw
    case rel=>exact⟨1,by omega,rfl,by rw [hnext.out,u8s_append,List.length_append];exact hown1,hbr.trans hb1⟩
    case measure=>simp [intOf]
   ·go_wp2_with (at_builtin;refine wpList_push rfl _ _ 23 rfl B i0 (.int .u8 0) 1 1 Tryz.underlying23 hi0 hz0 hz1 hz2 rfl (by decide) _ _ _ rfl hown 1 rfl rfl rfl hlen (by decide) hBr ?_;intro v1 w1 hown1 hb1)
    go_roundw
    case rel=>exact⟨2,by omega,rfl,by rw [hnext.out,u8s_append,List.length_append];exact hown1,hbr.trans hb1⟩
    case measure=>simp [intOf]
   ·go_wp2_with (at_builtin;refine wpList_push rfl _ _ 23 rfl B i0 (.int .u8 0) 1 1 Tryz.underlying23 hi0 hz0 hz1 hz2 rfl (by decide) _ _ _ rfl hown 1 rfl rfl rfl hlen (by decide) hBr ?_;intro v1 w1 hown1 hb1)
    go_roundw
    case rel=>exact⟨3,by omega,rfl,by rw [hnext.out,u8s_append,List.length_append];exact hown1,hbr.trans hb1⟩
    case measure=>simp [intOf]
   ·go_wp2_with (at_builtin;refine wpList_push rfl _ _ 23 rfl B i0 (.int .u8 0) 1 1 Tryz.underlying23 hi0 hz0 hz1 hz2 rfl (by decide) _ _ _ rfl hown 1 rfl rfl rfl hlen (by decide) hBr ?_;intro v1 w1 hown1 hb1)
    go_roundw
    case rel=>exact⟨4,by omega,rfl,by rw [hnext.out,u8s_append,List.length_append];exact hown1,hbr.trans hb1⟩
    case measure=>simp [intOf]
  ·obtain rfl:k=4:=by omega
   have hlt':¬ ((4:Nat):Int) < 4:=by omega
   go_wp2_with fail
   go_ret
   exact⟨_,rfl,hown,hbr⟩
theorem get_len (A:Option Addr) (n c:Nat) (l:List UInt8) (w:World) (hr:RB w w.heap.size A l) (hn:l.length=n) (hl:n < 1073741824):
 Calls Tryz.prog 99 #[.slice A n c] w fun e w'=>e= .returned (gval (gget l))∧w=w':=by
 subst hn
 exact get_any A c l w hr hl
theorem RB.opening {w:World} {B:Nat} {A:Option Addr} {l:List UInt8} (h:RB w B A l) (j:Nat) (hj:j≤l.length):RB w B A (l.take j):=by
 have:=h.take hj
 rw [Nat.mul_one,u8s_take] at this
 unfold RB
 rw [List.length_take,Nat.min_eq_left hj];exact this
theorem sealed_len (B n:Nat) (v:Value) (t:List UInt8) (w:World) (hown:w.ownsRow B 5 1 v n (u8s t)) (hn:t.length=n) (hB:B≤w.heap.size) (ht:n < 100000):
 Calls Tryz.prog 86 #[v] w fun e w'=>∃ v',e= .returned v'∧w'.ownsRow B 5 1 v' (shut4 t).length (u8s (shut4 t))∧Below B w w':=by
 subst hn
 exact sealed_ok B v t w hown hB ht
theorem gval_some (n s:Nat):gval (some (n,s))= .tuple #[.int .i64 (n:Int),.int .i64 (s:Int),.int .i64 0]:=rfl
/-- What Open answers. -/
def opened (w w':World) (e:Ending) (l:List UInt8):Prop:=
 match opn l with
 | none=>e= .returned (.tuple #[.slice none 0 0,.int .i64 30])
 | some m=>∃ v,e= .returned (.tuple #[v,.int .i64 0])∧w'.ownsRow w.heap.size 5 1 v m.length (u8s m)
theorem opened_none {w w':World} {l:List UInt8} (h:opn l=none):opened w w' (.returned (.tuple #[.slice none 0 0,.int .i64 30])) l:=by rw [opened,h]
theorem opened_some {w w':World} {v:Value} {l m:List UInt8} (h:opn l=some m) (ho:w'.ownsRow w.heap.size 5 1 v m.length (u8s m)):opened w w' (.returned (.tuple #[v,.int .i64 0])) l:=by
 rw [opened,h]
 exact⟨v,rfl,ho⟩
theorem open_any (A:Option Addr) (c:Nat) (l:List UInt8) (w:World) (hr:RB w w.heap.size A l) (hc:l.length≤c) (hl:l.length < 100000):
 Calls Tryz.prog 56 #[.slice A l.length c] w fun e w'=>opened w w' e l∧Below w.heap.size w w':=by
 by_cases h6:(l.length:Int) < 6
 ·have fin:opn l=none:=by unfold opn;rw [if_pos (by omega)]
  go_enter Tryz.func56,Tryz.ntmps56
  go_wp2_with fail
  go_ret2
  exact⟨opened_none fin,Below.refl _ _⟩
 obtain⟨b0,o0,rfl,hB0,hC0⟩:=RB.cell hr (by omega)
 have d0:=hC0 0 (by omega)
 obtain⟨x,hx⟩:∃ x,x=l[0]'(by omega):=⟨_,rfl⟩
 rw [←hx] at d0
 have hhd:l.head?=some x:=by rw [hx];cases l with | nil=>simp at h6 | cons a t=>rfl
 by_cases h70:x.toNat=70
 ·have H70:(x.toNat:Int)=70:=by omega
  rw [H70,Nat.add_zero] at d0
  have hz:(70:Int)≠0:=by decide
  have hend:(1:Int)≤(l.length:Int) - 4:=by omega
  have hendc:(l.length:Int) - 4≤(c:Int):=by omega
  go_enter Tryz.func56,Tryz.ntmps56
  go_wp2_with fail
  obtain⟨t,htt⟩:∃ t,t=l.take (l.length - 4):=⟨_,rfl⟩
  have htl:t.length=l.length - 4:=by rw [htt,List.length_take];omega
  have hrt:RB w w.heap.size (some ⟨b0,o0,none⟩) t:=htt ▸ hr.opening (l.length - 4) (by omega)
  have hrs:RB w w.heap.size (some ⟨b0,o0+1,none⟩) (t.drop 1):=htt ▸ hr.sub 1 (l.length - 4) (by omega)
  refine (get_len (some ⟨b0,o0+1,none⟩) (l.length - 4 - 1) (c - 1) (t.drop 1) w hrs (by rw [List.length_drop];omega) (by omega)).mono ?_
  rintro e w1 ⟨rfl,rfl⟩
  have hopn:opn l=match gget (t.drop 1) with
   | none=>none
   | some (n,s)=>if n > 16384∨1+s+n≠l.length - 4∨shut4 t≠l then none else some (t.drop (1+s)):=by
   unfold opn
   rw [if_neg (by rw [hhd,not_or];refine⟨by omega,fun h=>h ?_⟩;rw [show x=70 from UInt8.toNat_inj.1 h70]),htt]
   try rfl
  clear hC0 hx d0 hrs hhd
  cases hg:gget (t.drop 1) with
  | none=>
    rw [hg] at hopn
    clear hg
    unfold gval
    go_wp2_with fail
    go_ret2
    exact⟨opened_none hopn,Below.refl _ _⟩
  | some p=>
    obtain⟨n,s⟩:=p
    have hinv:=gget_inv hg
    obtain⟨hn1,hs1,-,-⟩:=hinv
    rw [List.length_drop] at hs1
    rw [hg] at hopn
    clear hg
    by_cases hbig:(16384:Int) < (n:Int)
    ·have hfin:opn l=none:=by rw [hopn];exact if_pos (.inl (by omega))
     clear hopn
     unfold gval
     go_wp2_with fail
     go_ret2
     exact⟨opened_none hfin,Below.refl _ _⟩
    by_cases hlen:¬ (1+s+n=l.length - 4)
    ·have hfin:opn l=none:=by rw [hopn];exact if_pos (.inr (.inl hlen))
     have z:((1:Int)+(s:Int)+(n:Int) != (l.length:Int) - 4)=true:=by simp;omega
     have hsm:(s:Int) < 1000000:=by omega
     clear hopn hlen
     unfold gval
     go_wp2_with fail
     go_ret2
     exact⟨opened_none hfin,Below.refl _ _⟩
    replace hlen:=Classical.not_not.1 hlen
    have z:((1:Int)+(s:Int)+(n:Int) != (l.length:Int) - 4)=false:=by simp;omega
    have hsm:(s:Int) < 1000000:=by omega
    have hopn':opn l=if shut4 t=l then some (t.drop (1+s)) else none:=by
     rw [hopn]
     show (if n > 16384∨1+s+n≠l.length - 4∨shut4 t≠l then none else some (t.drop (1+s)))=_
     by_cases hsl:shut4 t=l
     ·rw [if_pos hsl,if_neg];intro h;rcases h with h | h | h;omega;exact h hlen;exact h hsl
     ·rw [if_neg hsl,if_pos (.inr (.inr hsl))]
    have Hlen:=hide hlen
    have Hopn:=hide hopn'
    have Htl:=hide htl
    have zz:(1:Int)+(s:Int)+(n:Int)=(l.length:Int) - 4:=by omega
    have Hr:=hide hr
    have Htt:=hide htt
    clear hopn hlen hn1 hopn' htl hs1 htt hr z
    rw [gval_some]
    ((try dsimp only);repeat (first | go_values | go_skip | go_guarded | go_step | go_back))
    have htl:=Htl.out
    refine (clone_any (some ⟨b0,o0,none⟩) (l.length - 4) c t w hrt htl (by omega) (by intro h;cases h)).mono ?_
    rintro e w1 ⟨v1,rfl,hown1,hb1⟩
    clear htl
    ((try dsimp only);repeat (first | go_values | go_skip | go_guarded | go_step | go_back))
    refine (sealed_len w.heap.size t.length v1 t w1 hown1 rfl hb1.size (by have:=Htl.out;omega)).mono ?_
    rintro e w2 ⟨v2,rfl,hown2,hb2⟩
    have hb12:=hb1.trans hb2
    obtain⟨A2,c2,rfl,-,-,-⟩:=own_slice hown2
    have hr2:RB w2 w2.heap.size A2 (shut4 t):=RD.of_own hown2
    have hrl2:RB w2 w2.heap.size (some ⟨b0,o0,none⟩) l:=(RD.below (unhide Hr) hb12).more hb12.size
    clear hown2 hb2 hown1 hb1 hrt
    ((try dsimp only);repeat (first | go_values | go_skip | go_guarded | go_step | go_back))
    refine (equal_any A2 (some ⟨b0,o0,none⟩) c2 c (shut4 t) l w2 hr2 hrl2 (by rw [shut4_len];have:=Htl.out;omega) (by omega)).mono ?_
    rintro e w3 ⟨rfl,hb3⟩
    have hb13:=hb12.trans (hb3.mono hb12.size)
    by_cases hsl:shut4 t=l
    ·have hfin:=Hopn.out.trans (if_pos hsl)
     have hbe:(shut4 t == l)=true:=by simpa using hsl
     rw [hbe]
     clear hsl
     ((try dsimp only);repeat (first | go_values | go_skip | go_guarded | go_step | go_back))
     have hr3:RB w3 w3.heap.size (some ⟨b0,o0+(1+s),none⟩) (t.drop (1+s)):=by
      rw [Htt.out]
      exact (RD.below ((unhide Hr).sub (1+s) (l.length - 4) (by omega)) hb13).more hb13.size
     have hl3:(t.drop (1+s)).length=l.length - 4 - (1+s):=by rw [List.length_drop,Htl.out]
     refine (clone_any (some ⟨b0,o0+(1+s),none⟩) (l.length - 4 - (1+s)) (c - (1+s)) (t.drop (1+s)) w3 hr3 hl3 (by omega) (by intro h;cases h)).mono ?_
     rintro e w4 ⟨v4,rfl,hown4,hb4⟩
     clear hl3 hr3
     ((try dsimp only);repeat (first | go_values | go_skip | go_guarded | go_step | go_back))
     go_ret2
     exact⟨opened_some hfin (own_base hown4 hb13.size),fresh hb13 hb4⟩
    ·have hfin:=Hopn.out.trans (if_neg hsl)
     have hbe:(shut4 t == l)=false:=by simpa using hsl
     rw [hbe]
     clear hsl
     ((try dsimp only);repeat (first | go_values | go_skip | go_guarded | go_step | go_back))
     go_ret2
     exact⟨opened_none hfin,hb13⟩
 ·clear hC0
  have Hx:=hide hx
  clear hx
  have hb:((x.toNat:Int) != 70)=true:=by simp;omega
  have fin:opn l=none:=by unfold opn;rw [if_pos (.inr (by rw [hhd];intro e;simp at e;subst e;exact h70 rfl))]
  rw [Nat.add_zero] at d0
  go_enter Tryz.func56,Tryz.ntmps56
  go_wp2_with fail
  go_ret2
  exact⟨opened_none fin,Below.refl _ _⟩
end Go.Proofs.YtmkpfdcnikgokaaGreat
