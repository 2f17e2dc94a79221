/-
  Texts of this claim, put together: Link, Claims. What each theorem asks stands in its statement.
-/
import Derived.Lib.AppendZeros
import Derived.Laws.CopyOwn
import Derived.Test.YtmkpfdcnikgokaaGreatLt1
set_option linter.unusedVariables false
set_option linter.unusedSimpArgs false
set_option maxRecDepth 100000
set_option maxHeartbeats 25600000
namespace Go.Proofs.YtmkpfdcnikgokaaGreat
open Go.RowKit
theorem lchk1 (A:Option Addr) (n c:Nat) (w:World):Calls Tryz.prog 43 #[.slice A n c] w fun e w'=>e= .returned (.bool (decide ((20000:Int) < n)))∧w'=w:=by
 go_enter Tryz.func43,Tryz.ntmps43
 go_wp2_with fail
 go_ret
 exact⟨rfl,rfl⟩
theorem lindex (A:Option Addr) (n c:Nat) (L:List FrL) (w:World) (hr:RF w w.heap.size A L) (hn:L.length=n) (hl:n≤64):
 Calls Tryz.prog 80 #[.slice A n c,.func (.func 43) #[] #[]] w fun e w'=>∃ m:Int,e= .returned (.int .i64 m)∧(m=-1∧(∀ x∈L,x.b.length≤20000)∨0≤m∧¬ ∀ x∈L,x.b.length≤20000)∧w'=w:=by
 have HR:=hide hr
 have Hn:=hide hn
 clear hr hn
 go_enter Tryz.func80,Tryz.ntmps80
 go_wp2_with fail
 go_loopw [8] (fun i wr=>∃ j:Nat,j≤n∧i= .int .i64 (j:Int)∧Hid (∀ x∈L.take j,x.b.length≤20000)∧wr=w) (fun i _=>n - (intOf i).toNat)
 case atStart=>exact⟨0,by omega,rfl,hide (fun x hx=>by cases hx),rfl⟩
 case round=>
  obtain⟨j,hj,rfl,HM,rfl⟩:=hrel
  by_cases hlt:j < n
  ·have hltL:j < L.length:=by rw [Hn.out];exact hlt
   have z0:(j:Int) < n:=by omega
   have zj:(0:Int)≤j:=by omega
   obtain⟨bb,bo,rfl,hB,hC⟩:=RF.cell HR.out (by omega)
   have d0:=hC j hltL
   obtain⟨x,hx⟩:∃ x,L[j]=x:=⟨_,rfl⟩
   rw [hx] at d0
   have Hx:=hide (show x∈L by rw [←hx];exact List.getElem_mem hltL)
   have Htake:=hide (show L.take (j+1)=L.take j++ [x] by rw [List.take_succ_eq_append_getElem hltL,hx])
   have hP:=hide (lchk1 x.A x.b.length x.c wr)
   clear hC hx
   by_cases hm:(20000:Int) < x.b.length
   ·rw [decide_eq_true hm] at hP
    have Hm:=hide hm
    clear hm
    go_wp2_with fail
    refine hP.out.mono ?_
    rintro e w2 ⟨rfl,rfl⟩
    go_wp2_with fail
    go_ret
    exact⟨(j:Int),rfl,.inr ⟨by omega,fun h=>by have:=h x Hx.out;have:=Hm.out;omega⟩,rfl⟩
   ·rw [decide_eq_false hm] at hP
    have Hm:=hide hm
    clear hm
    go_wp2_with fail
    refine hP.out.mono ?_
    rintro e w2 ⟨rfl,rfl⟩
    go_wp2_with fail
    go_roundw
    case rel=>
     refine⟨j+1,by omega,by go_num,hide fun q hq=>?_,(by first | rfl | trivial)⟩
     rw [Htake.out] at hq
     rcases List.mem_append.1 hq with h | h
     ·exact HM.out q h
     ·simp only [List.mem_singleton] at h
      subst h
      have:=Hm.out
      omega
    case measure=>simp [intOf];omega
  ·have z0:¬ (j:Int) < n:=by omega
   have Ha:=hide (show ∀ x∈L,x.b.length≤20000 by have:=HM.out;rwa [List.take_of_length_le (by rw [Hn.out];omega)] at this)
   go_wp2_with fail
   go_ret
   exact⟨-1,rfl,.inl ⟨rfl,Ha.out⟩,rfl⟩
theorem lcontains (A:Option Addr) (n c:Nat) (L:List FrL) (w:World) (hr:RF w w.heap.size A L) (hn:L.length=n) (hl:n≤64):
 Calls Tryz.prog 42 #[.slice A n c,.func (.func 43) #[] #[]] w fun e w'=>e= .returned (.bool (decide (¬ ∀ x∈L,x.b.length≤20000)))∧w'=w:=by
 have hP:=hide (lindex A n c L w hr hn hl)
 clear hr hn
 go_enter Tryz.func42,Tryz.ntmps42
 go_wp2_with fail
 refine hP.out.mono ?_
 rintro e w2 ⟨m,rfl,hm,rfl⟩
 rcases hm with⟨rfl,hm⟩ | ⟨h0,hm⟩
 ·have Hd:=hide (show decide (¬ ∀ x∈L,x.b.length≤20000)=false from decide_eq_false (fun h=>h hm))
  clear hm
  go_wp2_with fail
  go_ret
  exact⟨by rw [Hd.out];rfl,rfl⟩
 ·have Hd:=hide (show decide (¬ ∀ x∈L,x.b.length≤20000)=true from decide_eq_true hm)
  clear hm
  go_wp2_with fail
  go_ret
  exact⟨by rw [Hd.out];exact ret_bool (by first | (simp;done) | simpa using h0),rfl⟩
/-- May frames be in flight? -/
def okF (L:List FrL):Prop:=L.length≤64∧∀ x∈L,x.b.length≤20000
instance (L:List FrL):Decidable (okF L):=by unfold okF;infer_instance
def chkF (L:List FrL):Int:=if okF L then 0 else 8
theorem lcheck (A:Option Addr) (n c:Nat) (L:List FrL) (w:World) (hr:RF w w.heap.size A L) (hn:L.length=n):
 Calls Tryz.prog 16 #[.slice A n c] w fun e w'=>e= .returned (.int .i64 (chkF L))∧w'=w:=by
 by_cases h64:(64:Int) < n
 ·have Hc:=hide (show chkF L=8 from if_neg (fun h=>by have:=h.1;omega))
  clear hr hn
  go_enter Tryz.func16,Tryz.ntmps16
  go_wp2_with fail
  go_ret
  exact⟨by rw [Hc.out];rfl,rfl⟩
 ·have hP:=hide (lcontains A n c L w hr hn (by omega))
  by_cases hm:∀ x∈L,x.b.length≤20000
  ·rw [decide_eq_false (fun h=>h hm)] at hP
   have Hc:=hide (show chkF L=0 from if_pos ⟨by omega,hm⟩)
   clear hr hn hm
   go_enter Tryz.func16,Tryz.ntmps16
   go_wp2_with fail
   refine hP.out.mono ?_
   rintro e w2 ⟨rfl,rfl⟩
   go_wp2_with fail
   go_ret
   exact⟨by rw [Hc.out];rfl,rfl⟩
  ·rw [decide_eq_true hm] at hP
   have Hc:=hide (show chkF L=8 from if_neg (fun h=>hm h.2))
   clear hr hn hm
   go_enter Tryz.func16,Tryz.ntmps16
   go_wp2_with fail
   refine hP.out.mono ?_
   rintro e w2 ⟨rfl,rfl⟩
   go_wp2_with fail
   go_ret
   exact⟨by rw [Hc.out];rfl,rfl⟩
theorem lmake (w:World) (n:Nat) (h:n≤100000):
 ∃ w',(Instr.makeSlice 23 (.int .i64 (n:Int)) (.int .i64 (n:Int))).run Tryz.prog w= .ok (.slice (some ⟨w.heap.size,0,none⟩) n n) w'∧(∃ cur:List Value,cur.length=n∧w'.heap[w.heap.size]?=some (.cells cur.toArray 5 (0,0)))∧Below w.heap.size w w':=by
 obtain⟨i0,hi0,hz0,hz1,hz2⟩:=info_parts fru8
 obtain⟨w',h1,h2,h3⟩:=run_makeSlice_full (P:=Tryz.prog) w w.heap.size 23 5 i0 (.int .u8 0) 1 Tryz.underlying23 hi0 hz0 hz1 .i64 .i64 n (by omega) (by rw [hz2];omega) (by unfold maxLen;omega) (Nat.le_refl _)
 refine⟨w',h1,?_,grown_below (World.ownsRow_nil _ _ _ _:w.ownsRow w.heap.size 5 1 (.slice none 0 0) 0 []) h3 (Nat.le_refl _)⟩
 rcases h2.2 with⟨h4,-⟩ | ⟨g,cap,cur,h4,-,h5,-,-,h6,-⟩
 ·simp at h4
 ·simp only [Value.slice.injEq,Option.some.injEq,Addr.mk.injEq,and_true,true_and] at h4
  obtain⟨h4,rfl⟩:=h4
  subst h4
  exact⟨cur.toList,by rw [Array.length_toList,h6,Nat.mul_one],by rw [Array.toArray_toList];exact h5⟩
theorem lown (A:Option Addr) (n c:Nat) (b:List UInt8) (w:World) (hr:RB w w.heap.size A b) (hn:b.length=n) (hl:n≤100000):
 Calls Tryz.prog 33 #[.slice A n c] w fun e w'=>∃ A' c',e= .returned (.slice A' n c')∧w'.ownsRow w.heap.size 5 1 (.slice A' n c') n (u8s b)∧Below w.heap.size w w':=by
 obtain⟨i0,hi0,hz0,hz1,hz2⟩:=info_parts fru8
 have hsz:(Tryz.prog.info? 5).map (·.size)=some 1:=by rw [hi0];exact congrArg some hz1
 obtain⟨w1,hmk,⟨cur,hcl,hg⟩,hb1⟩:=lmake w n hl
 obtain⟨g,hgg⟩:∃ g,g=w.heap.size:=⟨_,rfl⟩
 rw [←hgg] at hmk hg
 have HR1:=hide (show RB w1 w1.heap.size A b from (RD.below hr hb1).more hb1.size)
 have Hcur:=hide (And.intro hcl hg)
 have Hn:=hide hn
 have Hg:=hide hgg
 clear hr hn hcl hg hgg
 go_enter Tryz.func33,Tryz.ntmps33
 go_wp2_with (first
  | (rw [hmk];clear hmk)
  | (with_reducible refine wpList_copy_splice rfl (.tmp 7) (.tmp 8) 23 23 rfl 5 Tryz.underlying23 hsz (some ⟨g,0,none⟩) A n n n c rfl rfl g 0 cur 5 Hcur.out.2 (u8s b) (by rw [u8s_len,Hn.out];exact (Nat.min_self n).symm) ?_ (by rw [u8s_len,Hn.out,Hcur.out.1];omega) (u8s_one b) w.heap.size w hb1 (by rw [Hg.out];exact Nat.le_refl _) ?_))
 ·intro h0
  obtain⟨b0,o0,rfl,-,hc⟩:=HR1.out.2 (by rw [u8s_len] at h0;exact h0)
  exact⟨_,rfl,fun j v hv=>by rw [add_none];exact hc j v hv⟩
 ·intro w2 hw2 hb2
  have Hw2:=hide hw2.out
  clear hw2 hb1 HR1
  go_wp2_with fail
  go_ret
  refine⟨some ⟨g,0,none⟩,n,rfl,⟨by rw [u8s_len,Hn.out,Nat.mul_one],.inr ⟨g,n,_,rfl,by rw [Hg.out];exact Nat.le_refl _,Hw2.out,Nat.le_refl _,by unfold maxLen;omega,?_,?_⟩⟩,hb2⟩
  ·simp [splice,u8s_len,Hn.out,Hcur.out.1]
  ·have hlen:(u8s b).length=n:=by rw [u8s_len,Hn.out]
   simp only [splice,List.take_zero,List.nil_append,Nat.zero_add,Nat.mul_one]
   rw [←hlen,List.take_left]
theorem ltwin (A:Option Addr) (n c:Nat) (L:List FrL) (w:World) (hr:RF w w.heap.size A L) (hn:L.length=n) (hok:okF L):
 Calls Tryz.prog 32 #[.slice A n c] w fun e w'=>∃ A' c' L',e= .returned (.slice A' n c')∧L'.map FrL.b=L.map FrL.b∧OF w' w.heap.size A' c' L'∧Below w.heap.size w w':=by
 have HR:=hide hr
 have Hn:=hide hn
 have Hok:=hide hok.2
 have hn9:n≤64:=by rw [←hn];exact hok.1
 clear hr hn hok
 go_enter Tryz.func32,Tryz.ntmps32
 go_wp2_with fail
 go_loopw [2,7] (fun v i wr=>∃ (j:Nat) (A':Option Addr) (c':Nat) (L':List FrL),j≤n∧i= .int .i64 (j:Int)∧v= .slice A' j c'∧Hid (L'.length=j)∧Hid (L'.map FrL.b=(L.take j).map FrL.b)∧Hid (OF wr w.heap.size A' c' L')∧Below w.heap.size w wr) (fun _ i _=>n - (intOf i).toNat)
 case atStart=>exact⟨0,none,0, [],by omega,rfl,rfl,hide rfl,hide rfl,hide (OF.nil _ _),Below.refl _ _⟩
 case round=>
  obtain⟨j,A',c',L',hj,rfl,rfl,hLl,hLm,hO,hb⟩:=hrel
  by_cases hlt:j < n
  ·have hltL:j < L.length:=by rw [Hn.out];exact hlt
   have z0:(j:Int) < n:=by omega
   have zj:(0:Int)≤j:=by omega
   obtain⟨bb,bo,rfl,hB,hC⟩:=RF.cell (HR.out.below hb) (by omega)
   have d0:=hC j hltL
   obtain⟨x,hx⟩:∃ x,L[j]=x:=⟨_,rfl⟩
   rw [hx] at d0
   have hxm:x∈L:=by rw [←hx];exact List.getElem_mem hltL
   have hP:=hide (lown x.A x.b.length x.c x.b wr (((HR.out.below hb).more hb.size).2 x hxm) rfl (by have:=Hok.out x hxm;omega))
   have T0:=hide (show (L.take (j+1)).map FrL.b=(L.take j).map FrL.b++ [x.b] by rw [List.take_succ_eq_append_getElem hltL,hx,List.map_append];rfl)
   clear hC hx hxm
   go_wp2_with fail
   refine hP.out.mono ?_
   rintro e w2 ⟨A2,c2,rfl,hown,hb2⟩
   have hb02:=fresh hb hb2
   have HO2:=hide (hO.out.below hb2)
   have Hown:=hide hown
   clear d0 hown hO
   go_wp2_with (at_builtin;refine wpList_append_fr _ rfl (.tmp 11) (.tmp 14) rfl w.heap.size A' c' j L' hLl.out rfl (HO2.out.below (fboxF _ _)) ⟨A2,c2,x.b⟩ (fr_less (own_below Hown.out (fboxF _ _) (Nat.le_refl _)) hb.size) (some ⟨w2.heap.size,0,none⟩) rfl (fr_row w2 ⟨A2,c2,x.b⟩) (by omega) (Nat.le_trans hb02.size (fboxF w2 _).size) ?_;intro A3 c3 w3 hO3 hb3)
   go_roundw
   case rel=>
    refine⟨j+1,A3,c3,L'++ [⟨A2,c2,x.b⟩],by omega,by go_num,rfl,hide ?_,hide ?_,hide hO3,(fresh hb02 (fboxF w2 _)).trans hb3⟩
    ·rw [List.length_append,hLl.out];rfl
    ·rw [T0.out,List.map_append,hLm.out];rfl
   case measure=>simp [intOf];omega
  ·have z0:¬ (j:Int) < n:=by omega
   obtain rfl:j=n:=by omega
   rw [List.take_of_length_le (by rw [Hn.out];omega)] at hLm
   go_wp2_with fail
   go_ret
   exact⟨A',c',rfl,L',hLm.out,hO.out,hb⟩
/-- Push's answer: its error, the bytes of its frames. -/
def pushE (L:List FrL) (b:List UInt8):Int:=if ¬ okF L then 8 else if 20000 < b.length then 4 else if L.length=64 then 9 else 0
def pushL (L:List FrL) (b:List UInt8):List (List UInt8):=if pushE L b=0 then L.map FrL.b++ [b] else []
theorem lpush (A B:Option Addr) (n c m d:Nat) (L:List FrL) (b:List UInt8) (w:World) (hr:RF w w.heap.size A L) (hn:L.length=n) (hs:RB w w.heap.size B b) (hm:b.length=m):
 Calls Tryz.prog 7 #[.slice A n c,.slice B m d] w fun e w'=>∃ A' c' L',e= .returned (.tuple #[.slice A' (List.length (α:=FrL) L') c',.int .i64 (pushE L b)])∧L'.map FrL.b=pushL L b∧OF w' w.heap.size A' c' L'∧Below w.heap.size w w':=by
 have hP:=hide (lcheck A n c L w hr hn)
 by_cases hok:okF L
 rotate_left
 ·rw [show chkF L=8 from if_neg hok] at hP
  have hE:pushE L b=8:=if_pos hok
  have HE:=hide (And.intro hE (show pushL L b= [] by unfold pushL;rw [hE];rfl))
  clear hok hE hr hn hs hm
  go_enter Tryz.func7,Tryz.ntmps7
  go_wp2_with fail
  refine hP.out.mono ?_
  rintro e w2 ⟨rfl,rfl⟩
  go_wp2_with fail
  refine bodyPost_ret (v:= .tuple #[.slice none 0 0,.int .i64 8]) (by simp [results,Tryz.results7,go_sem]) rfl ?_
  exact⟨none,0, [],by rw [HE.out.1];rfl,by rw [HE.out.2];rfl,OF.nil _ _,Below.refl _ _⟩
 rw [show chkF L=0 from if_pos hok] at hP
 by_cases hbig:(20000:Int) < m
 ·have hE:pushE L b=4:=by unfold pushE;rw [if_neg (fun h=>h hok),if_pos (by omega)]
  have HE:=hide (And.intro hE (show pushL L b= [] by unfold pushL;rw [hE];rfl))
  clear hok hE hr hn hs hm
  go_enter Tryz.func7,Tryz.ntmps7
  go_wp2_with fail
  refine hP.out.mono ?_
  rintro e w2 ⟨rfl,rfl⟩
  go_wp2_with fail
  refine bodyPost_ret (v:= .tuple #[.slice none 0 0,.int .i64 4]) (by simp [results,Tryz.results7,go_sem]) rfl ?_
  exact⟨none,0, [],by rw [HE.out.1];rfl,by rw [HE.out.2];rfl,OF.nil _ _,Below.refl _ _⟩
 by_cases hfull:(n:Int)=64
 ·have hE:pushE L b=9:=by unfold pushE;rw [if_neg (fun h=>h hok),if_neg (by omega),if_pos (by omega)]
  have HE:=hide (And.intro hE (show pushL L b= [] by unfold pushL;rw [hE];rfl))
  have z64:((n:Int) == 64)=true:=by simpa using hfull
  clear hok hE hr hn hs hm hfull
  go_enter Tryz.func7,Tryz.ntmps7
  go_wp2_with fail
  refine hP.out.mono ?_
  rintro e w2 ⟨rfl,rfl⟩
  go_wp2_with fail
  refine bodyPost_ret (v:= .tuple #[.slice none 0 0,.int .i64 9]) (by simp [results,Tryz.results7,go_sem]) rfl ?_
  exact⟨none,0, [],by rw [HE.out.1];rfl,by rw [HE.out.2];rfl,OF.nil _ _,Below.refl _ _⟩
 ·have hE:pushE L b=0:=by unfold pushE;rw [if_neg (fun h=>h hok),if_neg (by omega),if_neg (by omega)]
  have HE:=hide (And.intro hE (show pushL L b=L.map FrL.b++ [b] by unfold pushL;rw [if_pos hE]))
  have z64:((n:Int) == 64)=false:=by simpa using hfull
  have hT:=hide (ltwin A n c L w hr hn hok)
  have hO:=hide (fun (W:World) (h:Below w.heap.size w W)=>lown B m d b W ((RD.below hs h).more h.size) hm (by omega))
  have hn9:n≤64:=by rw [←hn];exact hok.1
  have Hn:=hide (And.intro hn hm)
  clear hok hE hr hn hs hm hfull
  go_enter Tryz.func7,Tryz.ntmps7
  go_wp2_with fail
  refine hP.out.mono ?_
  rintro e w2 ⟨rfl,rfl⟩
  go_wp2_with fail
  refine hT.out.mono ?_
  rintro e w3 ⟨A3,c3,L3,rfl,hL3,hO3,hb3⟩
  have hl3:L3.length=n:=by rw [←Hn.out.1,←List.length_map FrL.b,hL3,List.length_map]
  have H3:=hide (And.intro hL3 hl3)
  have HO3:=hide hO3
  clear hL3 hO3 hl3
  go_wp2_with fail
  refine (unhide hO w3 hb3).mono ?_
  rintro e w4 ⟨A4,c4,rfl,hown,hb4⟩
  have hb04:=fresh hb3 hb4
  have HO4:=hide (HO3.out.below hb4)
  have Hown:=hide hown
  obtain⟨bl,hbl⟩:∃ k,k=b.length:=⟨_,rfl⟩
  have hmb:m=bl:=by rw [hbl,Hn.out.2]
  rw [hmb] at Hown ⊢
  rw [hbl] at Hown ⊢
  clear hown hmb hbl
  go_wp2_with (at_builtin;refine wpList_append_fr _ rfl (.tmp 19) (.tmp 22) rfl w2.heap.size A3 c3 n L3 H3.out.2 rfl (HO4.out.below (fboxF _ _)) ⟨A4,c4,b⟩ (fr_less (own_below Hown.out (fboxF _ _) (Nat.le_refl _)) hb3.size) (some ⟨w4.heap.size,0,none⟩) rfl (fr_row w4 ⟨A4,c4,b⟩) (by omega) (Nat.le_trans hb04.size (fboxF w4 _).size) ?_;intro A5 c5 w5 hO5 hb5)
  have HO5:=hide hO5
  have hb05:=(fresh hb04 (fboxF w4 _)).trans hb5
  refine bodyPost_ret (v:= .tuple #[.slice A5 (n+1) c5,.int .i64 0]) (by simp [results,Tryz.results7,go_sem]) rfl ?_
  exact⟨A5,c5,L3++ [⟨A4,c4,b⟩],by rw [HE.out.1,List.length_append,H3.out.2];rfl,by rw [HE.out.2,List.map_append,H3.out.1];rfl,HO5.out,hb05⟩
theorem lsame (A B:Option Addr) (n m c d:Nat) (L M:List FrL) (w:World) (hr:RF w w.heap.size A L) (hs:RF w w.heap.size B M) (hn:L.length=n) (hm:M.length=m) (hn9:n < 1000000):
 Calls Tryz.prog 15 #[.slice A n c,.slice B m d] w fun e w'=>e= .returned (.bool (decide (L.map FrL.b=M.map FrL.b)))∧Below w.heap.size w w':=by
 have HR:=hide hr
 have HS:=hide hs
 have Hnm:=hide (And.intro hn hm)
 clear hr hs
 by_cases hne:(n:Int)=(m:Int)
 ·have hnm:n=m:=by omega
  have hbe:((n:Int) == (m:Int))=true:=by simpa using hne
  have hbn:((n:Int) != (m:Int))=false:=by simpa using hne
  have E:=hide hnm
  clear hne hn hm hnm
  go_enter Tryz.func15,Tryz.ntmps15
  go_wp2_with fail
  go_loopw [5] (fun i wr=>∃ j:Nat,j≤n∧i= .int .i64 (j:Int)∧Hid ((L.take j).map FrL.b=(M.take j).map FrL.b)∧Below w.heap.size w wr) (fun i _=>n - (intOf i).toNat)
  case atStart=>exact⟨0,by omega,rfl,hide rfl,Below.refl _ _⟩
  case round=>
   obtain⟨j,hj,rfl,hT,hb⟩:=hrel
   by_cases hlt:j < n
   ·have z0:(j:Int) < n:=by omega
    have z1:(j:Int) < m:=by have:=E.out;omega
    have zj:(0:Int)≤j:=by omega
    have hltL:j < L.length:=by rw [Hnm.out.1];exact hlt
    have hltM:j < M.length:=by rw [Hnm.out.2,←E.out];exact hlt
    obtain⟨b0,o0,rfl,hB0,hC0⟩:=RF.cell (HR.out.below hb) (by omega)
    obtain⟨b1,o1,rfl,hB1,hC1⟩:=RF.cell (HS.out.below hb) (by omega)
    obtain⟨x,hx⟩:∃ x,L[j]=x:=⟨_,rfl⟩
    obtain⟨y,hy⟩:∃ y,M[j]=y:=⟨_,rfl⟩
    have d0:=hC0 j hltL
    have e0:=hC1 j hltM
    rw [hx] at d0
    rw [hy] at e0
    have hxm:x∈L:=by rw [←hx];exact List.getElem_mem hltL
    have hym:y∈M:=by rw [←hy];exact List.getElem_mem hltM
    have s1:=fun u=>conv_bytes (P:=Tryz.prog) (show RB (past wr u) (past wr u).heap.size x.A x.b from (RD.below (((HR.out.below hb).more hb.size).2 x hxm) (below_past wr u)).more (below_past wr u).size) Tryz.underlying23 Tryz.underlying5 Tryz.underlying9 x.c
    have s2:=fun u=>conv_bytes (P:=Tryz.prog) (show RB (past wr u) (past wr u).heap.size y.A y.b from (RD.below (((HS.out.below hb).more hb.size).2 y hym) (below_past wr u)).more (below_past wr u).size) Tryz.underlying23 Tryz.underlying5 Tryz.underlying9 y.c
    have T0:=hide (show (L.take (j+1)).map FrL.b=(L.take j).map FrL.b++ [x.b] by rw [List.take_succ_eq_append_getElem hltL,hx,List.map_append];rfl)
    have T1:=hide (show (M.take (j+1)).map FrL.b=(M.take j).map FrL.b++ [y.b] by rw [List.take_succ_eq_append_getElem hltM,hy,List.map_append];rfl)
    have X0:=hide (And.intro hx hy)
    have hB0r:b0 < wr.heap.size:=by have:=hb.size;omega
    have hB1r:b1 < wr.heap.size:=by have:=hb.size;omega
    clear hC0 hC1 hxm hym hx hy
    by_cases hxy:x.b=y.b
    ·have hst:(x.b == y.b)=true:=by simpa using hxy
     have Hxy:=hide hxy
     clear hxy
     go_wp2_with fail
     refine wp_region_wq (by kernel_rfl) (by kernel_rfl) ?_
     repeat (
      refine WQ.step (fun K hK=>?_)
      go_simp
      refine hK _ ?_
      clear hK K)
     refine WQ.nil ?_
     intro u
     have hb3:=fresh hb (below_past wr u)
     clear s1 s2 d0 e0
     go_wp2_with fail
     go_roundw
     case rel=>
      refine⟨j+1,by omega,by go_num,hide ?_,hb3⟩
      rw [T0.out,T1.out,hT.out,Hxy.out]
     case measure=>simp [intOf];omega
    ·have hst:(x.b == y.b)=false:=by simpa using hxy
     have hf:=hide (show decide (L.map FrL.b=M.map FrL.b)=false from decide_eq_false fun h=>by
      have h1:=congrArg (fun l=>l[j]?) h
      simp only [List.getElem?_map,List.getElem?_eq_getElem hltL,List.getElem?_eq_getElem hltM,X0.out.1,X0.out.2,Option.map_some,Option.some.injEq] at h1
      exact hxy h1)
     clear hxy
     go_wp2_with fail
     refine wp_region_wq (by kernel_rfl) (by kernel_rfl) ?_
     repeat (
      refine WQ.step (fun K hK=>?_)
      go_simp
      refine hK _ ?_
      clear hK K)
     refine WQ.nil ?_
     intro u
     have hb3:=fresh hb (below_past wr u)
     clear s1 s2 d0 e0
     go_wp2_with fail
     go_ret
     exact⟨ret_bool hf.out.symm,hb3⟩
   ·have z0:¬ (j:Int) < n:=by omega
    have fin:=hide (show decide (L.map FrL.b=M.map FrL.b)=true by
     have h1:=hT.out
     rw [List.take_of_length_le (by rw [Hnm.out.1];omega),List.take_of_length_le (by rw [Hnm.out.2,←E.out];omega)] at h1
     exact decide_eq_true h1)
    go_wp2_with fail
    go_ret
    exact⟨ret_bool fin.out.symm,hb⟩
 ·have hbe:((n:Int) == (m:Int))=false:=by simpa using hne
  have hbn:((n:Int) != (m:Int))=true:=by simpa using hne
  have fin:=hide (show decide (L.map FrL.b=M.map FrL.b)=false by
   rw [decide_eq_false_iff_not]
   intro e
   have:=congrArg List.length e
   rw [List.length_map,List.length_map,hn,hm] at this
   exact hne (by rw [this]))
  clear hne hn hm
  go_enter Tryz.func15,Tryz.ntmps15
  go_wp2_with fail
  go_ret
  exact⟨ret_bool fin.out.symm,Below.refl _ _⟩
/-- What a claim says of a value, in a world. -/
abbrev Clm:=Value→World→Prop
/-- An operand's value, by the slots' values. -/
def evalOf (ρ:Nat→Value):Operand→Value
 | .tmp t=>ρ t
 | .const v=>v
 | .global g=> .pointer (some ⟨g,0,none⟩)
 | .func f=> .func (.func f) #[] #[]
@[go_sem] theorem evalOf_tmp (ρ:Nat→Value) (t:Nat):evalOf ρ (.tmp t)=ρ t:=rfl
@[go_sem] theorem evalOf_const (ρ:Nat→Value) (v:Value):evalOf ρ (.const v)=v:=rfl
@[go_sem] theorem evalOf_global (ρ:Nat→Value) (g:Nat):evalOf ρ (.global g)= .pointer (some ⟨g,0,none⟩):=rfl
@[go_sem] theorem evalOf_func (ρ:Nat→Value) (f:FuncId):evalOf ρ (.func f)= .func (.func f) #[] #[]:=rfl
def slotsOf (a:Act):Nat→Value:=fun s=>a.tmps.getD s undef
theorem eval_slots (a:Act):a.eval=evalOf (slotsOf a):=funext fun x=>by cases x <;> rfl
def boolOf (v:Value):Option Bool:=match v with | .bool b=>some b | _=>none
/-- Is an operation wanted? -/
def askOf (ops:Array Oper) (o:Oper) (ρ:Nat→Value):Bool:=
 match o.guard with
 | none=>true
 | some (j,b)=>match (ops[j]?).bind (·.dst) with
   | some d=>boolOf (ρ d) == some b
   | none=>false
theorem wanted_ask (ops:Array Oper) (o:Oper) (a:Act):Region.wanted o (yielded ops a.tmps)=askOf ops o (slotsOf a):=by
 unfold Region.wanted askOf
 cases o.guard with
 | none=>rfl
 | some g=>
   obtain⟨j,b⟩:=g
   simp only [yielded]
   cases (ops[j]?).bind (·.dst) with
   | none=>rfl
   | some d=>
     simp only [Option.bind_some,slotsOf]
     rw [Array.getD_eq_getD_getElem?]
     cases hd:a.tmps[d]? with
     | none=>rfl
     | some v=>
       simp only [Option.getD_some]
       cases v <;> rfl
/-- One operation, carried out by the slots' values. -/
def opOK (P:Program) (o:Oper) (ρ:Nat→Value) (w:World) (R:Clm):Prop:=
 match (execOp (evalOf ρ) o).run P w with
 | .ok (.value v) w'=>R v w'
 | .ok .skip w'=>R undef w'
 | .ok (.enter f args) w'=>Calls P f args w' fun e w''=>∃ v,e= .returned v∧R v w''
 | _=>False
theorem wp_of_opOK {P:Program} {o:Oper} {a:Act} {w:World} {R:Clm} {K:Act→World→Prop} {Q:Exit→Act→World→Prop} (h:opOK P o (slotsOf a) w R) (hk:∀ v w',R v w'→K (a.put o.dst v) w'):o.wp P a w K Q:=by
 unfold opOK at h
 unfold Oper.wp
 rw [eval_slots]
 generalize (execOp (evalOf (slotsOf a)) o).run P w=r at *
 cases r with
 | ok n w'=>
   cases n <;> simp only [Oper.upon] at h ⊢
   case value v=>exact hk _ _ h
   case skip=>exact hk _ _ h
   case enter f args=>exact h.mono fun e w'' ⟨v,he,hr⟩=>by subst he;exact hk _ _ hr
 | halt x w'=>exact h.elim
def writes (ops:Array Oper) (s:Nat):Bool:=ops.any fun o=>o.dst == some s
def depends (o:Oper) (j:Nat):Bool:=o.after.any fun e=>Region.binds .any e && e.on == j
def claimAt (ops:Array Oper) (Vs:List Clm) (ρ:Nat→Value) (w:World) (j:Nat):Prop:=
 match ops[j]?,Vs[j]? with
 | some o,some V=>match o.dst with
   | some d=>V (ρ d) w
   | none=>True
 | _,_=>True
def claimOf (Vs:List Clm) (i:Nat) (v:Value) (w:World):Prop:=match Vs[i]? with | some V=>V v w | none=>True
/-- Each operation stands on earlier ones alone; no slot is written twice; all slots are there. -/
def claimsB (ops:Array Oper) (n:Nat):Bool:=
 ((List.range ops.size).all fun i=>match ops[i]? with | some o=>(o.after.all fun e=> !Region.binds .any e || decide (e.on < i)) && (match o.dst with | some d=>decide (d < n) | none=>true) | none=>true) &&
 ((List.range ops.size).all fun i=>(List.range ops.size).all fun j=>decide (i=j) || match ops[i]?,ops[j]? with | some o,some o'=>o.dst == none || o.dst != o'.dst | _,_=>true)
theorem any_mem {α:Type} {l:Array α} {f:α→Bool} (h:l.any f=true):∃ x,x∈l∧f x=true:=by
 rw [←Array.any_toList] at h
 obtain⟨x,hx,hf⟩:=List.any_eq_true.1 h
 exact⟨x,Array.mem_toList_iff.1 hx,hf⟩
theorem mem_any {α:Type} {l:Array α} {f:α→Bool} {x:α} (hx:x∈l) (h:f x=true):l.any f=true:=by
 rw [←Array.any_toList]
 exact List.any_eq_true.2 ⟨x,Array.mem_toList_iff.2 hx,h⟩
/-- What is to be shown of one operation. -/
def oblig (P:Program) (ops:Array Oper) (Vs:List Clm) (a0:Act) (w0:World) (i:Nat) (o:Oper):Prop:=
 ∀ (ρ:Nat→Value) (w:World),Below w0.heap.size w0 w→(∀ s,writes ops s=false→ρ s=slotsOf a0 s)→(∀ j,depends o j=true→claimAt ops Vs ρ w j)→
  (askOf ops o ρ=true∧opOK P o ρ w fun v w'=>Below w.heap.size w w'∧claimOf Vs i v w')∨(askOf ops o ρ=false∧claimOf Vs i undef w)
def obligs (P:Program) (ops:Array Oper) (Vs:List Clm) (a0:Act) (w0:World):Nat→List Oper→Prop
 | _, []=>True
 | k,o :: l=>oblig P ops Vs a0 w0 k o∧obligs P ops Vs a0 w0 (k+1) l
theorem obligs_at {P:Program} {ops:Array Oper} {Vs:List Clm} {a0:Act} {w0:World}:∀ (l:List Oper) (k:Nat),obligs P ops Vs a0 w0 k l→∀ i o,l[i]?=some o→oblig P ops Vs a0 w0 (k+i) o
 | [],_,_,i,o,h=>by simp at h
 | x :: l,k,h,i,o,ho=>by
   cases i with
   | zero=>simp at ho;subst ho;exact h.1
   | succ i=>have:=obligs_at l (k+1) h.2 i o (by simpa using ho);rwa [show k+1+i=k+(i+1) by omega] at this
/-- How many are not listed yet. -/
def cntU (listed:Array Bool):Nat→Nat
 | 0=>0
 | n+1=>cntU listed n+(if listed.getD n true=true then 0 else 1)
theorem cntU_set (listed:Array Bool) (i:Nat) (hi:listed.getD i true=false):∀ n,cntU (listed.setIfInBounds i true) n+(if i < n then 1 else 0)=cntU listed n:=by
 intro n
 induction n with
 | zero=>simp [cntU]
 | succ n ih=>
   simp only [cntU]
   by_cases h:i=n
   ·subst h
    have h1:(listed.setIfInBounds i true).getD i true=true:=by
     rcases Nat.lt_or_ge i listed.size with h' | h'
     ·simp [h']
     ·simp [Array.getElem?_eq_none h'] at hi
    rw [h1,hi]
    simp at ih ⊢
    omega
   ·rw [getD_set_ne true h]
    have:(if i < n+1 then 1 else 0)=(if i < n then 1 else 0):=by
     by_cases h2:i < n
     ·rw [if_pos h2,if_pos (by omega)]
     ·rw [if_neg h2,if_neg (by omega)]
    omega
theorem cntU_zero {listed:Array Bool}:∀ n,cntU listed n=0→∀ j,j < n→listed.getD j true=true:=by
 intro n
 induction n with
 | zero=>intro _ j hj;omega
 | succ n ih=>
   intro h j hj
   simp only [cntU] at h
   by_cases hh:listed.getD n true=true
   ·rw [if_pos hh] at h
    rcases Nat.lt_or_ge j n with h' | h'
    ·exact ih (by omega) j h'
    ·have:j=n:=by omega
     subst this;exact hh
   ·rw [if_neg hh] at h;omega
/-- What stands in the middle of such a region. -/
def midC (ops:Array Oper) (Vs:List Clm) (a0:Act) (w0:World) (listed:Array Bool) (a:Act) (w:World):Prop:=
 listed.size=ops.size∧Below w0.heap.size w0 w∧a.defers=a0.defers∧a.tmps.size=a0.tmps.size∧(∀ s,writes ops s=false→slotsOf a s=slotsOf a0 s)∧∀ j,listed.getD j false=true→claimAt ops Vs (slotsOf a) w j
theorem claims_any {P:Program} {ops:Array Oper} {Vs:List Clm} {a0:Act} {w0:World} {Q:Exit→Act→World→Prop} (hB:claimsB ops a0.tmps.size=true)
 (hmono:∀ V∈Vs,∀ v w w',V v w→Below w.heap.size w w'→V v w') (hop:∀ i o,ops[i]?=some o→oblig P ops Vs a0 w0 i o)
 (hend:∀ a w,Below w0.heap.size w0 w→a.defers=a0.defers→a.tmps.size=a0.tmps.size→(∀ s,writes ops s=false→slotsOf a s=slotsOf a0 s)→(∀ j,j < ops.size→claimAt ops Vs (slotsOf a) w j)→Q .normal a w):
 ∀ (fuel:Nat) (listed:Array Bool) (a:Act) (w:World),cntU listed ops.size=fuel→midC ops Vs a0 w0 listed a w→wpAny P .any ops Q fuel listed a w:=by
 unfold claimsB at hB
 rw [Bool.and_eq_true] at hB
 obtain⟨hB1,hB2⟩:=hB
 have hedge:∀ i o,ops[i]?=some o→(∀ e∈o.after,Region.binds .any e=true→e.on < i)∧∀ d,o.dst=some d→d < a0.tmps.size:=by
  intro i o ho
  have hlt:i < ops.size:=(Array.getElem?_eq_some_iff.1 ho).1
  have:=List.all_eq_true.1 hB1 i (List.mem_range.2 hlt)
  rw [ho] at this
  simp only [Bool.and_eq_true,Array.all_eq_true_iff_forall_mem,Bool.or_eq_true,Bool.not_eq_true',decide_eq_true_eq] at this
  refine⟨fun e he hb=>(this.1 e he).resolve_left (by simp [hb]),fun d hd=>?_⟩
  have h2:=this.2
  rw [hd] at h2
  simpa using h2
 have hdist:∀ (i j:Nat) (o o':Oper) (d:Tmp),ops[i]?=some o→ops[j]?=some o'→i≠j→o.dst=some d→o'.dst≠some d:=by
  intro i j o o' d ho ho' hij hd he
  have hi:i < ops.size:=(Array.getElem?_eq_some_iff.1 ho).1
  have hj:j < ops.size:=(Array.getElem?_eq_some_iff.1 ho').1
  have:=List.all_eq_true.1 (List.all_eq_true.1 hB2 i (List.mem_range.2 hi)) j (List.mem_range.2 hj)
  rw [ho,ho'] at this
  simp [hij,hd,he] at this
 have hdone:∀ (listed:Array Bool) (a:Act) (w:World),midC ops Vs a0 w0 listed a w→Region.ready .any ops listed= []→Q .normal a w:=by
  intro listed a w hm hr
  obtain⟨hsz,hb,hdf,hs,hf,hc⟩:=hm
  have hall:∀ n,n≤ops.size→∀ j,j < n→listed.getD j false=true:=by
   intro n
   induction n with
   | zero=>intro _ j hj;omega
   | succ n ih=>
     intro hn j hj
     rcases Nat.lt_or_ge j n with h' | h'
     ·exact ih (by omega) j h'
     ·have hjn:j=n:=by omega
      subst hjn
      have hlj:j < ops.size:=by omega
      have hls:j < listed.size:=by omega
      cases hx:listed.getD j true with
      | true=>simpa [hls] using hx
      | false=>
        have:j∈Region.ready .any ops listed:=mem_ready.2 ⟨hx,ops[j],by simp [hlj],fun e he hbi=>ih (by omega) e.on ((hedge j ops[j] (by simp [hlj])).1 e he hbi)⟩
        rw [hr] at this
        cases this
  exact hend a w hb hdf hs hf (fun j hj=>hc j (hall ops.size (Nat.le_refl _) j hj))
 intro fuel
 induction fuel with
 | zero=>
   intro listed a w hcnt hm
   have hr:Region.ready .any ops listed= []:=by
    refine List.eq_nil_iff_forall_not_mem.2 fun j hj=>?_
    obtain⟨h0,o,ho,-⟩:=mem_ready.1 hj
    have:=cntU_zero _ hcnt j (Array.getElem?_eq_some_iff.1 ho).1
    rw [h0] at this
    cases this
   exact⟨hr,hdone _ _ _ hm hr⟩
 | succ fuel ih=>
   intro listed a w hcnt hm
   refine⟨fun hr=>hdone _ _ _ hm hr,fun i hi=>?_⟩
   obtain⟨hsz,hb,hdf,hs,hf,hc⟩:=hm
   obtain⟨h0,o,ho,hall⟩:=mem_ready.1 hi
   have hlt:i < ops.size:=(Array.getElem?_eq_some_iff.1 ho).1
   have hob:=hop i o ho (slotsOf a) w hb hf (fun j hj=>by
    unfold depends at hj
    obtain⟨e,he,hej⟩:=any_mem hj
    simp only [Bool.and_eq_true,beq_iff_eq] at hej
    exact hc j (hej.2 ▸ hall e he hej.1))
   have hcnt':cntU (listed.setIfInBounds i true) ops.size=fuel:=by
    have:=cntU_set listed i h0 ops.size
    rw [if_pos hlt] at this
    omega
   have hnext:∀ v w',Below w.heap.size w w'→claimOf Vs i v w'→midC ops Vs a0 w0 (listed.setIfInBounds i true) (a.put o.dst v) w':=by
    intro v w' hb' hv
    refine⟨by simp [hsz],hb.trans (hb'.mono hb.size),?_,?_,?_,?_⟩
    ·cases o.dst <;> exact hdf
    ·cases o.dst <;> simp [Act.put,hs]
    ·intro s hs'
     rw [←hf s hs']
     unfold slotsOf
     cases hd:o.dst with
     | none=>rfl
     | some d=>
       have hne:d≠s:=by
        intro e
        subst e
        unfold writes at hs'
        have:(ops.any fun o=>o.dst == some d)=true:=mem_any (Array.mem_of_getElem? ho) (by simp [hd])
        rw [this] at hs'
        cases hs'
       simp [Act.put,Array.getElem?_setIfInBounds_ne hne]
    ·intro j hj
     by_cases hij:i=j
     ·subst hij
      unfold claimAt
      rw [ho]
      unfold claimOf at hv
      cases hV:Vs[i]? with
      | none=>trivial
      | some V=>
        rw [hV] at hv
        cases hd:o.dst with
        | none=>simp only [hd]
        | some d=>
          have hdlt:=(hedge i o ho).2 d hd
          rw [←hs] at hdlt
          simp only [hd]
          have:slotsOf (a.put (some d) v) d=v:=by simp [slotsOf,Act.put,hdlt]
          rw [this]
          exact hv
     ·rw [getD_set_ne false hij] at hj
      have hcj:=hc j hj
      unfold claimAt at hcj ⊢
      cases hoj:ops[j]? with
      | none=>trivial
      | some o'=>
        rw [hoj] at hcj
        cases hV:Vs[j]? with
        | none=>trivial
        | some V=>
          rw [hV] at hcj
          cases hd':o'.dst with
          | none=>simp only [hd']
          | some d'=>
            simp only [hd'] at hcj ⊢
            have hne:o.dst≠some d':=hdist j i o' o d' hoj ho (fun e=>hij e.symm) hd'
            have:slotsOf (a.put o.dst v) d'=slotsOf a d':=by
             unfold slotsOf
             cases hd:o.dst with
             | none=>rfl
             | some d=>
               have:d≠d':=fun e=>hne (by rw [hd,e])
               simp [Act.put,Array.getElem?_setIfInBounds_ne this]
            rw [this]
            exact hmono V (List.mem_of_getElem? hV) _ _ _ hcj hb'
   unfold wpOp
   rw [ho]
   simp only
   rw [wanted_ask]
   rcases hob with⟨hw,hx⟩ | ⟨hw,hx⟩
   ·rw [if_pos hw]
    exact .inl (wp_of_opOK hx fun v w' ⟨h1,h2⟩=>ih _ _ _ hcnt' (hnext v w' h1 h2))
   ·rw [hw]
    exact ih _ _ _ hcnt' (hnext undef w (Below.refl _ _) hx)
/-- The region, its operations written out. -/
theorem wp_region_claims {P:Program} {id:Nat} {l:List Oper} {Q:Exit→Act→World→Prop} {a:Act} {w:World} (Vs:List Clm) (hm:P.follows .mixedOrders=true) (n:Nat) (hn:a.tmps.size=n) (hB:claimsB l.toArray n=true)
 (hmono:∀ V∈Vs,∀ v w w',V v w→Below w.heap.size w w'→V v w') (hop:obligs P l.toArray Vs a w 0 l)
 (hend:∀ a' w',Below w.heap.size w w'→a'.defers=a.defers→a'.tmps.size=n→(∀ s,writes l.toArray s=false→slotsOf a' s=slotsOf a s)→(∀ j,j < l.length→claimAt l.toArray Vs (slotsOf a') w' j)→Q .normal a' w'):
 (Code.region id l.toArray true).wp P Q a w:=by
 subst hn
 refine wp_region_any hm (claims_any (w0:=w) (a0:=a) (Vs:=Vs) hB hmono (fun i o ho=>by have:=obligs_at l 0 hop i o (by simpa using ho);rwa [Nat.zero_add] at this) (fun a' w' h1 h2 h3 h4 h5=>hend a' w' h1 h2 h3 h4 (fun j hj=>h5 j (by simpa using hj))) _ _ _ _ ?_ ?_)
 ·have:∀ n m,n≤m→cntU (Array.replicate m false) n=n:=by
   intro n
   induction n with
   | zero=>intro m _;rfl
   | succ n ih=>
     intro m hm
     simp only [cntU]
     rw [ih m (by omega)]
     have:(Array.replicate m false).getD n true=false:=by simp [show n < m by omega]
     rw [this]
     simp
  exact this _ _ (Nat.le_refl _)
 ·refine⟨by simp,(Below.refl _ _).drew,rfl,rfl,fun _ _=>rfl,fun j hj=>?_⟩
  exfalso
  rcases Nat.lt_or_ge j l.length with h | h
  ·simp [h] at hj
  ·simp [Array.getElem?_eq_none (xs:=Array.replicate l.length false) (i:=j) (by simpa using h)] at hj
/-- One operation's step, what follows behind a variable. -/
theorem opOK_step {P:Program} {o:Oper} {ρ:Nat→Value} {w:World} {S:Clm} (h:∀ R:Clm,(∀ v w',S v w'→R v w')→opOK P o ρ w R):opOK P o ρ w S:=h S fun _ _ h=>h
theorem ask_of {ops:Array Oper} {o:Oper} {ρ:Nat→Value} {j d:Nat} {b:Bool} (hg:o.guard=some (j,b)) (hd:(ops[j]?).bind (·.dst)=some d) (h:ρ d= .bool b):askOf ops o ρ=true:=by
 unfold askOf
 rw [hg]
 simp only [hd,h,boolOf,beq_self_eq_true]
theorem ask_not {ops:Array Oper} {o:Oper} {ρ:Nat→Value} {j d:Nat} {b:Bool} (hg:o.guard=some (j,b)) (hd:(ops[j]?).bind (·.dst)=some d) (h:ρ d= .bool (!b)):askOf ops o ρ=false:=by
 unfold askOf
 rw [hg]
 simp only [hd,h,boolOf]
 cases b <;> rfl
end Go.Proofs.YtmkpfdcnikgokaaGreat
