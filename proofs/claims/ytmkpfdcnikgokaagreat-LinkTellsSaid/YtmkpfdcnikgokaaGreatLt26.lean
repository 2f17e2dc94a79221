/-
  Texts of this claim, put together: LinkRef, LinkRef2, Chain. What each theorem asks stands in its statement.
-/
import Derived.Test.YtmkpfdcnikgokaaGreatLt3
import Derived.Test.YtmkpfdcnikgokaaGreatLt4
import Derived.Test.YtmkpfdcnikgokaaGreatLt8
import Derived.Test.YtmkpfdcnikgokaaGreatLt25
set_option linter.unusedVariables false
set_option linter.unusedSimpArgs false
set_option maxRecDepth 100000
set_option maxHeartbeats 25600000
namespace Go.Proofs.YtmkpfdcnikgokaaGreat
open Go.RowKit
theorem wpList_append_huge {P:Program} (w:World) {ops:Array Oper} {rest:List Oper} {o:Oper} {a:Act} {Q:Exit→Act→World→Prop} (hgd:o.guard=none) (s x:Operand) (t:TypeId)
 (ho:o.op= .call { callee:= .builtin .append,args:=#[s,x],argTypes:=#[t,t] })
 (base:Nat) (e:TypeId) (i:TypeInfo) (z:Value) (size bytes:Nat) (ht:P.underlying t=some (.slice e)) (hi:P.info? e=some i) (hz:i.zero=some z)
 (hsize:i.size=size) (hby:i.bytes=bytes) (hzs:z.cells.size=size) (hsz:0 < size)
 (v:Value) (n:Nat) (xs:List Value) (hs:a.eval s=v) (hown:w.ownsRow base e size v n xs)
 (B:Nat) (A:Option Addr) (m c:Nat) (news:List Value) (hx:a.eval x= .slice A m c) (hr:RD w B size A m news) (h1:∀ u∈news,u.oneCell'=true)
 (h63:n+m≤140737488355328) (hbytes:(n+m) * bytes≤140737488355328) (hbase:base≤w.heap.size)
 (h:∀ v' w',w'.ownsRow base e size v' (n+m) (xs++news)→Below base w w'→wpList P ops Q rest (a.put o.dst v') w'):wpList P ops Q (o :: rest) a w:=
 wpList_plain hgd fun _ hK=>by
  obtain⟨v',w',hrun,h2,h3⟩:=run_append_src (P:=P) w base t o.type e i z size bytes ht hi hz hsize hby hzs hsz v n xs hown B A m c news hr h1 (by unfold maxLen;omega) hbytes hbase
  unfold Oper.wp execOp
  simp only [ho,resolve,invoke,builtin,Sem.run_bind,Sem.run_pure,Result.andThen_ok,List.map_toArray,List.map_cons,List.map_nil,hs,hx,hrun]
  exact hK _ _ (h v' w' h2 (grown_below hown h3 hbase))
theorem rown (A:Option Addr) (n c:Nat) (b:List UInt8) (w:World) (hr:RB w w.heap.size A b) (hn:b.length=n) (hl:n≤140737488355328):
 Calls Tryz.prog 31 #[.slice A n c] w fun e w'=>∃ A' c',e= .returned (.slice A' n c')∧w'.ownsRow w.heap.size 5 1 (.slice A' n c') n (u8s b)∧Below w.heap.size w w':=by
 obtain⟨i0,hi0,hz0,hz1,hz2⟩:=info_parts fru8
 have hR:=hide (show RD w w.heap.size 1 A n (u8s b) by rw [←hn];exact hr)
 clear hr hn
 go_enter Tryz.func31,Tryz.ntmps31
 go_wp2_with (at_builtin;refine wpList_append_huge _ rfl (.tmp 3) (.tmp 4) 23 rfl w.heap.size 5 i0 (.int .u8 0) 1 1 Tryz.underlying23 hi0 hz0 hz1 hz2 rfl (by decide) _ 0 [] rfl (own_empty w _ _ _ (Nat.le_refl _)) w.heap.size A n c (u8s b) rfl (RD.alloc hR.out (Nat.le_refl _) _) (u8s_one _) (by omega) (by omega) (by simp) ?_;intro v1 w1 hown hb1;simp only [Nat.zero_add,List.nil_append] at hown;obtain⟨A1,c1,rfl,-,-,-⟩:=own_slice hown;have HO:=hide hown;have HB:=hide (((Below.refl w.heap.size w).alloc (Nat.le_refl _) _).trans hb1);clear hown hb1)
 go_ret
 exact⟨A1,c1,rfl,HO.out,HB.out⟩
theorem rtwin (A:Option Addr) (n c:Nat) (L:List FrL) (w:World) (hr:RF w w.heap.size A L) (hn:L.length=n) (hn9:n≤1000000) (hok:∀ x∈L,x.b.length≤140737488351232):
 Calls Tryz.prog 6 #[.slice A n c] w fun e w'=>∃ A' c' L',e= .returned (.slice A' n c')∧L'.map FrL.b=L.map FrL.b∧OF w' w.heap.size A' c' L'∧Below w.heap.size w w':=by
 have HR:=hide hr
 have Hn:=hide hn
 have Hok:=hide hok
 clear hr hn hok
 go_enter Tryz.func6,Tryz.ntmps6
 go_wp2_with fail
 go_loopw [3,4] (fun v i wr=>∃ (j:Nat) (A':Option Addr) (c':Nat) (L':List FrL),j≤n∧i= .int .i64 (j:Int)∧v= .slice A' j c'∧Hid (L'.length=j)∧Hid (L'.map FrL.b=(L.take j).map FrL.b)∧Hid (OF wr w.heap.size A' c' L')∧Below w.heap.size w wr) (fun _ i _=>n - (intOf i).toNat)
 case atStart=>exact⟨0,none,0, [],by omega,rfl,rfl,hide rfl,hide rfl,hide (OF.nil _ _),Below.refl _ _⟩
 case round=>
  obtain⟨j,A',c',L',hj,rfl,rfl,hLl,hLm,hO,hb⟩:=hrel
  by_cases hlt:j < n
  ·have hltL:j < L.length:=by rw [Hn.out];exact hlt
   have z0:(j:Int) < n:=by omega
   have zj:(0:Int)≤j:=by omega
   obtain⟨bb,bo,rfl,hB,hC⟩:=RF.cell (HR.out.below hb) (by omega)
   have d0:=hC j hltL
   obtain⟨x,hx⟩:∃ x,L[j]=x:=⟨_,rfl⟩
   rw [hx] at d0
   have hxm:x∈L:=by rw [←hx];exact List.getElem_mem hltL
   have hP:=hide (rown x.A x.b.length x.c x.b wr (((HR.out.below hb).more hb.size).2 x hxm) rfl (by have:=Hok.out x hxm;omega))
   have T0:=hide (show (L.take (j+1)).map FrL.b=(L.take j).map FrL.b++ [x.b] by rw [List.take_succ_eq_append_getElem hltL,hx,List.map_append];rfl)
   clear hC hx hxm
   go_wp2_with fail
   refine hP.out.mono ?_
   rintro e w2 ⟨A2,c2,rfl,hown,hb2⟩
   have hb02:=fresh hb hb2
   have HO2:=hide (hO.out.below hb2)
   have Hown:=hide hown
   clear d0 hown hO
   go_wp2_with (at_builtin;refine wpList_append_fr _ rfl (.tmp 11) (.tmp 17) rfl w.heap.size A' c' j L' hLl.out rfl (HO2.out.below (fboxF _ _)) ⟨A2,c2,x.b⟩ (fr_less (own_below Hown.out (fboxF _ _) (Nat.le_refl _)) hb.size) (some ⟨w2.heap.size,0,none⟩) rfl (fr_row w2 ⟨A2,c2,x.b⟩) (by omega) (Nat.le_trans hb02.size (fboxF w2 _).size) ?_;intro A3 c3 w3 hO3 hb3)
   go_roundw
   case rel=>
    refine⟨j+1,A3,c3,L'++ [⟨A2,c2,x.b⟩],by omega,by go_num,rfl,hide ?_,hide ?_,hide hO3,(fresh hb02 (fboxF w2 _)).trans hb3⟩
    ·rw [List.length_append,hLl.out];rfl
    ·rw [T0.out,List.map_append,hLm.out];rfl
   case measure=>simp [intOf];omega
  ·have z0:¬ (j:Int) < n:=by omega
   obtain rfl:j=n:=by omega
   rw [List.take_of_length_le (by rw [Hn.out];omega)] at hLm
   go_wp2_with fail
   go_ret
   exact⟨A',c',rfl,L',hLm.out,hO.out,hb⟩
theorem rmay (A:Option Addr) (n c:Nat) (L:List FrL) (w:World) (hr:RF w w.heap.size A L) (hn:L.length=n) (hn9:n≤1000000):
 Calls Tryz.prog 34 #[.slice A n c] w fun e w'=>e= .returned (.bool (decide (okF L)))∧w'=w:=by
 have HR:=hide hr
 have Hn:=hide hn
 clear hr hn
 go_enter Tryz.func34,Tryz.ntmps34
 go_wp2_with fail
 go_loopw [3] (fun i wr=>∃ j:Nat,j≤n∧i= .int .i64 (j:Int)∧Hid (∀ x∈L.take j,x.b.length≤20000)∧wr=w) (fun i _=>n - (intOf i).toNat)
 case atStart=>exact⟨0,by omega,rfl,hide (fun x hx=>by cases hx),rfl⟩
 case round=>
  obtain⟨j,hj,rfl,HS,rfl⟩:=hrel
  by_cases hlt:j < n
  ·have hltL:j < L.length:=by rw [Hn.out];exact hlt
   have z0:(j:Int) < n:=by omega
   have zj:(0:Int)≤j:=by omega
   obtain⟨bb,bo,rfl,hB,hC⟩:=RF.cell HR.out (by omega)
   have d0:=hC j hltL
   obtain⟨x,hx⟩:∃ x,L[j]=x:=⟨_,rfl⟩
   rw [hx] at d0
   have hxm:x∈L:=by rw [←hx];exact List.getElem_mem hltL
   have Htake:=hide (show L.take (j+1)=L.take j++ [x] by rw [List.take_succ_eq_append_getElem hltL,hx])
   clear hC hx
   by_cases hg:(20000:Int) < (x.b.length:Int)
   ·have hf:=hide (show decide (okF L)=false from decide_eq_false fun h=>by have:=h.2 x hxm;omega)
    clear hxm
    go_wp2_with fail
    go_ret
    exact⟨ret_bool hf.out.symm,rfl⟩
   ·have hg':x.b.length≤20000:=by omega
    clear hxm
    go_wp2_with fail
    go_roundw
    case rel=>
     refine⟨j+1,by omega,by go_num,hide ?_,by trivial⟩
     rw [Htake.out]
     intro u hu
     rcases List.mem_append.1 hu with h | h
     ·exact HS.out u h
     ·simp only [List.mem_singleton] at h
      subst h
      exact hg'
    case measure=>simp [intOf];omega
  ·have z0:¬ (j:Int) < n:=by omega
   obtain rfl:j=n:=by omega
   rw [List.take_of_length_le (by rw [Hn.out];exact Nat.le_refl _)] at HS
   by_cases h64:(j:Int)≤64
   ·have hf:=hide (show decide (okF L)=true from decide_eq_true ⟨by rw [Hn.out];omega,HS.out⟩)
    go_wp2_with fail
    go_ret
    exact⟨by rw [hf.out];first | rfl | simp,rfl⟩
   ·have hf:=hide (show decide (okF L)=false from decide_eq_false fun h=>by have:=h.1;rw [Hn.out] at this;omega)
    go_wp2_with fail
    go_ret
    exact⟨by rw [hf.out];first | rfl | simp,rfl⟩
theorem rcheck (A:Option Addr) (n c:Nat) (L:List FrL) (w:World) (hr:RF w w.heap.size A L) (hn:L.length=n) (hn9:n≤1000000):
 Calls Tryz.prog 17 #[.slice A n c] w fun e w'=>e= .returned (.int .i64 (chkF L))∧w'=w:=by
 have P:=hide (rmay A n c L w hr hn hn9)
 obtain⟨b,hb⟩:∃ b,decide (okF L)=b:=⟨_,rfl⟩
 rw [hb] at P
 have HE:=hide (show chkF L=if b=true then 0 else 8 by
  unfold chkF
  by_cases h:okF L
  ·rw [if_pos h,if_pos (by rw [←hb];exact decide_eq_true h)]
  ·rw [if_neg h,if_neg (by rw [←hb,decide_eq_false h];decide)])
 clear hr hn hb
 cases b
 all_goals
  go_enter Tryz.func17,Tryz.ntmps17
  go_wp2_with fail
  refine P.out.mono ?_
  rintro e w2 ⟨rfl,rfl⟩
  go_wp2_with fail
  go_ret
  exact⟨by rw [HE.out];rfl,rfl⟩
theorem rpush (A B:Option Addr) (n c m d:Nat) (L:List FrL) (b:List UInt8) (w:World) (hr:RF w w.heap.size A L) (hn:L.length=n) (hn9:n≤1000000) (hs:RB w w.heap.size B b) (hm:b.length=m):
 Calls Tryz.prog 8 #[.slice A n c,.slice B m d] w fun e w'=>∃ A' c' L',e= .returned (.tuple #[.slice A' (List.length (α:=FrL) L') c',.int .i64 (pushE L b)])∧L'.map FrL.b=pushL L b∧OF w' w.heap.size A' c' L'∧Below w.heap.size w w':=by
 have P:=hide (rmay A n c L w hr hn hn9)
 by_cases hok:okF L
 rotate_left
 ·rw [decide_eq_false hok] at P
  have HE:=hide (show pushE L b=8 from if_pos hok)
  have HV:=hide (show pushL L b= [] by unfold pushL;rw [HE.out];rfl)
  clear hr hn hs hm hok
  go_enter Tryz.func8,Tryz.ntmps8
  go_wp2_with fail
  refine P.out.mono ?_
  rintro e w2 ⟨rfl,rfl⟩
  go_wp2_with fail
  refine bodyPost_ret (v:= .tuple #[.slice none 0 0,.int .i64 8]) (by simp [results,Tryz.results8,go_sem]) rfl ?_
  exact⟨none,0, [],by rw [HE.out];rfl,by rw [HV.out];rfl,OF.nil _ _,Below.refl _ _⟩
 rw [decide_eq_true hok] at P
 have hn64:n≤64:=by rw [←hn];exact hok.1
 by_cases hbig:(20000:Int) < m
 ·have HE:=hide (show pushE L b=4 by unfold pushE;rw [if_neg (fun h=>h hok),if_pos (by omega)])
  have HV:=hide (show pushL L b= [] by unfold pushL;rw [HE.out];rfl)
  clear hr hn hs hm hok
  go_enter Tryz.func8,Tryz.ntmps8
  go_wp2_with fail
  refine P.out.mono ?_
  rintro e w2 ⟨rfl,rfl⟩
  go_wp2_with fail
  refine bodyPost_ret (v:= .tuple #[.slice none 0 0,.int .i64 4]) (by simp [results,Tryz.results8,go_sem]) rfl ?_
  exact⟨none,0, [],by rw [HE.out];rfl,by rw [HV.out];rfl,OF.nil _ _,Below.refl _ _⟩
 by_cases hfull:n=64
 ·have hfi:(n:Int)=64:=by omega
  have HE:=hide (show pushE L b=9 by unfold pushE;rw [if_neg (fun h=>h hok),if_neg (by omega),if_pos (by omega)])
  have HV:=hide (show pushL L b= [] by unfold pushL;rw [HE.out];rfl)
  clear hr hn hs hm hok
  subst hfull
  go_enter Tryz.func8,Tryz.ntmps8
  go_wp2_with fail
  refine P.out.mono ?_
  rintro e w2 ⟨rfl,rfl⟩
  go_wp2_with fail
  refine bodyPost_ret (v:= .tuple #[.slice none 0 0,.int .i64 9]) (by simp [results,Tryz.results8,go_sem]) rfl ?_
  exact⟨none,0, [],by rw [HE.out];rfl,by rw [HV.out];rfl,OF.nil _ _,Below.refl _ _⟩
 have hfi:¬ (n:Int)=64:=by omega
 have HE:=hide (show pushE L b=0 by unfold pushE;rw [if_neg (fun h=>h hok),if_neg (by omega),if_neg (by omega)])
 have HV:=hide (show pushL L b=L.map FrL.b++ [b] by unfold pushL;rw [HE.out];rfl)
 have hT:=hide (rtwin A n c L w hr hn (by omega) (fun x hx=>by have:=hok.2 x hx;omega))
 have HS:=hide hs
 have Hm:=hide hm
 have Hn:=hide hn
 clear hr hn hs hm hok
 go_enter Tryz.func8,Tryz.ntmps8
 go_wp2_with fail
 refine P.out.mono ?_
 rintro e w2 ⟨rfl,rfl⟩
 go_wp2_with fail
 refine hT.out.mono ?_
 rintro e w3 ⟨A3,c3,L3,rfl,hL3,hO3,hb3⟩
 have hl3:L3.length=n:=by rw [←Hn.out,←List.length_map FrL.b,hL3,List.length_map]
 have HL3:=hide (And.intro hL3 (And.intro hO3 hl3))
 have HB3:=hide hb3
 have hP:=hide (rown B m d b w3 ((RD.below HS.out hb3).more hb3.size) Hm.out (by omega))
 clear hL3 hO3 hl3 hT hb3
 go_wp2_with fail
 refine hP.out.mono ?_
 rintro e w4 ⟨A4,c4,rfl,hown,hb4⟩
 have Hown:=hide hown
 have HB4:=hide (fresh HB3.out hb4)
 have HO4:=hide (HL3.out.2.1.below hb4)
 have hsz3:=hide HB3.out.size
 have hbw4:=HB4.out.size
 have hown':w4.ownsRow w3.heap.size 5 1 (.slice A4 b.length c4) b.length (u8s b):=by rw [Hm.out];exact hown
 have Hown':=hide hown'
 clear hown hown' hP hb4
 go_wp2_with (at_builtin;refine wpList_append_fr _ rfl (.tmp 16) (.tmp 19) rfl w2.heap.size A3 c3 n L3 HL3.out.2.2 rfl (HO4.out.below (fboxF _ _)) ⟨A4,c4,b⟩ (fr_less (own_below Hown'.out (fboxF _ _) (Nat.le_refl _)) hsz3.out) (some ⟨w4.heap.size,0,none⟩) rfl (by have:=fr_row w4 ⟨A4,c4,b⟩;simp only [Hm.out] at this;exact this) (by omega) (Nat.le_trans hbw4 (fboxF w4 _).size) ?_;intro A5 c5 w5 hO5 hb5;have HO5:=hide hO5;have HB5:=hide ((HB4.out.trans ((fboxF w4 (.cells #[.slice A4 m c4] 23)).mono hbw4)).trans hb5);clear hO5 hb5)
 refine bodyPost_ret (v:= .tuple #[.slice A5 (n+1) c5,.int .i64 0]) (by simp [results,Tryz.results8,go_sem]) rfl ?_
 refine⟨A5,c5,L3++ [⟨A4,c4,b⟩],by rw [HE.out,List.length_append,HL3.out.2.2];rfl,?_,HO5.out,HB5.out⟩
 rw [HV.out,List.map_append,HL3.out.1]
 rfl
theorem rasked (A:Option Addr) (n c:Nat) (m:Int) (L:List FrL) (w:World) (hr:RF w w.heap.size A L) (hn:L.length=n) (hn9:n≤1000000):
 Calls Tryz.prog 37 #[.slice A n c,.int .i64 m] w fun e w'=>e= .returned (.int .i64 (atE L m))∧w'=w:=by
 have P:=hide (rmay A n c L w hr hn hn9)
 by_cases hok:okF L
 rotate_left
 ·rw [decide_eq_false hok] at P
  have HE:=hide (show atE L m=8 from if_pos hok)
  clear hr hn hok
  go_enter Tryz.func37,Tryz.ntmps37
  go_wp2_with fail
  refine P.out.mono ?_
  rintro e w2 ⟨rfl,rfl⟩
  go_wp2_with fail
  go_ret
  exact⟨by rw [HE.out];rfl,rfl⟩
 rw [decide_eq_true hok] at P
 by_cases h0:m < 0
 ·have HE:=hide (show atE L m=2 by unfold atE;rw [if_neg (fun h=>h hok),if_pos (.inl h0)])
  clear hr hn hok
  go_enter Tryz.func37,Tryz.ntmps37
  go_wp2_with fail
  refine P.out.mono ?_
  rintro e w2 ⟨rfl,rfl⟩
  go_wp2_with fail
  go_ret
  exact⟨by rw [HE.out];rfl,rfl⟩
 by_cases h1:(n:Int)≤m
 ·have HE:=hide (show atE L m=2 by unfold atE;rw [if_neg (fun h=>h hok),if_pos (.inr (by omega))])
  clear hr hn hok
  go_enter Tryz.func37,Tryz.ntmps37
  go_wp2_with fail
  refine P.out.mono ?_
  rintro e w2 ⟨rfl,rfl⟩
  go_wp2_with fail
  go_ret
  exact⟨by rw [HE.out];rfl,rfl⟩
 have HE:=hide (show atE L m=0 by unfold atE;rw [if_neg (fun h=>h hok),if_neg (by omega)])
 clear hr hn hok
 go_enter Tryz.func37,Tryz.ntmps37
 go_wp2_with fail
 refine P.out.mono ?_
 rintro e w2 ⟨rfl,rfl⟩
 go_wp2_with fail
 go_ret
 exact⟨by rw [HE.out];rfl,rfl⟩
theorem erase_snoc {α:Type} (l:List α) (x:α) (m:Nat):(l++ [x]).eraseIdx m=if m=l.length then l else l.eraseIdx m++ [x]:=by
 split
 ·rename_i h
  subst h
  simp [List.eraseIdx_append_of_length_le]
 ·rename_i h
  rcases Nat.lt_or_gt_of_ne h with h | h
  ·rw [List.eraseIdx_append_of_lt_length h]
  ·rw [List.eraseIdx_of_length_le (by simp;omega),List.eraseIdx_of_length_le (by omega)]
theorem rwithout (A:Option Addr) (n c m:Nat) (L:List FrL) (w:World) (hr:RF w w.heap.size A L) (hn:L.length=n) (hn9:n≤1000000) (hok:∀ x∈L,x.b.length≤140737488351232):
 Calls Tryz.prog 38 #[.slice A n c,.int .i64 (m:Int)] w fun e w'=>∃ A' c' L',e= .returned (.slice A' (List.length (α:=FrL) L') c')∧L'.map FrL.b=(L.map FrL.b).eraseIdx m∧OF w' w.heap.size A' c' L'∧Below w.heap.size w w':=by
 have HR:=hide hr
 have Hn:=hide hn
 have Hok:=hide hok
 clear hr hn hok
 go_enter Tryz.func38,Tryz.ntmps38
 go_wp2_with fail
 go_loopw [5,6] (fun v i wr=>∃ (j p:Nat) (A':Option Addr) (c':Nat) (L':List FrL),j≤n∧i= .int .i64 (j:Int)∧v= .slice A' p c'∧Hid (L'.length=p)∧Hid (p≤j)∧Hid (L'.map FrL.b=((L.take j).map FrL.b).eraseIdx m)∧Hid (OF wr w.heap.size A' c' L')∧Below w.heap.size w wr) (fun _ i _=>n - (intOf i).toNat)
 case atStart=>exact⟨0,0,none,0, [],by omega,rfl,rfl,hide rfl,hide (Nat.le_refl _),hide (by simp),hide (OF.nil _ _),Below.refl _ _⟩
 case round=>
  obtain⟨j,p,A',c',L',hj,rfl,rfl,hLl,hpj,hLm,hO,hb⟩:=hrel
  by_cases hlt:j < n
  ·have hltL:j < L.length:=by rw [Hn.out];exact hlt
   have z0:(j:Int) < n:=by omega
   have zj:(0:Int)≤j:=by omega
   obtain⟨bb,bo,rfl,hB,hC⟩:=RF.cell (HR.out.below hb) (by omega)
   have d0:=hC j hltL
   obtain⟨x,hx⟩:∃ x,L[j]=x:=⟨_,rfl⟩
   rw [hx] at d0
   have hxm:x∈L:=by rw [←hx];exact List.getElem_mem hltL
   have T0:=hide (show ((L.take (j+1)).map FrL.b).eraseIdx m=if m=j then (L.take j).map FrL.b else ((L.take j).map FrL.b).eraseIdx m++ [x.b] by
    rw [List.take_succ_eq_append_getElem hltL,hx,List.map_append,List.map_singleton,erase_snoc,List.length_map,List.length_take,Nat.min_eq_left (Nat.le_of_lt hltL)])
   have hP:=hide (rown x.A x.b.length x.c x.b wr (((HR.out.below hb).more hb.size).2 x hxm) rfl (by have:=Hok.out x hxm;omega))
   clear hC hx hxm
   by_cases hjm:m=j
   ·subst hjm
    have T1:=hide (show L'.map FrL.b=((L.take (m+1)).map FrL.b).eraseIdx m by
     rw [T0.out,if_pos rfl,hLm.out,List.eraseIdx_of_length_le (by rw [List.length_map,List.length_take];exact Nat.min_le_left _ _)])
    have hpj1:=hide (Nat.le_succ_of_le hpj.out)
    clear T0 hP d0
    go_wp2_with fail
    go_roundw
    case rel=>exact⟨m+1,p,A',c',L',by omega,by go_num,rfl,hLl,hpj1,T1,hO,hb⟩
    case measure=>simp [intOf];omega
   ·have hne:¬ (j:Int)=(m:Int):=by omega
    have hbn:((j:Int) != (m:Int))=true:=by simpa using hne
    have T1:=hide (show ((L.take (j+1)).map FrL.b).eraseIdx m=((L.take j).map FrL.b).eraseIdx m++ [x.b] by rw [T0.out,if_neg hjm])
    have hp6:p≤1000000:=by have:=hpj.out;omega
    clear T0 hjm hne
    go_wp2_with fail
    refine hP.out.mono ?_
    rintro e w2 ⟨A2,c2,rfl,hown,hb2⟩
    have hb02:=fresh hb hb2
    have HO2:=hide (hO.out.below hb2)
    have Hown:=hide hown
    clear d0 hown hO
    go_wp2_with (at_builtin;refine wpList_append_fr _ rfl (.tmp 16) (.tmp 22) rfl w.heap.size A' c' p L' hLl.out rfl (HO2.out.below (fboxF _ _)) ⟨A2,c2,x.b⟩ (fr_less (own_below Hown.out (fboxF _ _) (Nat.le_refl _)) hb.size) (some ⟨w2.heap.size,0,none⟩) rfl (fr_row w2 ⟨A2,c2,x.b⟩) (by omega) (Nat.le_trans hb02.size (fboxF w2 _).size) ?_;intro A3 c3 w3 hO3 hb3)
    go_roundw
    case rel=>
     refine⟨j+1,p+1,A3,c3,L'++ [⟨A2,c2,x.b⟩],by omega,by go_num,rfl,hide ?_,hide ?_,hide ?_,hide hO3,(fresh hb02 (fboxF w2 _)).trans hb3⟩
     ·rw [List.length_append,hLl.out];rfl
     ·have:=hpj.out;omega
     ·rw [T1.out,List.map_append,hLm.out];rfl
    case measure=>simp [intOf];omega
  ·have z0:¬ (j:Int) < n:=by omega
   obtain rfl:j=n:=by omega
   rw [List.take_of_length_le (by rw [Hn.out];omega)] at hLm
   have hl9:=hLl.out
   subst hl9
   go_wp2_with fail
   go_ret
   exact⟨A',c',L',rfl,hLm.out,hO.out,hb⟩
theorem rpull (A:Option Addr) (n c:Nat) (m:Int) (L:List FrL) (w:World) (hr:RF w w.heap.size A L) (hn:L.length=n) (hn9:n≤1000000):
 Calls Tryz.prog 10 #[.slice A n c,.int .i64 m] w fun e w'=>∃ (B:Option Addr) (d:Nat) (A':Option Addr) (c':Nat) (L':List FrL),e= .returned (.tuple #[.slice B (pullV L m).1.length d,.slice A' (List.length (α:=FrL) L') c',.int .i64 (atE L m)])∧w'.ownsRow w.heap.size 5 1 (.slice B (pullV L m).1.length d) (pullV L m).1.length (u8s (pullV L m).1)∧L'.map FrL.b=(pullV L m).2∧OF w' w.heap.size A' c' L'∧Below w.heap.size w w':=by
 have P:=hide (rasked A n c m L w hr hn hn9)
 by_cases hE:atE L m=0
 ·obtain⟨hok,h0,h1⟩:=atE_ok hE
  obtain⟨k,rfl⟩:=Int.eq_ofNat_of_zero_le h0
  have hkn:k < n:=by omega
  have hkL:k < L.length:=by omega
  have hV:=hide (show pullV L (k:Int)=(L[k].b,(L.map FrL.b).eraseIdx k) by
   unfold pullV
   rw [if_pos hE,Int.toNat_natCast,List.getElem?_map,List.getElem?_eq_getElem hkL]
   rfl)
  rw [hE] at P ⊢
  rw [hV.out]
  obtain⟨bb,bo,rfl,hB,hC⟩:=RF.cell hr (by omega)
  have d0:=hC k hkL
  obtain⟨x,hx⟩:∃ x,L[k]=x:=⟨_,rfl⟩
  rw [hx] at d0 ⊢
  have hxm:x∈L:=by rw [←hx];exact List.getElem_mem hkL
  have hP:=hide (rown x.A x.b.length x.c x.b w (hr.2 x hxm) rfl (by have:=hok.2 x hxm;omega))
  have HW:=hide (fun (w2:World) (hb:Below w.heap.size w w2)=>rwithout (some ⟨bb,bo,none⟩) n c k L w2 ((hr.below hb).more hb.size) hn hn9 (fun y hy=>by have:=hok.2 y hy;omega))
  have z0:(k:Int) < n:=by omega
  have zk:(0:Int)≤k:=by omega
  clear hr hn hC hx hxm hok h0 h1 hE hV
  go_enter Tryz.func10,Tryz.ntmps10
  go_wp2_with fail
  refine P.out.mono ?_
  rintro e w2 ⟨rfl,rfl⟩
  go_wp2_with fail
  refine hP.out.mono ?_
  rintro e w3 ⟨A3,c3,rfl,hown,hb3⟩
  have Hown:=hide hown
  have HB3:=hide hb3
  clear hown hb3 d0
  go_wp2_with fail
  refine (unhide HW w3 HB3.out).mono ?_
  rintro e w4 ⟨A4,c4,L4,rfl,hL4,hO4,hb4⟩
  have H4:=hide (And.intro hL4 (And.intro hO4 hb4))
  obtain⟨l4,hl4⟩:∃ q,q=L4.length:=⟨_,rfl⟩
  rw [←hl4]
  have Hl4:=hide hl4
  obtain⟨xb,hxb⟩:∃ q,q=x.b.length:=⟨_,rfl⟩
  rw [←hxb] at Hown ⊢
  have Hxb:=hide hxb
  clear hL4 hO4 hb4 hl4 hxb
  go_wp2_with fail
  refine bodyPost_ret (v:= .tuple #[.slice A3 xb c3,.slice A4 l4 c4,.int .i64 0]) (by simp [results,Tryz.results10,go_sem]) rfl ?_
  have hxb9:=Hxb.out
  subst hxb9
  exact⟨A3,c3,A4,c4,L4,by rw [Hl4.out],own_below Hown.out H4.out.2.2 (Nat.le_refl _),H4.out.1,H4.out.2.1.less HB3.out.size,fresh HB3.out H4.out.2.2⟩
 ·have hV:=hide (show pullV L m=([], []) from if_neg hE)
  have hE2:=hide (show atE L m=8∨atE L m=2 by
   unfold atE at hE ⊢
   split
   ·exact .inl rfl
   ·split
    ·exact .inr rfl
    ·rename_i h1 h2
     rw [if_neg h1,if_neg h2] at hE
     exact (hE rfl).elim)
  obtain⟨q,hq⟩:∃ q,atE L m=q:=⟨_,rfl⟩
  rw [hq] at P hE2 ⊢
  rw [hV.out]
  clear hE hq hr
  rcases hE2.out with rfl | rfl
  all_goals
   clear hE2
   go_enter Tryz.func10,Tryz.ntmps10
   go_wp2_with fail
   refine P.out.mono ?_
   rintro e w2 ⟨rfl,rfl⟩
   go_wp2_with fail
   first
    | (refine bodyPost_ret (v:= .tuple #[.slice none 0 0,.slice none 0 0,.int .i64 8]) (by simp [results,Tryz.results10,go_sem]) rfl ?_
       exact⟨none,0,none,0, [],rfl,World.ownsRow_nil _ _ _ _,rfl,OF.nil _ _,Below.refl _ _⟩)
    | (refine bodyPost_ret (v:= .tuple #[.slice none 0 0,.slice none 0 0,.int .i64 2]) (by simp [results,Tryz.results10,go_sem]) rfl ?_
       exact⟨none,0,none,0, [],rfl,World.ownsRow_nil _ _ _ _,rfl,OF.nil _ _,Below.refl _ _⟩)
theorem rdouble (A:Option Addr) (n c:Nat) (m:Int) (L:List FrL) (w:World) (hr:RF w w.heap.size A L) (hn:L.length=n) (hn9:n≤1000000):
 Calls Tryz.prog 12 #[.slice A n c,.int .i64 m] w fun e w'=>∃ (A':Option Addr) (c':Nat) (L':List FrL),e= .returned (.tuple #[.slice A' (List.length (α:=FrL) L') c',.int .i64 (doubE L m)])∧L'.map FrL.b=doubV L m∧OF w' w.heap.size A' c' L'∧Below w.heap.size w w':=by
 have P:=hide (rasked A n c m L w hr hn hn9)
 by_cases hE:atE L m=0
 ·obtain⟨hok,h0,h1⟩:=atE_ok hE
  obtain⟨k,rfl⟩:=Int.eq_ofNat_of_zero_le h0
  have hkn:k < n:=by omega
  have hkL:k < L.length:=by omega
  obtain⟨x,hx⟩:∃ x,L[k]=x:=⟨_,rfl⟩
  have hxm:x∈L:=by rw [←hx];exact List.getElem_mem hkL
  have hxl:=hok.2 x hxm
  have hpE:=hide (show pushE L x.b=doubE L (k:Int) by
   unfold pushE doubE
   rw [if_pos hE,if_neg (fun h=>h hok),if_neg (by omega)])
  have hpV:=hide (show pushL L x.b=doubV L (k:Int) by
   unfold pushL doubV
   rw [hpE.out,Int.toNat_natCast,List.getElem?_map,List.getElem?_eq_getElem hkL,hx]
   rfl)
  rw [hE] at P
  obtain⟨bb,bo,rfl,hB,hC⟩:=RF.cell hr (by omega)
  have d0:=hC k hkL
  rw [hx] at d0
  have hP:=hide (rpush (some ⟨bb,bo,none⟩) x.A n c x.b.length x.c L x.b w hr hn hn9 (hr.2 x hxm) rfl)
  have z0:(k:Int) < n:=by omega
  have zk:(0:Int)≤k:=by omega
  clear hr hn hC hx hxm hok h0 h1 hE hxl
  go_enter Tryz.func12,Tryz.ntmps12
  go_wp2_with fail
  refine P.out.mono ?_
  rintro e w2 ⟨rfl,rfl⟩
  go_wp2_with fail
  refine hP.out.mono ?_
  rintro e w3 ⟨A3,c3,L3,rfl,hL3,hO3,hb3⟩
  have H3:=hide (And.intro hL3 (And.intro hO3 hb3))
  obtain⟨l3,hl3⟩:∃ q,q=L3.length:=⟨_,rfl⟩
  rw [←hl3]
  have Hl3:=hide hl3
  obtain⟨q,hq⟩:∃ q,q=pushE L x.b:=⟨_,rfl⟩
  rw [←hq]
  have Hq:=hide hq
  clear hL3 hO3 hb3 hl3 hq d0
  go_wp2_with fail
  refine bodyPost_ret (v:= .tuple #[.slice A3 l3 c3,.int .i64 q]) (by simp [results,Tryz.results12,go_sem]) rfl ?_
  exact⟨A3,c3,L3,by rw [Hl3.out,←hpE.out,Hq.out],by rw [←hpV.out];exact H3.out.1,H3.out.2.1,H3.out.2.2⟩
 ·have hE1:=hide (show doubE L m=atE L m from if_neg hE)
  have hV:=hide (show doubV L m= [] by unfold doubV;rw [hE1.out,if_neg hE])
  have hE2:=hide (show atE L m=8∨atE L m=2 by
   unfold atE at hE ⊢
   split
   ·exact .inl rfl
   ·split
    ·exact .inr rfl
    ·rename_i h1 h2
     rw [if_neg h1,if_neg h2] at hE
     exact (hE rfl).elim)
  rw [hE1.out]
  obtain⟨q,hq⟩:∃ q,atE L m=q:=⟨_,rfl⟩
  rw [hq] at P hE2 ⊢
  rw [hV.out]
  clear hE hq hr hE1
  rcases hE2.out with rfl | rfl
  all_goals
   clear hE2
   go_enter Tryz.func12,Tryz.ntmps12
   go_wp2_with fail
   refine P.out.mono ?_
   rintro e w2 ⟨rfl,rfl⟩
   go_wp2_with fail
   first
    | (refine bodyPost_ret (v:= .tuple #[.slice none 0 0,.int .i64 8]) (by simp [results,Tryz.results12,go_sem]) rfl ?_
       exact⟨none,0, [],rfl,rfl,OF.nil _ _,Below.refl _ _⟩)
    | (refine bodyPost_ret (v:= .tuple #[.slice none 0 0,.int .i64 2]) (by simp [results,Tryz.results12,go_sem]) rfl ?_
       exact⟨none,0, [],rfl,rfl,OF.nil _ _,Below.refl _ _⟩)
/-- Bytes in memory of one's own. -/
def ByR (w:World) (base:Nat) (v:Value) (l:List UInt8):Prop:=∃ A c,v= .slice A l.length c∧w.ownsRow base 5 1 v l.length (u8s l)
theorem ByR.row {w:World} {base:Nat} {v:Value} {l:List UInt8} (h:ByR w base v l):w.ownsRow base 5 1 v l.length (u8s l):=by
 obtain⟨A,c,-,h⟩:=h
 exact h
theorem ByR.of {w:World} {base:Nat} {v:Value} {l:List UInt8} (h:w.ownsRow base 5 1 v l.length (u8s l)):ByR w base v l:=by
 have h':=h
 obtain⟨A,c,e,-,-,-⟩:=own_slice h'
 exact⟨A,c,e,h⟩
theorem ByR.nil (w:World) (base:Nat):ByR w base (.slice none 0 0) []:=⟨none,0,rfl,World.ownsRow_nil _ _ _ _⟩
theorem ByR.below {w w':World} {base:Nat} {v:Value} {l:List UInt8} (h:ByR w base v l) (hb:Below w.heap.size w w'):ByR w' base v l:=by
 obtain⟨A,c,e,h⟩:=h
 exact⟨A,c,e,own_below h hb (Nat.le_refl _)⟩
theorem ByR.less {w:World} {base base':Nat} {v:Value} {l:List UInt8} (h:ByR w base v l) (hb:base'≤base):ByR w base' v l:=by
 obtain⟨A,c,e,h⟩:=h
 exact⟨A,c,e,own_base h hb⟩
theorem keepB {w w':World} {B b off:Nat} {v:Value} (hb:Below B w w') (hB:b < B) (h:w.cell? ⟨b,off,none⟩=some v):w'.cell? ⟨b,off,none⟩=some v:=(hb.cell (p:=⟨b,off,none⟩) hB).trans h
/-- What a call that lays bytes behind bytes answers. -/
def Lays (base:Nat) (w:World) (l:List UInt8) (e:Ending) (w':World):Prop:=∃ v,e= .returned v∧ByR w' base v l∧Below base w w'∧Kept w w'
theorem Lays.mk {base:Nat} {w w':World} {l:List UInt8} {v:Value} (hr:ByR w' base v l) (hb:Below base w w') (hk:Kept w w'):Lays base w l (.returned v) w':=by
 unfold Lays
 exact⟨v,rfl,hr,hb,hk⟩
/-- What holds in the middle of such a region: the bytes are taken at place i0; the first call has place i1 and slot s1, the second one i2 and s2; place i3 lays what it answers into slot s3. -/
structure CH (w0:World) (base:Nat) (L:List (Option (Nat×Value))) (i0 i1 s1 i2 s2 i3 s3:Nat) (v0 u0:Value) (l0 l1 l2:List UInt8) (done:Nat→Bool) (ρ:Nat→Value) (w:World):Prop where
 b:Below base w0 w
 k:Kept w0 w
 l:∀ i s v,(L[i]?).join=some (s,v)→done i=true→ρ s=v
 c0:done i1=false→ByR w base v0 l0
 c1:done i1=true→done i2=false→ByR w base (ρ s1) l1
 c2:done i2=true→ByR w base (ρ s2) l2
 c3:done i3=true→ByR w base (ρ s3) l2
 s:done i3=false→ρ s3=u0
 z0:done i1=true→done i0=true
 z:done i2=true→done i1=true
 z3:done i3=true→done i2=true
/-- The slots are each written once. -/
structure CB (S:List (Option Nat)) (i0 i1 s1 i2 s2 i3 s3:Nat):Prop where
 o:oncesB S=true
 a1:∀ o∈S,o≠some s1
 a2:∀ o∈S,o≠some s2
 a3:∀ o∈S,o≠some s3
 n:s1≠s2∧s1≠s3∧s2≠s3∧i1≠i2∧i1≠i3∧i2≠i3∧i0≠i1∧i0≠i2∧i0≠i3
 j1:(S[i1]?).join=none
 j2:(S[i2]?).join=none
 j3:(S[i3]?).join=none
section
variable {w0:World} {base:Nat} {L:List (Option (Nat×Value))} {i0 i1 s1 i2 s2 i3 s3:Nat} {v0 u0:Value} {l0 l1 l2:List UInt8} {done:Nat→Bool} {ρ:Nat→Value} {w:World}
theorem CH.start (hb:Below base w0 w) (hk:Kept w0 w) (h:ByR w base v0 l0) (hs:ρ s3=u0):CH w0 base L i0 i1 s1 i2 s2 i3 s3 v0 u0 l0 l1 l2 (fun _=>false) ρ w:=
 ⟨hb,hk,fun _ _ _ _ h=>(by cases h),fun _=>h,fun h=>(by cases h),fun h=>(by cases h),fun h=>(by cases h),fun _=>hs,fun h=>(by cases h),fun h=>(by cases h),fun h=>(by cases h)⟩
theorem CH.get (h:CH w0 base L i0 i1 s1 i2 s2 i3 s3 v0 u0 l0 l1 l2 done ρ w) (i s:Nat) (v:Value) (hi:(L[i]?).join=some (s,v)) (hd:done i=true):ρ s=v:=h.l i s v hi hd
theorem CH.first (h:CH w0 base L i0 i1 s1 i2 s2 i3 s3 v0 u0 l0 l1 l2 done ρ w) (hn:done i0=false):ρ s3=u0:=by
 refine h.s ?_
 cases h3:done i3 with
 | false=>rfl
 | true=>rw [h.z0 (h.z (h.z3 h3))] at hn;cases hn
theorem ch_slot (S:List (Option Nat)) (hS:L.map (Option.map Prod.fst)=S) {k s:Nat} {u:Value} (hk:(L[k]?).join=some (s,u)):(S[k]?).join=some s∧k < S.length∧some s∈S:=by
 rw [←hS,List.getElem?_map,List.length_map]
 cases hx:L[k]? with
 | none=>rw [hx] at hk;cases hk
 | some o=>
   rw [hx] at hk
   have ho:o=some (s,u):=by simpa [Option.join] using hk
   subst ho
   exact⟨rfl,(List.getElem?_eq_some_iff.1 hx).1,List.mem_map.2 ⟨_,List.mem_of_getElem? hx,rfl⟩⟩
theorem updO {i j:Nat} (h:j≠i):upd done i j=done j:=by simp [upd,h]
theorem CH.plain (h:CH w0 base L i0 i1 s1 i2 s2 i3 s3 v0 u0 l0 l1 l2 done ρ w) (S:List (Option Nat)) (hS:L.map (Option.map Prod.fst)=S) (hB:CB S i0 i1 s1 i2 s2 i3 s3) (i d:Nat) (v:Value) (hi:(L[i]?).join=some (d,v)):
 CH w0 base L i0 i1 s1 i2 s2 i3 s3 v0 u0 l0 l1 l2 (upd done i) (putS ρ (some d) v) w:=by
 obtain⟨hO,a1,a2,a3,-,j1,j2,j3⟩:=hB
 obtain⟨e1,e2,e3⟩:=ch_slot S hS hi
 have d1:s1≠d:=fun e=>a1 _ e3 (by rw [e])
 have d2:s2≠d:=fun e=>a2 _ e3 (by rw [e])
 have d3:s3≠d:=fun e=>a3 _ e3 (by rw [e])
 have u1:upd done i i1=done i1:=updO fun e=>by rw [e,e1] at j1;cases j1
 have u2:upd done i i2=done i2:=updO fun e=>by rw [e,e1] at j2;cases j2
 have u3:upd done i i3=done i3:=updO fun e=>by rw [e,e1] at j3;cases j3
 have LIh:LI L (fun _=>True) done ρ w:=⟨trivial,h.l⟩
 refine⟨h.b,h.k,(LI.put (w':=w) LIh S hS hO i d v hi trivial).2,?_,?_,?_,?_,?_,?_,?_,?_⟩
 ·rw [u1];exact h.c0
 ·rw [u1,u2];simp only [putS,d1,if_false];exact h.c1
 ·rw [u2];simp only [putS,d2,if_false];exact h.c2
 ·rw [u3];simp only [putS,d3,if_false];exact h.c3
 ·rw [u3];simp only [putS,d3,if_false];exact h.s
 ·rw [u1];exact fun k=>by have:=h.z0 k;simp [upd,this]
 ·rw [u1,u2];exact h.z
 ·rw [u3,u2];exact h.z3
theorem ch_keep (h:CH w0 base L i0 i1 s1 i2 s2 i3 s3 v0 u0 l0 l1 l2 done ρ w) (S:List (Option Nat)) (hS:L.map (Option.map Prod.fst)=S) {i d:Nat} {v:Value} (hi:(S[i]?).join=none) (hd:∀ o∈S,o≠some d):∀ j s u,(L[j]?).join=some (s,u)→upd done i j=true→putS ρ (some d) v s=u:=by
 intro j s u hj hdn
 obtain⟨e1,-,e3⟩:=ch_slot S hS hj
 have hij:j≠i:=fun e=>by rw [←e,e1] at hi;cases hi
 have hsd:s≠d:=fun e=>hd _ e3 (by rw [e])
 simp only [putS,hsd,if_false]
 refine h.l j s u hj ?_
 simpa [upd,hij] using hdn
theorem CH.call1 (h:CH w0 base L i0 i1 s1 i2 s2 i3 s3 v0 u0 l0 l1 l2 done ρ w) (S:List (Option Nat)) (hS:L.map (Option.map Prod.fst)=S) (hB:CB S i0 i1 s1 i2 s2 i3 s3) (hn:done i1=false) (h0:done i0=true) {v:Value} {w':World} (hr:ByR w' base v l1) (hb:Below base w w') (hk:Kept w w'):
 CH w0 base L i0 i1 s1 i2 s2 i3 s3 v0 u0 l0 l1 l2 (upd done i1) (putS ρ (some s1) v) w':=by
 obtain⟨hO,a1,a2,a3,⟨-,n13,-,i12,i13,-,i01,-,-⟩,j1,j2,j3⟩:=hB
 have n2:done i2=false:=by
  cases hx:done i2 with
  | false=>rfl
  | true=>rw [h.z hx] at hn;cases hn
 have n3:done i3=false:=by
  cases hx:done i3 with
  | false=>rfl
  | true=>rw [h.z3 hx] at n2;cases n2
 have u1:upd done i1 i1=true:=by simp [upd]
 have u2:upd done i1 i2=false:=by rw [updO i12.symm];exact n2
 have u3:upd done i1 i3=false:=by rw [updO i13.symm];exact n3
 refine⟨h.b.trans hb,h.k.trans hk,ch_keep h S hS j1 a1,?_,?_,?_,?_,?_,?_,?_,?_⟩
 ·rw [u1];exact fun e=>by cases e
 ·exact fun _ _=>by simpa [putS] using hr
 ·rw [u2];exact fun e=>by cases e
 ·rw [u3];exact fun e=>by cases e
 ·exact fun _=>by simp only [putS,n13.symm,if_false];exact h.s n3
 ·exact fun _=>by simp [upd,h0]
 ·rw [u2];exact fun e=>by cases e
 ·rw [u3];exact fun e=>by cases e
theorem CH.call2 (h:CH w0 base L i0 i1 s1 i2 s2 i3 s3 v0 u0 l0 l1 l2 done ρ w) (S:List (Option Nat)) (hS:L.map (Option.map Prod.fst)=S) (hB:CB S i0 i1 s1 i2 s2 i3 s3) (hn:done i2=false) (h1:done i1=true) {v:Value} {w':World} (hr:ByR w' base v l2) (hb:Below base w w') (hk:Kept w w'):
 CH w0 base L i0 i1 s1 i2 s2 i3 s3 v0 u0 l0 l1 l2 (upd done i2) (putS ρ (some s2) v) w':=by
 obtain⟨hO,a1,a2,a3,⟨n12,-,n23,i12,-,i23,-,i02,-⟩,j1,j2,j3⟩:=hB
 have n3:done i3=false:=by
  cases hx:done i3 with
  | false=>rfl
  | true=>rw [h.z3 hx] at hn;cases hn
 have u1:upd done i2 i1=true:=by simp [upd,h1]
 have u2:upd done i2 i2=true:=by simp [upd]
 have u3:upd done i2 i3=false:=by rw [updO i23.symm];exact n3
 refine⟨h.b.trans hb,h.k.trans hk,ch_keep h S hS j2 a2,?_,?_,?_,?_,?_,?_,?_,?_⟩
 ·rw [u1];exact fun e=>by cases e
 ·rw [u2];exact fun _ e=>by cases e
 ·exact fun _=>by simpa [putS] using hr
 ·rw [u3];exact fun e=>by cases e
 ·exact fun _=>by simp only [putS,n23.symm,if_false];exact h.s n3
 ·exact fun _=>by simp [upd,h.z0 h1]
 ·exact fun _=>u1
 ·rw [u3];exact fun e=>by cases e
theorem CH.lay (h:CH w0 base L i0 i1 s1 i2 s2 i3 s3 v0 u0 l0 l1 l2 done ρ w) (S:List (Option Nat)) (hS:L.map (Option.map Prod.fst)=S) (hB:CB S i0 i1 s1 i2 s2 i3 s3) (h2:done i2=true) {v:Value} (hv:v=ρ s2):
 CH w0 base L i0 i1 s1 i2 s2 i3 s3 v0 u0 l0 l1 l2 (upd done i3) (putS ρ (some s3) v) w:=by
 obtain⟨hO,a1,a2,a3,⟨n12,n13,n23,i12,i13,i23,-,-,i03⟩,j1,j2,j3⟩:=hB
 have u1:upd done i3 i1=true:=by simp [upd,h.z h2]
 have u2:upd done i3 i2=true:=by simp [upd,h2]
 have u3:upd done i3 i3=true:=by simp [upd]
 refine⟨h.b,h.k,ch_keep h S hS j3 a3,?_,?_,?_,?_,?_,?_,?_,?_⟩
 ·rw [u1];exact fun e=>by cases e
 ·rw [u2];exact fun _ e=>by cases e
 ·exact fun _=>by simp only [putS,n23,if_false];exact h.c2 h2
 ·exact fun _=>by rw [hv];simpa [putS] using h.c2 h2
 ·rw [u3];exact fun e=>by cases e
 ·exact fun _=>by simp [upd,h.z0 (h.z h2)]
 ·exact fun _=>u1
 ·exact fun _=>u2
end
end Go.Proofs.YtmkpfdcnikgokaaGreat
