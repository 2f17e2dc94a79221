/-
  Texts of this claim, put together: LinkAt, LinkDelete, Float. What each theorem asks stands in its statement.
-/
import Derived.Shelf.RegionOpenPlain
import Derived.WalkKit
import Derived.Deep.LoopGhost
import Derived.Deep.RegionLaw
import Derived.Lib.Walk
import Derived.Lib.SliceRun
import Derived.Laws.ComplexArith
import Derived.Test.YtmkpfdcnikgokaaGreatLt3
set_option linter.unusedVariables false
set_option linter.unusedSimpArgs false
set_option maxRecDepth 100000
set_option maxHeartbeats 25600000
namespace Go.Proofs.YtmkpfdcnikgokaaGreat
open Go.RowKit
/-- The error of a thing done at a place. -/
def atE (L:List FrL) (m:Int):Int:=if ¬ okF L then 8 else if m < 0∨(L.length:Int)≤m then 2 else 0
theorem atE_ok {L:List FrL} {m:Int} (h:atE L m=0):okF L∧0≤m∧m < L.length:=by
 unfold atE at h
 split at h
 ·cases h
 ·rename_i h1
  split at h
  ·cases h
  ·rename_i h2
   exact⟨Decidable.not_not.1 h1,by omega,by omega⟩
/-- A place that isn't one. -/
theorem at_not (A:Option Addr) (n c:Nat) (m:Int) (F:Value) (L:List FrL) (w:World) (hr:RF w w.heap.size A L) (hn:L.length=n) (hE:atE L m≠0):
 Calls Tryz.prog 35 #[.slice A n c,.int .i64 m,F] w fun e w'=>e= .returned (.tuple #[.slice none 0 0,.int .i64 (atE L m)])∧w'=w:=by
 have hP:=hide (lcheck A n c L w hr hn)
 by_cases hok:okF L
 ·rw [show chkF L=0 from if_pos hok] at hP
  have hm:m < 0∨(L.length:Int)≤m:=by
   unfold atE at hE
   rw [if_neg (fun h=>h hok)] at hE
   by_cases h:m < 0∨(L.length:Int)≤m
   ·exact h
   ·rw [if_neg h] at hE
    exact (hE rfl).elim
  have HE:=hide (show atE L m=2 by unfold atE;rw [if_neg (fun h=>h hok),if_pos hm])
  rw [hn] at hm
  clear hr hn hE hok
  by_cases h0:m < 0
  ·go_enter Tryz.func35,Tryz.ntmps35
   go_wp2_with fail
   refine hP.out.mono ?_
   rintro e w2 ⟨rfl,rfl⟩
   go_wp2_with fail
   refine bodyPost_ret (v:= .tuple #[.slice none 0 0,.int .i64 2]) (by simp [results,Tryz.results35,go_sem]) rfl ⟨by rw [HE.out],rfl⟩
  ·have h1:(n:Int)≤m:=by omega
   go_enter Tryz.func35,Tryz.ntmps35
   go_wp2_with fail
   refine hP.out.mono ?_
   rintro e w2 ⟨rfl,rfl⟩
   go_wp2_with fail
   refine bodyPost_ret (v:= .tuple #[.slice none 0 0,.int .i64 2]) (by simp [results,Tryz.results35,go_sem]) rfl ⟨by rw [HE.out],rfl⟩
 ·rw [show chkF L=8 from if_neg hok] at hP
  have HE:=hide (show atE L m=8 from if_pos hok)
  clear hr hn hE hok
  go_enter Tryz.func35,Tryz.ntmps35
  go_wp2_with fail
  refine hP.out.mono ?_
  rintro e w2 ⟨rfl,rfl⟩
  go_wp2_with fail
  refine bodyPost_ret (v:= .tuple #[.slice none 0 0,.int .i64 8]) (by simp [results,Tryz.results35,go_sem]) rfl ⟨by rw [HE.out],rfl⟩
theorem at_pull (A:Option Addr) (n c m gi gb B:Nat) (v0:Value) (L:List FrL) (w:World) (hr:RF w w.heap.size A L) (hn:L.length=n) (hok:okF L) (hm:m < n) (hI:IBX w gi (m:Int)) (hBB:BBX w gb v0) (hne:gi≠gb) (hBg:B≤gb) (hBw:B≤w.heap.size):
 Calls Tryz.prog 35 #[.slice A n c,.int .i64 (m:Int),.func (.func 36) #[] #[.pointer (some ⟨gi,0,none⟩),.pointer (some ⟨gb,0,none⟩)]] w fun e w'=>∃ (A':Option Addr) (c':Nat) (Q:List FrL) (x:FrL),e= .returned (.tuple #[.slice A' (n - 1) c',.int .i64 0])∧Q.length=n - 1∧Q.map FrL.b=(L.map FrL.b).eraseIdx m∧(L.map FrL.b)[m]?=some x.b∧OF w' w.heap.size A' c' Q∧BBX w' gb (.slice x.A x.b.length x.c)∧w'.ownsRow w.heap.size 5 1 (.slice x.A x.b.length x.c) x.b.length (u8s x.b)∧Below B w w':=by
 have hP:=hide (lcheck A n c L w hr hn)
 rw [show chkF L=0 from if_pos hok] at hP
 have hT:=hide (ltwin A n c L w hr hn hok)
 have hn9:n≤64:=by rw [←hn];exact hok.1
 have hgi:gi < w.heap.size:=(Array.getElem?_eq_some_iff.1 hI).1
 have hgb:gb < w.heap.size:=(Array.getElem?_eq_some_iff.1 hBB).1
 have HI:=hide hI
 have HB:=hide hBB
 have Hn:=hide hn
 have z0:¬ (m:Int) < 0:=by omega
 have z1:¬ (n:Int)≤m:=by omega
 clear hr hn hok hI hBB
 go_enter Tryz.func35,Tryz.ntmps35
 go_wp2_with fail
 refine hP.out.mono ?_
 rintro e w2 ⟨rfl,rfl⟩
 go_wp2_with fail
 refine hT.out.mono ?_
 rintro e w3 ⟨A3,c3,L3,rfl,hL3,hO3,hb3⟩
 have hl3:L3.length=n:=by rw [←Hn.out,←List.length_map FrL.b,hL3,List.length_map]
 obtain⟨A9,c9,e9,h9,-,hA⟩:=own_slice hO3.1
 simp only [Value.slice.injEq] at e9
 obtain⟨rfl,-,rfl⟩:=e9
 rcases hA with hA | ⟨g,rfl,hg1,hg2⟩
 ·omega
 have hx:∃ x,L3[m]?=some x:=⟨_,List.getElem?_eq_getElem (by omega)⟩
 obtain⟨x,hx⟩:=hx
 have hxb:(L.map FrL.b)[m]?=some x.b:=by rw [←hL3,List.getElem?_map,hx];rfl
 have P1:=hide (pull1_ok g c3 n m gi gb w2.heap.size B L3 x v0 w3 hO3 hl3 hm hn9 (by omega) hx (HI.out.below hb3) (HB.out.below hb3) hgi hgb hne hBg hBw)
 have HH:=hide (And.intro hL3 (And.intro hl3 hxb))
 clear hL3 hl3 hO3 hx hxb h9 hT hP
 go_wp2_with fail
 refine P1.out.mono ?_
 rintro e w4 ⟨rfl,hO4,hB4,ho4,hb4⟩
 have H4:=hide (And.intro hO4 (And.intro hB4 ho4))
 have hb04:Below B w2 w4:=(hb3.mono hBw).trans hb4
 clear hO4 hB4 ho4 P1
 go_wp2_with fail
 refine bodyPost_ret (v:= .tuple #[.slice (some ⟨g,0,none⟩) (n - 1) c3,.int .i64 0]) (by simp [results,Tryz.results35,go_sem]) rfl ?_
 refine⟨some ⟨g,0,none⟩,c3,L3.eraseIdx m,x,rfl,?_,?_,HH.out.2.2,H4.out.1,H4.out.2.1,H4.out.2.2,hb04⟩
 ·rw [List.length_eraseIdx,if_pos (by rw [HH.out.2.1];exact hm),HH.out.2.1]
 ·rw [←HH.out.1]
  rw [List.eraseIdx_eq_take_drop_succ,List.eraseIdx_eq_take_drop_succ,List.map_append,List.map_take,List.map_drop]
/-- What Pull answers. -/
def pullV (L:List FrL) (m:Int):List UInt8×List (List UInt8):=if atE L m=0 then (((L.map FrL.b)[m.toNat]?).getD [],(L.map FrL.b).eraseIdx m.toNat) else ([], [])
theorem lpull (A:Option Addr) (n c:Nat) (m:Int) (L:List FrL) (w:World) (hr:RF w w.heap.size A L) (hn:L.length=n):
 Calls Tryz.prog 9 #[.slice A n c,.int .i64 m] w fun e w'=>∃ (A':Option Addr) (c':Nat) (Q:List FrL) (x:FrL),e= .returned (.tuple #[.slice x.A (List.length (α:=UInt8) x.b) x.c,.slice A' (List.length (α:=FrL) Q) c',.int .i64 (atE L m)])∧x.b=(pullV L m).1∧Q.map FrL.b=(pullV L m).2∧w'.ownsRow w.heap.size 5 1 (.slice x.A x.b.length x.c) x.b.length (u8s x.b)∧OF w' w.heap.size A' c' Q∧Below w.heap.size w w':=by
 obtain⟨w1,hw1⟩:∃ w1,w.alloc (.cells #[.int .i64 m] 3)=w1:=⟨_,rfl⟩
 have I1:IBX w1 w.heap.size m:=by rw [←hw1];exact heap_alloc_new _ _
 have hb1:Below w.heap.size w w1:=by rw [←hw1];exact fboxF _ _
 have hs1:w1.heap.size=w.heap.size+1:=by rw [←hw1];simp
 obtain⟨w2,hw2⟩:∃ w2,w1.alloc (.cells #[.slice none 0 0] 23)=w2:=⟨_,rfl⟩
 have B2:BBX w2 w1.heap.size (.slice none 0 0):=by rw [←hw2];exact heap_alloc_new _ _
 have hb2':Below w1.heap.size w1 w2:=by rw [←hw2];exact fboxF _ _
 have hb2:=fresh hb1 hb2'
 have I2:IBX w2 w.heap.size m:=I1.below hb2'
 rw [hs1] at B2
 have hr2:RF w2 w2.heap.size A L:=(hr.below hb2).more hb2.size
 have i0:=I2.cell
 by_cases hE:atE L m=0
 ·obtain⟨hok,h0,h1⟩:=atE_ok hE
  obtain⟨mm,rfl⟩:∃ mm:Nat,m=mm:=⟨m.toNat,by omega⟩
  have hP:=hide (at_pull A n c mm w.heap.size (w.heap.size+1) w.heap.size (.slice none 0 0) L w2 hr2 hn hok (by omega) I2 B2 (by omega) (by omega) hb2.size)
  have HV:=hide (show pullV L mm=(((L.map FrL.b)[mm]?).getD [],(L.map FrL.b).eraseIdx mm) by unfold pullV;rw [if_pos hE,Int.toNat_natCast])
  have HE:=hide hE
  have Hw:=hide (And.intro hw1 (And.intro hw2 hs1))
  clear hr hn hE hok h0 h1 hr2 I1 I2 B2 hw1 hw2
  go_enter Tryz.func9,Tryz.ntmps9
  have hmf:∀ (fn:Fn) (first cap:Array Value) (W:World),(Instr.makeFunc fn first cap).run Tryz.prog W= .ok (.func fn first cap) W:=fun _ _ _ _=>rfl
  go_wp2_with fail
  rw [Hw.out.1,Hw.out.2.1]
  refine hP.out.mono ?_
  rintro e w3 ⟨A3,c3,Q3,x3,rfl,hl3,hQ3,hx3,hO3,hB3,ho3,hb3⟩
  have hb03:=hb2.trans hb3
  have hs2:w.heap.size+1 < w2.heap.size:=by rw [←Hw.out.2.1,World.size_alloc,Hw.out.2.2];omega
  have q0:=hB3.cell
  have q1:=frozen_of_row w3 (w.heap.size+1) 0 _ _ hB3
  obtain⟨w4,hw4⟩:∃ w4,w3.setCell ⟨w.heap.size+1,0,none⟩ (.slice x3.A x3.b.length x3.c)=w4:=⟨_,rfl⟩
  have hB4:BBX w4 (w.heap.size+1) (.slice x3.A x3.b.length x3.c):=by rw [←hw4];exact heap_setCell_same _ _ _ _ _ _ hB3
  have hO4:OF w4 w.heap.size A3 c3 Q3:=by rw [←hw4];exact (hO3.set hs2 0 _).less hb2.size
  have ho4:w4.ownsRow w.heap.size 5 1 (.slice x3.A x3.b.length x3.c) x3.b.length (u8s x3.b):=by rw [←hw4];exact fr_less (fr_set ho3 hs2 0 _) hb2.size
  have hb04:Below w.heap.size w w4:=by rw [←hw4];exact hb03.setCell (by simp only;omega) _
  have q2:=hB4.cell
  have HH:=hide (And.intro hl3 (And.intro hQ3 (And.intro hx3 (And.intro hO4 (And.intro ho4 hb04)))))
  clear hl3 hQ3 hx3 hO3 hB3 ho3 hb3 hB4 hO4 ho4 hb04 hb03 hP i0
  go_wp2_with fail
  try rw [hw4]
  refine bodyPost_ret (v:= .tuple #[.slice x3.A x3.b.length x3.c,.slice A3 (n - 1) c3,.int .i64 0]) (by simp [results,Tryz.results9,go_sem,q2]) rfl ?_
  refine⟨A3,c3,Q3,x3,by rw [HH.out.1,HE.out],?_,?_,HH.out.2.2.2.2.1,HH.out.2.2.2.1,HH.out.2.2.2.2.2⟩
  ·rw [HV.out,HH.out.2.2.1];rfl
  ·rw [HV.out];exact HH.out.2.1
 ·have hP:=hide (fun F=>at_not A n c m F L w2 hr2 hn hE)
  have HV:=hide (show pullV L m=([], []) by unfold pullV;rw [if_neg hE])
  have Hw:=hide (And.intro hw1 (And.intro hw2 hs1))
  have q0:=B2.cell
  have q1:=frozen_of_row w2 (w.heap.size+1) 0 _ _ B2
  obtain⟨w4,hw4⟩:∃ w4,w2.setCell ⟨w.heap.size+1,0,none⟩ (.slice none 0 0)=w4:=⟨_,rfl⟩
  have hB4:BBX w4 (w.heap.size+1) (.slice none 0 0):=by rw [←hw4];exact heap_setCell_same _ _ _ _ _ _ B2
  have q2:=hB4.cell
  have hb04:=hide (show Below w.heap.size w w4 by rw [←hw4];exact hb2.setCell (by simp only;omega) _)
  clear hr hn hE hr2 I1 I2 B2 hw1 hw2 hB4
  go_enter Tryz.func9,Tryz.ntmps9
  have hmf:∀ (fn:Fn) (first cap:Array Value) (W:World),(Instr.makeFunc fn first cap).run Tryz.prog W= .ok (.func fn first cap) W:=fun _ _ _ _=>rfl
  go_wp2_with fail
  rw [Hw.out.1,Hw.out.2.1]
  refine (unhide hP _).mono ?_
  rintro e w3 ⟨rfl,rfl⟩
  go_wp2_with fail
  try rw [hw4]
  refine bodyPost_ret (v:= .tuple #[.slice none 0 0,.slice none 0 0,.int .i64 (atE L m)]) (by simp [results,Tryz.results9,go_sem,q2]) rfl ?_
  exact⟨none,0, [],⟨none,0, []⟩,rfl,by rw [HV.out],by rw [HV.out];rfl,World.ownsRow_nil _ _ _ _,OF.nil _ _,hb04.out⟩
/-- What Double answers. -/
def doubE (L:List FrL) (m:Int):Int:=if atE L m=0 then (if L.length=64 then 9 else 0) else atE L m
def doubV (L:List FrL) (m:Int):List (List UInt8):=if doubE L m=0 then L.map FrL.b++ [((L.map FrL.b)[m.toNat]?).getD []] else []
theorem double1_ok (A:Option Addr) (c n m gi:Nat) (Q:List FrL) (x:FrL) (w:World) (hr:RF w w.heap.size A Q) (hn:Q.length=n) (hx:Q[m]?=some x) (hI:IBX w gi (m:Int)):
 Calls Tryz.prog 39 #[.slice A n c,.pointer (some ⟨gi,0,none⟩)] w fun e w'=>∃ (A':Option Addr) (c':Nat) (Q':List FrL),e= .returned (.tuple #[.slice A' (List.length (α:=FrL) Q') c',.int .i64 (pushE Q x.b)])∧Q'.map FrL.b=pushL Q x.b∧OF w' w.heap.size A' c' Q'∧Below w.heap.size w w':=by
 have hmL:m < Q.length:=(List.getElem?_eq_some_iff.1 hx).1
 have hxm:Q[m]=x:=(List.getElem?_eq_some_iff.1 hx).2
 have z0:(m:Int) < n:=by omega
 have zm:(0:Int)≤m:=by omega
 obtain⟨b0,o0,rfl,hB,hC⟩:=RF.cell hr (by omega)
 have d0:=hC m hmL
 rw [hxm] at d0
 have hP:=hide (lpush (some ⟨b0,o0,none⟩) x.A n c x.b.length x.c Q x.b w hr hn (hr.2 x (by rw [←hxm];exact List.getElem_mem hmL)) rfl)
 have i0:=hI.cell
 clear hr hn hx hI hC hxm
 go_enter Tryz.func39,Tryz.ntmps39
 go_wp2_with fail
 refine hP.out.mono ?_
 rintro e w2 ⟨A2,c2,L2,rfl,hL2,hO2,hb2⟩
 have HH:=hide (And.intro hL2 hO2)
 clear hL2 hO2 i0 d0 hP
 go_wp2_with fail
 refine bodyPost_ret (v:= .tuple #[.slice A2 L2.length c2,.int .i64 (pushE Q x.b)]) (by simp [results,Tryz.results39,go_sem]) rfl ?_
 exact⟨A2,c2,L2,rfl,HH.out.1,HH.out.2,hb2⟩
theorem okF_b {L M:List FrL} (h:L.map FrL.b=M.map FrL.b):okF L↔okF M:=by
 have e:∀ K:List FrL,okF K↔(K.map FrL.b).length≤64∧∀ b∈K.map FrL.b,b.length≤20000:=fun K=>by
  unfold okF
  rw [List.length_map]
  simp only [List.mem_map,forall_exists_index,and_imp,forall_apply_eq_imp_iff₂]
 rw [e L,e M,h]
theorem at_double (A:Option Addr) (n c m gi:Nat) (L:List FrL) (w:World) (hr:RF w w.heap.size A L) (hn:L.length=n) (hok:okF L) (hm:m < n) (hI:IBX w gi (m:Int)):
 Calls Tryz.prog 35 #[.slice A n c,.int .i64 (m:Int),.func (.func 39) #[] #[.pointer (some ⟨gi,0,none⟩)]] w fun e w'=>∃ (A':Option Addr) (c':Nat) (Q:List FrL),e= .returned (.tuple #[.slice A' (List.length (α:=FrL) Q) c',.int .i64 (doubE L m)])∧Q.map FrL.b=doubV L m∧OF w' w.heap.size A' c' Q∧Below w.heap.size w w':=by
 have hP:=hide (lcheck A n c L w hr hn)
 rw [show chkF L=0 from if_pos hok] at hP
 have hT:=hide (ltwin A n c L w hr hn hok)
 have HI:=hide hI
 have Hn:=hide hn
 have hA0:atE L m=0:=by unfold atE;rw [if_neg (fun h=>h hok),if_neg (by omega)]
 have z0:¬ (m:Int) < 0:=by omega
 have z1:¬ (n:Int)≤m:=by omega
 have Hok:=hide (And.intro hok hA0)
 clear hr hn hok hI hA0
 go_enter Tryz.func35,Tryz.ntmps35
 go_wp2_with fail
 refine hP.out.mono ?_
 rintro e w2 ⟨rfl,rfl⟩
 go_wp2_with fail
 refine hT.out.mono ?_
 rintro e w3 ⟨A3,c3,L3,rfl,hL3,hO3,hb3⟩
 have hl3:L3.length=n:=by rw [←Hn.out,←List.length_map FrL.b,hL3,List.length_map]
 obtain⟨x,hx⟩:∃ x,L3[m]?=some x:=⟨_,List.getElem?_eq_getElem (by omega)⟩
 have hxb:(L.map FrL.b)[m]?=some x.b:=by rw [←hL3,List.getElem?_map,hx];rfl
 have hxs:x.b.length≤20000:=((okF_b hL3).2 Hok.out.1).2 x (List.mem_of_getElem? hx)
 have hE:pushE L3 x.b=doubE L m:=by
  unfold pushE doubE
  rw [if_neg (fun h=>h ((okF_b hL3).2 Hok.out.1)),if_neg (by omega),if_pos Hok.out.2,hl3,Hn.out]
 have hV:pushL L3 x.b=doubV L m:=by
  unfold pushL doubV
  rw [hE,hL3,Int.toNat_natCast,hxb]
  rfl
 have P1:=hide (double1_ok A3 c3 n m gi L3 x w3 hO3.rf hl3 hx (HI.out.below hb3))
 rw [hE,hV] at P1
 clear hL3 hl3 hO3 hx hxb hT hP hE hV hxs
 go_wp2_with fail
 refine P1.out.mono ?_
 rintro e w4 ⟨A4,c4,L4,rfl,hL4,hO4,hb4⟩
 have H4:=hide (And.intro hL4 hO4)
 have hb04:=fresh hb3 hb4
 clear hL4 hO4 P1
 go_wp2_with fail
 refine bodyPost_ret (v:= .tuple #[.slice A4 L4.length c4,.int .i64 (doubE L m)]) (by simp [results,Tryz.results35,go_sem]) rfl ?_
 exact⟨A4,c4,L4,rfl,H4.out.1,H4.out.2.less hb3.size,hb04⟩
theorem ldouble (A:Option Addr) (n c:Nat) (m:Int) (L:List FrL) (w:World) (hr:RF w w.heap.size A L) (hn:L.length=n):
 Calls Tryz.prog 11 #[.slice A n c,.int .i64 m] w fun e w'=>∃ (A':Option Addr) (c':Nat) (Q:List FrL),e= .returned (.tuple #[.slice A' (List.length (α:=FrL) Q) c',.int .i64 (doubE L m)])∧Q.map FrL.b=doubV L m∧OF w' w.heap.size A' c' Q∧Below w.heap.size w w':=by
 obtain⟨w1,hw1⟩:∃ w1,w.alloc (.cells #[.int .i64 m] 3)=w1:=⟨_,rfl⟩
 have I1:IBX w1 w.heap.size m:=by rw [←hw1];exact heap_alloc_new _ _
 have hb1:Below w.heap.size w w1:=by rw [←hw1];exact fboxF _ _
 have hr1:RF w1 w1.heap.size A L:=(hr.below hb1).more hb1.size
 have i0:=I1.cell
 have hmf:∀ (fn:Fn) (first cap:Array Value) (W:World),(Instr.makeFunc fn first cap).run Tryz.prog W= .ok (.func fn first cap) W:=fun _ _ _ _=>rfl
 by_cases hE:atE L m=0
 ·obtain⟨hok,h0,h1⟩:=atE_ok hE
  obtain⟨mm,rfl⟩:∃ mm:Nat,m=mm:=⟨m.toNat,by omega⟩
  have hP:=hide (at_double A n c mm w.heap.size L w1 hr1 hn hok (by omega) I1)
  have Hw:=hide hw1
  clear hr hn hE hok h0 h1 hr1 I1 hw1
  go_enter Tryz.func11,Tryz.ntmps11
  go_wp2_with fail
  try rw [Hw.out]
  refine hP.out.mono ?_
  rintro e w3 ⟨A3,c3,Q3,rfl,hQ3,hO3,hb3⟩
  have HH:=hide (And.intro hQ3 hO3)
  have hb03:=fresh hb1 hb3
  clear hQ3 hO3 hP i0
  go_wp2_with fail
  refine bodyPost_ret (v:= .tuple #[.slice A3 Q3.length c3,.int .i64 (doubE L mm)]) (by simp [results,Tryz.results11,go_sem]) rfl ?_
  exact⟨A3,c3,Q3,rfl,HH.out.1,HH.out.2.less hb1.size,hb03⟩
 ·have hP:=hide (fun F=>at_not A n c m F L w1 hr1 hn hE)
  have hD:doubE L m=atE L m:=if_neg hE
  have HV:=hide (And.intro hD (show doubV L m= [] by unfold doubV;rw [if_neg (by rw [hD];exact hE)]))
  have Hw:=hide hw1
  clear hr hn hE hr1 I1 hw1 hD
  go_enter Tryz.func11,Tryz.ntmps11
  go_wp2_with fail
  try rw [Hw.out]
  refine (unhide hP _).mono ?_
  rintro e w3 ⟨rfl,rfl⟩
  go_wp2_with fail
  refine bodyPost_ret (v:= .tuple #[.slice none 0 0,.int .i64 (atE L m)]) (by simp [results,Tryz.results11,go_sem]) rfl ?_
  exact⟨none,0, [],by rw [HV.out.1];rfl,by rw [HV.out.2];rfl,OF.nil _ _,hb1⟩
end Go.Proofs.YtmkpfdcnikgokaaGreat
namespace Go.Proofs.YtmkpfdcnikgokaaGreat
open Go.RowKit Go.Lib
theorem cells_heap (g:Nat) (e:TypeId):∀ (vs:List Value) (o:Nat) (w:World) (cur:Array Value),w.heap[g]?=some (.cells cur e (0,0))→o+vs.length≤cur.size→
 (w.setCells g o vs).heap[g]?=some (.cells (cur.toList.take o++vs++cur.toList.drop (o+vs.length)).toArray e (0,0))
 | [],o,w,cur,h,_=>by
   rw [World.setCells,h,List.append_nil,List.length_nil,Nat.add_zero,List.take_append_drop]
 | v :: r,o,w,cur,h,hl=>by
   rw [List.length_cons] at hl
   rw [World.setCells,cells_heap g e r (o+1) _ _ (heap_setCell_same _ _ _ _ _ _ h) (by simp;omega)]
   have e1:(cur.setIfInBounds o v).toList.take (o+1)=cur.toList.take o++ [v]:=by
    rw [Array.toList_setIfInBounds,List.take_set,List.take_succ_eq_append_getElem (by simpa using (by omega:o < cur.size)),List.set_append_right _ _ (by simp;omega),List.length_take,Nat.min_eq_left (by simp;omega),Nat.sub_self]
    rfl
   have e2:(cur.setIfInBounds o v).toList.drop (o+1+r.length)=cur.toList.drop (o+(v :: r).length):=by
    rw [Array.toList_setIfInBounds,List.drop_set_of_lt (by omega),List.length_cons,Nat.add_assoc,Nat.add_comm 1]
   rw [e1,e2,List.append_assoc (cur.toList.take o)]
   rfl
theorem cells_other (g:Nat):∀ (vs:List Value) (o:Nat) (w:World) (k:Nat),k≠g→(w.setCells g o vs).heap[k]?=w.heap[k]?
 | [],_,_,_,_=>rfl
 | v :: r,o,w,k,h=>by rw [World.setCells,cells_other g r (o+1) _ k h,heap_setCell_other _ _ _ _ h]
theorem cells_below (g:Nat) {B:Nat} {w0:World} (hB:B≤g):∀ (vs:List Value) (o:Nat) (w:World),Below B w0 w→Below B w0 (w.setCells g o vs)
 | [],_,_,h=>h
 | v :: r,o,_,h=>cells_below g hB r (o+1) _ (h.setCell (p:=⟨g,o,none⟩) hB v)
theorem ldelete (g c n i j base:Nat) (Q:List FrL) (w:World) (hO:OF w base (some ⟨g,0,none⟩) c Q) (hn:Q.length=n) (hlt:i < j) (hj:j≤n) (_hn9:n≤64):
 Calls Tryz.prog 41 #[.slice (some ⟨g,0,none⟩) n c,.int .i64 i,.int .i64 j] w fun e w'=>e= .returned (.slice (some ⟨g,0,none⟩) (n - (j - i)) c)∧OF w' base (some ⟨g,0,none⟩) c (Q.take i++Q.drop j)∧(∀ B,B≤base→Below B w w'):=by
 obtain⟨i0,hi0,hz0,hz1,hz2⟩:=info_parts frinfo
 obtain⟨hl0,h0⟩:=hO.1
 rcases h0 with⟨h1,-⟩ | ⟨q,cap,cur,h1,h2,h3,h4,h5,h6,h7⟩
 ·simp at h1
 simp only [Value.slice.injEq,Option.some.injEq,Addr.mk.injEq,and_true,true_and] at h1
 obtain⟨rfl,rfl⟩:=h1
 rw [Nat.mul_one] at h6 h7
 rw [hn] at h4 h7
 have hcm:c≤9223372036854775807:=by unfold maxLen at h5;omega
 have hget:∀ t,t < n→cur[t]?=(frs Q)[t]?:=by
  intro t ht
  rw [←h7,List.getElem?_take,if_pos (by omega),Array.getElem?_toList]
 have hcell:∀ t,t < n→∀ W:World,W.heap[g]?=some (.cells cur 23 (0,0))→W.cell? ⟨g,t,none⟩=(frs Q)[t]?:=fun t ht W hW=>by rw [cell_of_row _ _ _ _ _ _ hW,hget t ht]
 obtain⟨news,hnews⟩:∃ news,news=frs (Q.drop j):=⟨_,rfl⟩
 have hlen:news.length=n - j:=by rw [hnews,frs_len,List.length_drop,hn]
 have hdr:frs (Q.drop j)=(frs Q).drop j:=by simp [frs]
 obtain⟨A,hA,hsrc⟩:∃ A:Addr,(if c=j then some (⟨g,0,none⟩:Addr) else some ⟨g,j,none⟩)=some A∧Hid (∀ t u,news[t]?=some u→w.drew.cell? (A.add t)=some u):=by
  by_cases h:c=j
  ·refine⟨⟨g,0,none⟩,by simp [h],fun t u hu=>?_⟩
   have h0:news.length=0:=by rw [hlen];omega
   rw [List.length_eq_zero_iff.1 h0] at hu
   simp at hu
  ·refine⟨⟨g,j,none⟩,by simp [h],fun t u hu=>?_⟩
   have ht:t < n - j:=by
    have:=(List.getElem?_eq_some_iff.1 hu).1
    rwa [hlen] at this
   rw [hnews,hdr,List.getElem?_drop] at hu
   rw [Addr.add_lit,hcell (j+t) (by omega) w.drew h3]
   exact hu
 have s1:Hid (news.length=(n - j) * 1):=by rw [Nat.mul_one];exact hlen
 have s2:Hid (∀ u∈news,u.oneCell'=true):=by rw [hnews];exact frs_one _
 have s3:Hid (∀ t,t < news.length→(w.drew.cell? ⟨g,0+i * 1+t,none⟩).isSome=true∧w.drew.frozen? ⟨g,0+i * 1+t,none⟩=false):=by
  intro t ht
  rw [hlen] at ht
  refine⟨?_,frozen_of_row w.drew g _ _ _ h3⟩
  rw [Nat.mul_one,Nat.zero_add,hcell (i+t) (by omega) w.drew h3,List.getElem?_eq_getElem (by rw [frs_len];omega)]
  rfl
 obtain⟨W1,hW1⟩:∃ W1,W1=w.drew.setCells g (0+i * 1) news:=⟨_,rfl⟩
 have hW1h:W1.heap[g]?=some (.cells (cur.toList.take i++news++cur.toList.drop (i+(n - j))).toArray 23 (0,0)):=by
  rw [hW1,Nat.mul_one,Nat.zero_add,←hlen]
  exact cells_heap g _ news i w.drew cur h3 (by omega)
 obtain⟨cur1,hcur1⟩:∃ q,q=(cur.toList.take i++news++cur.toList.drop (i+(n - j))).toArray:=⟨_,rfl⟩
 rw [←hcur1] at hW1h
 have hs1:cur1.size=c:=by rw [hcur1];simp [hlen];omega
 have hcl:∀ ty,(Builtin.clear_ #[22] ty #[.slice (some ⟨g,i+(n - j),none⟩) (n - (i+(n - j))) (c - (i+(n - j)))]).run Tryz.prog W1= .ok (.tuple #[]) (W1.setCells g (i+(n - j)) (List.replicate (n - (i+(n - j))) (.slice none 0 0))):=
  fun ty=>Lib.run_clear_slice W1 _ 23 ty _ Tryz.underlying22 (fun w=>by first | rfl | simp [go_sem]) rfl rfl g (i+(n - j)) _ _ (by omega) (fun t ht=>by rw [cell_of_row _ _ _ _ _ _ hW1h,Array.getElem?_eq_getElem (by omega)];rfl) (fun t ht=>frozen_of_row W1 g _ _ _ hW1h)
 have hW:Hid (W1=w.drew.setCells g (0+i * 1) news):=hide hW1
 have hfin:Hid (OF (W1.setCells g (i+(n - j)) (List.replicate (n - (i+(n - j))) (.slice none 0 0))) base (some ⟨g,0,none⟩) c (Q.take i++Q.drop j)∧∀ B,B≤base→Below B w (W1.setCells g (i+(n - j)) (List.replicate (n - (i+(n - j))) (.slice none 0 0)))):=hide (by
  have hql:(Q.take i++Q.drop j).length=i+(n - j):=by rw [List.length_append,List.length_take,List.length_drop];omega
  have hh:=cells_heap g 23 (List.replicate (n - (i+(n - j))) (.slice none 0 0)) (i+(n - j)) W1 cur1 hW1h (by rw [List.length_replicate];omega)
  have hk:∀ k,k≠g→(W1.setCells g (i+(n - j)) (List.replicate (n - (i+(n - j))) (.slice none 0 0))).heap[k]?=w.heap[k]?:=fun k hk=>by
   rw [cells_other g _ _ _ _ hk,hW1,cells_other g _ _ _ _ hk]
   rfl
  refine⟨⟨⟨by rw [frs_len,Nat.mul_one],.inr ⟨g,c,_,rfl,h2,hh,by rw [hql];omega,h5,?_,?_⟩⟩,fun x hx=>fr_at (hO.2 x ?_) h3 (by decide) hk⟩,fun B hB=>cells_below g (Nat.le_trans hB h2) _ _ _ (by rw [hW1];exact cells_below g (Nat.le_trans hB h2) _ _ _ (Below.refl B w).drew)⟩
  ·simp [hs1];omega
  ·rw [Nat.mul_one,hql,List.toList_toArray,List.append_assoc,List.take_append_of_le_length (by simp [hs1];omega),List.take_take,Nat.min_self,hcur1,List.toList_toArray]
   have e1:cur.toList.take i=frs (Q.take i):=by
    have:(cur.toList.take n).take i=(frs Q).take i:=by rw [h7]
    rw [List.take_take,Nat.min_eq_left (by omega)] at this
    rw [this]
    simp [frs]
   rw [e1,hnews,←frs_append]
   have h8:(frs (Q.take i++Q.drop j)).length=i+(n - j):=by rw [frs_len,hql]
   rw [←h8,List.take_left]
  ·rcases List.mem_append.1 hx with h | h
   ·exact List.mem_of_mem_take h
   ·exact List.mem_of_mem_drop h)
 have hic:i≤c:=by omega
 have hjc:j≤c:=by omega
 have heq:¬ i=j:=by omega
 have mixed:Tryz.prog.follows .mixedOrders=true:=by kernel_rfl
 clear hW1 hW1h hget hnews hlen hcell hdr hcur1 hs1 hO hn h3 h6 h7 hl0 h2 h5
 go_enter Tryz.func41,Tryz.ntmps41
 go_wp2_with fail
 go_region_law_o (refine step_append_room rfl (.tmp 22) (.tmp 25) 22 rfl 23 i0 1 Tryz.underlying22 hi0 hz1 g 0 i c (by simp [Act.eval,Act.put]) A (n - j) (c - j) news (by simp [Act.eval,Act.put]) s1.out hsrc.out s2.out (by omega) s3.out ?_;rw [←hW.out])
 go_wp2_with fail
 go_ret
 exact⟨by rw [show n - (j - i)=i+(n - j) by omega];rfl,hfin.out⟩
end Go.Proofs.YtmkpfdcnikgokaaGreat
namespace Go.Proofs.YtmkpfdcnikgokaaGreat
open Ieee
/-- The rung of a whole number. -/
def rungOf (n:Nat):Nat:=(n.log2+1022) * 2 ^ 52+n * 2 ^ (52 - n.log2)
theorem log2_le52 {n:Nat} (h0:0 < n) (h:n < 2 ^ 53):n.log2≤52:=by
 have:=(Nat.log2_lt (by omega:n≠0)).2 h
 omega
theorem log2_pow (n s:Nat) (h0:0 < n):(n * 2 ^ s).log2=n.log2+s:=by
 have hne:n * 2 ^ s≠0:=Nat.mul_ne_zero (by omega) (by have:=Nat.two_pow_pos s;omega)
 rw [Nat.log2_eq_iff hne]
 have h1:=(Nat.log2_eq_iff (by omega:n≠0)).1 rfl
 refine⟨?_,?_⟩
 ·rw [Nat.pow_add];exact Nat.mul_le_mul_right _ h1.1
 ·rw [show n.log2+s+1=(n.log2+1)+s by omega,Nat.pow_add]
  exact Nat.mul_lt_mul_of_pos_right h1.2 (Nat.two_pow_pos s)
theorem frac_bounds {n:Nat} (h0:0 < n) (h:n < 2 ^ 53):2 ^ 52≤n * 2 ^ (52 - n.log2)∧n * 2 ^ (52 - n.log2) < 2 ^ 53:=by
 have h1:=(Nat.log2_eq_iff (by omega:n≠0)).1 rfl
 have hl:=log2_le52 h0 h
 constructor
 ·calc 2 ^ 52=2 ^ n.log2 * 2 ^ (52 - n.log2):=by rw [←Nat.pow_add];congr 1;omega
   _≤_:=Nat.mul_le_mul_right _ h1.1
 ·calc n * 2 ^ (52 - n.log2) < 2 ^ (n.log2+1) * 2 ^ (52 - n.log2):=Nat.mul_lt_mul_of_pos_right h1.2 (Nat.two_pow_pos _)
   _=2 ^ 53:=by rw [←Nat.pow_add];congr 1;omega
theorem rung_lt {n:Nat} (h0:0 < n) (h:n < 2 ^ 53):rungOf n < 2047 * 2 ^ 52:=by
 have hl:=log2_le52 h0 h
 have hfb:=frac_bounds h0 h
 unfold rungOf
 have:(n.log2+1022) * 2 ^ 52≤1074 * 2 ^ 52:=Nat.mul_le_mul_right _ (by omega)
 omega
theorem cut_zero (neg:Bool) (n:Nat):Toward.even.cut neg n 0=n:=by
 unfold Toward.cut
 simp [Nat.mod_one]
theorem cut_exact (neg:Bool) (n r:Nat) (hn:0 < n):Toward.even.cut neg (n * 2 ^ r) r=n:=by
 unfold Toward.cut
 have hm:min r ((n * 2 ^ r).log2+2)=r:=by rw [log2_pow n r hn];omega
 rw [hm,Nat.one_shiftLeft]
 simp only [Nat.mul_mod_left,Nat.mul_div_cancel _ (Nat.two_pow_pos r)]
 have:=Nat.two_pow_pos r
 have e1:(2 ^ r < 2 * 0)=False:=by simp
 have e2:(2 ^ r == 2 * 0)=false:=by simp
 simp [e2]
/-- A whole number, however it is scaled, has one word. -/
theorem nearest_scale (neg:Bool) (n s:Nat) (h0:0 < n) (h:n < 2 ^ 53):double.nearest neg (n * 2 ^ s) (-(s:Int))=double.word neg (rungOf n):=by
 have hl:=log2_le52 h0 h
 have hfb:=frac_bounds h0 h
 have hne:n * 2 ^ s≠0:=Nat.mul_ne_zero (by omega) (by have:=Nat.two_pow_pos s;omega)
 have hlp:double.leastPlace=-1074:=by decide
 have hlast:max (-(s:Int)+((n * 2 ^ s).log2:Nat) - (double.fractionBits:Nat)) (-1074)=(n.log2:Int) - 52:=by
  rw [log2_pow n s h0]
  have:(double.fractionBits:Nat)=52:=rfl
  rw [this]
  omega
 unfold Format.nearest
 rw [if_neg hne]
 simp only [hlp]
 rw [hlast]
 have hkept:Toward.even.cut neg ((n * 2 ^ s) <<< (-(s:Int) - ((n.log2:Int) - 52)).toNat) (((n.log2:Int) - 52) - -(s:Int)).toNat=n * 2 ^ (52 - n.log2):=by
  by_cases hs:s≤52 - n.log2
  ·have e1:(-(s:Int) - ((n.log2:Int) - 52)).toNat=52 - n.log2 - s:=by omega
   have e2:(((n.log2:Int) - 52) - -(s:Int)).toNat=0:=by omega
   rw [e1,e2,cut_zero,Nat.shiftLeft_eq,Nat.mul_assoc,←Nat.pow_add]
   congr 2
   omega
  ·have e1:(-(s:Int) - ((n.log2:Int) - 52)).toNat=0:=by omega
   obtain⟨r,hr⟩:∃ r,s=(52 - n.log2)+r:=⟨s - (52 - n.log2),by omega⟩
   have e2:(((n.log2:Int) - 52) - -(s:Int)).toNat=r:=by omega
   rw [e1,e2,Nat.shiftLeft_zero,hr,Nat.pow_add,←Nat.mul_assoc]
   exact cut_exact neg _ r (by omega)
 rw [hkept]
 have ei:((n.log2:Int) - 52 - -1074).toNat=n.log2+1022:=by omega
 have hinf:double.infRung=2047 * 2 ^ 52:=by decide
 have hbin:double.binade=2 ^ 52:=by decide
 have hmin:min ((n.log2+1022) * 2 ^ 52+n * 2 ^ (52 - n.log2)) (2047 * 2 ^ 52)=rungOf n:=by
  show min (rungOf n) (2047 * 2 ^ 52)=rungOf n
  exact Nat.min_eq_left (Nat.le_of_lt (rung_lt h0 h))
 rw [ei,hinf,hbin,hmin]
/-- What the word of a whole number stands for. -/
theorem read_word (neg:Bool) (n:Nat) (h0:0 < n) (h:n < 2 ^ 53):double.read (double.word neg (rungOf n))= .number neg (n * 2 ^ (52 - n.log2)) ((n.log2:Int) - 52):=by
 have hl:=log2_le52 h0 h
 have hfb:=frac_bounds h0 h
 have hinf:double.infRung=2047 * 2 ^ 52:=by decide
 have hbin:double.binade=2 ^ 52:=by decide
 have hsw:double.signWeight=2 ^ 63:=by decide
 have hlp:double.leastPlace=-1074:=by decide
 have hr1:=rung_lt h0 h
 have hr2:2 ^ 52≤rungOf n:=by unfold rungOf;omega
 have hdiv:rungOf n / 2 ^ 52=n.log2+1023:=by unfold rungOf;omega
 have hmod:rungOf n % 2 ^ 52=n * 2 ^ (52 - n.log2) - 2 ^ 52:=by unfold rungOf;omega
 have hw:double.word neg (rungOf n) % 2 ^ 63=rungOf n:=by
  unfold Format.word
  rw [hsw]
  cases neg
  ·simp only [Bool.false_eq_true,if_false];exact Nat.mod_eq_of_lt (by omega)
  ·simp only [if_true];rw [Nat.add_mod_left];exact Nat.mod_eq_of_lt (by omega)
 have hneg:(double.word neg (rungOf n) / 2 ^ 63 % 2 == 1)=neg:=by
  unfold Format.word
  rw [hsw]
  cases neg
  ·simp only [Bool.false_eq_true,if_false]
   have:rungOf n / 2 ^ 63=0:=Nat.div_eq_of_lt (by omega)
   rw [this];rfl
  ·simp only [if_true]
   have:(2 ^ 63+rungOf n) / 2 ^ 63=1:=by omega
   rw [this];rfl
 unfold Format.read
 simp only [hsw,hw,hneg,hbin,hinf,hlp]
 rw [if_neg (by omega),if_pos hr1,hdiv,hmod]
 have a:2 ^ 52+(n * 2 ^ (52 - n.log2) - 2 ^ 52)=n * 2 ^ (52 - n.log2):=by omega
 have b:(-1074:Int)+((n.log2+1023 - 1:Nat):Int)=(n.log2:Int) - 52:=by omega
 rw [a,b]
/-- A whole number's word. -/
def fv (n:Nat):Nat:=floatOfInt .f64 (n:Int)
theorem fv_zero:fv 0=0:=by decide+kernel
theorem fv_eq (n:Nat) (h0:0 < n) (h:n < 2 ^ 53):fv n=double.word false (rungOf n):=by
 have:=nearest_scale false n 0 h0 h
 simp only [Nat.pow_zero,Nat.mul_one,Int.ofNat_zero,Int.neg_zero] at this
 rw [←this]
 have hn:decide ((n:Int) < 0)=false:=by simp
 show double.write (.number (decide ((n:Int) < 0)) (n:Int).natAbs 0)=_
 rw [hn,Int.natAbs_natCast]
 rfl
theorem read_zero:double.read 0= .number false 0 (-1074):=by decide+kernel
/-- What it stands for, zero or not: the number is its magnitude, scaled. -/
theorem read_fv (n:Nat) (h:n < 2 ^ 53):∃ s:Nat,double.read (fv n)= .number false (n * 2 ^ s) (-(s:Int)):=by
 rcases Nat.eq_zero_or_pos n with rfl | h0
 ·obtain⟨s,hs⟩:∃ s:Nat,s=1074:=⟨_,rfl⟩
  exact⟨s,by rw [fv_zero,read_zero,Nat.zero_mul,hs];rfl⟩
 ·refine⟨52 - n.log2,?_⟩
  have hl:=log2_le52 h0 h
  rw [fv_eq n h0 h,read_word false n h0 h]
  have b:(n.log2:Int) - 52=-((52 - n.log2:Nat):Int):=by omega
  rw [b]
/-- The word of what is a whole number, scaled. -/
theorem write_scale (n s:Nat) (h:n < 2 ^ 53):double.write (.number false (n * 2 ^ s) (-(s:Int)))=fv n:=by
 rcases Nat.eq_zero_or_pos n with rfl | h0
 ·rw [Nat.zero_mul,fv_zero];rfl
 ·rw [fv_eq n h0 h];exact nearest_scale false n s h0 h
theorem mul_fv (a b:Nat) (ha:a < 2 ^ 53) (hb:b < 2 ^ 53) (h:a * b < 2 ^ 53):floatBits .mul .f64 (fv a) (fv b)=some (fv (a * b)):=by
 obtain⟨s,hs⟩:=read_fv a ha
 obtain⟨t,ht⟩:=read_fv b hb
 show double.mul (fv a) (fv b)=_
 unfold Format.mul
 rw [hs,ht]
 show some (double.write (.number (false ^^ false) (a * 2 ^ s * (b * 2 ^ t)) (-(s:Int)+-(t:Int))))=_
 have e1:a * 2 ^ s * (b * 2 ^ t)=a * b * 2 ^ (s+t):=by rw [Nat.pow_add];simp only [Nat.mul_assoc,Nat.mul_left_comm]
 have e2:-(s:Int)+-(t:Int)=-((s+t:Nat):Int):=by omega
 rw [e1,e2]
 exact congrArg some (write_scale (a * b) (s+t) h)
theorem sum_scale (a b s t:Nat):∃ r:Nat,Datum.sum (.number false (a * 2 ^ s) (-(s:Int))) (.number false (b * 2 ^ t) (-(t:Int)))=some (.number false ((a+b) * 2 ^ r) (-(r:Int))):=by
 refine⟨max s t,?_⟩
 have hb:min (-(s:Int)) (-(t:Int))=-((max s t:Nat):Int):=by omega
 have e1:(-(s:Int) - -((max s t:Nat):Int)).toNat=max s t - s:=by omega
 have e2:(-(t:Int) - -((max s t:Nat):Int)).toNat=max s t - t:=by omega
 have k1:a * 2 ^ s * 2 ^ (max s t - s)=a * 2 ^ (max s t):=by rw [Nat.mul_assoc,←Nat.pow_add];congr 2;omega
 have k2:b * 2 ^ t * 2 ^ (max s t - t)=b * 2 ^ (max s t):=by rw [Nat.mul_assoc,←Nat.pow_add];congr 2;omega
 have tot:signed false (a * 2 ^ s) (max s t - s)+signed false (b * 2 ^ t) (max s t - t)=(((a+b) * 2 ^ (max s t):Nat):Int):=by
  unfold signed
  rw [Nat.shiftLeft_eq,Nat.shiftLeft_eq,k1,k2,Nat.add_mul]
  simp
 unfold Datum.sum
 simp only [hb,e1,e2,tot]
 generalize (a+b) * 2 ^ (max s t)=x
 have hn:decide ((x:Int) < 0)=false:=by simp
 rw [hn,Int.natAbs_natCast]
 split <;> rfl
theorem add_fv (a b:Nat) (ha:a < 2 ^ 53) (hb:b < 2 ^ 53) (h:a+b < 2 ^ 53):floatBits .add .f64 (fv a) (fv b)=some (fv (a+b)):=by
 obtain⟨s,hs⟩:=read_fv a ha
 obtain⟨t,ht⟩:=read_fv b hb
 show double.add (fv a) (fv b)=_
 unfold Format.add
 rw [hs,ht]
 obtain⟨r,hr⟩:=sum_scale a b s t
 rw [hr]
 exact congrArg some (write_scale (a+b) r h)
theorem int_fv (n:Nat) (h:n < 2 ^ 53):floatToIntVal .f64 (fv n) .i64=some (n:Int):=by
 obtain⟨s,hs⟩:=read_fv n h
 unfold floatToIntVal
 have:(FloatKind.f64.decode (fv n)).toInt .zero=some (n:Int):=by
  show (double.read (fv n)).toInt .zero=_
  rw [hs]
  unfold Datum.toInt Datum.integral
  have e1:(-(s:Int)).toNat=0:=by omega
  have e2:(- -(s:Int)).toNat=s:=by omega
  simp only [e1,e2,Nat.shiftLeft_zero]
  have hc:Toward.zero.cut false (n * 2 ^ s) s=n:=by
   rcases Nat.eq_zero_or_pos n with rfl | h0
   ·unfold Toward.cut;simp
   ·unfold Toward.cut
    have hm:min s ((n * 2 ^ s).log2+2)=s:=by rw [log2_pow n s h0];omega
    rw [hm,Nat.one_shiftLeft]
    simp [Nat.mul_div_cancel _ (Nat.two_pow_pos s)]
  rw [hc]
  simp [signed]
 rw [this]
 have h1:IntKind.i64.min≤(n:Int)∧(n:Int)≤IntKind.i64.max:=by
  have e1:IntKind.i64.min=-9223372036854775808:=by decide
  have e2:IntKind.i64.max=9223372036854775807:=by decide
  rw [e1,e2]
  omega
 simp only [h1,and_self,if_true]
end Go.Proofs.YtmkpfdcnikgokaaGreat
