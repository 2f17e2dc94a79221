/-
  Texts of this claim, put together: MailEq, Wishes. What each theorem asks stands in its statement.
-/
import Derived.Test.YtmkpfdcnikgokaaGreatLt10
import Derived.Test.YtmkpfdcnikgokaaGreatLt11
import Derived.Test.YtmkpfdcnikgokaaGreatLt13
set_option linter.unusedVariables false
set_option linter.unusedSimpArgs false
set_option maxRecDepth 100000
set_option maxHeartbeats 25600000
namespace Go.Proofs.YtmkpfdcnikgokaaGreat
open Go.RowKit
theorem tmeq_any (A B:Option Addr) (c d n k:Nat) (L M:List TmL) (w:World) (hr:RT w w.heap.size A L) (hs:RT w w.heap.size B M) (hn:L.length=n) (hk:M.length=k) (hl:n < 1073741824) (ho:∀ x∈L,okT x):
 Calls Tryz.prog 114 #[.slice A n c,.slice B k d,.func (.func 115) #[] #[]] w fun e w'=>e= .returned (.bool (decide (L.map TmL.pt=M.map TmL.pt)))∧Below w.heap.size w w':=by
 subst hn hk
 by_cases hne:(L.length:Int)=(M.length:Int)
 ·have E:=hide (show L.length=M.length by omega)
  have hbe:((L.length:Int) == (M.length:Int))=true:=by simpa using hne
  have hbn:((L.length:Int) != (M.length:Int))=false:=by simpa using hne
  have HR:=hide hr
  have HS:=hide hs
  clear hne hr hs
  go_enter Tryz.func114,Tryz.ntmps114
  go_wp2_with fail
  go_loopw [17] (fun i wr=>∃ j:Nat,j≤L.length∧i= .int .i64 (j:Int)∧Hid ((L.take j).map TmL.pt=(M.take j).map TmL.pt)∧Below w.heap.size w wr) (fun i _=>L.length - (intOf i).toNat)
  case atStart=>exact⟨0,by omega,rfl,hide rfl,Below.refl _ _⟩
  case round=>
   obtain⟨j,hj,rfl,hT,hb⟩:=hrel
   by_cases hlt:j < L.length
   ·have hltm:j < M.length:=by have:=E.out;omega
    have z0:(j:Int) < L.length:=by omega
    have z1:(j:Int) < M.length:=by omega
    have z4:(0:Int)≤j:=by omega
    obtain⟨x,hx⟩:∃ x,L[j]=x:=⟨_,rfl⟩
    obtain⟨y,hy⟩:∃ x,M[j]=x:=⟨_,rfl⟩
    have hxm:x∈L:=by rw [←hx];exact List.getElem_mem hlt
    have hym:y∈M:=by rw [←hy];exact List.getElem_mem hltm
    obtain⟨p0,o0,rfl,hB0,hC0⟩:=RT.cell (HR.out.below hb) (by omega)
    obtain⟨d0,d1⟩:=hC0 j hlt
    rw [hx] at d0 d1
    obtain⟨w1,hw1,F1,hs1,hb1⟩:=two_pb wr (.int .u8 x.R) (.slice x.A x.s.length x.c) 123
    obtain⟨w2,hw2,F2,hs2,hb2⟩:=two_pb w1 (.int .u8 y.R) (.slice y.A y.s.length y.c) 123
    have hbb1:=fresh hb hb1
    have hbb2:=fresh hbb1 hb2
    obtain⟨p1,o1,rfl,hB1,hC1⟩:=RT.cell (HS.out.below hbb1) (by omega)
    obtain⟨e0,e1⟩:=hC1 j hltm
    rw [hy] at e0 e1
    obtain⟨a0,a1⟩:=(F1.below hb2).cells
    obtain⟨b0,b1⟩:=F2.cells
    have RX:=(HR.out.below hbb2).more hbb2.size
    have RY:=(HS.out.below hbb2).more hbb2.size
    have HP:=hide (tmsame1 x y x.s.length y.s.length w2 (RX.2 x hxm) (RY.2 y hym) rfl rfl (ho x hxm).2.2.2)
    obtain⟨bv,hbv⟩:∃ q,decide (TmL.pt x=TmL.pt y)=q:=⟨_,rfl⟩
    rw [hbv] at HP
    clear hC0 hC1 F1 F2 RX RY
    cases bv
    ·have hf:=hide (show decide (L.map TmL.pt=M.map TmL.pt)=false by
      rw [decide_eq_false_iff_not]
      intro e
      have h1:(L.map TmL.pt)[j]?=(M.map TmL.pt)[j]?:=by rw [e]
      rw [List.getElem?_map,List.getElem?_map,List.getElem?_eq_getElem hlt,List.getElem?_eq_getElem hltm,hx,hy] at h1
      simp only [Option.map_some,Option.some.injEq] at h1
      exact (decide_eq_false_iff_not.1 hbv) h1)
     clear hx hy hxm hym hbv
     go_wp2_with fail
     refine HP.out.mono ?_
     rintro e w3 ⟨rfl,hb3⟩
     clear d0 d1 e0 e1 a0 a1 b0 b1
     go_wp2_with fail
     go_ret
     exact⟨ret_bool hf.out.symm,fresh hbb2 hb3⟩
    ·have hT2:=hide (show (L.take (j+1)).map TmL.pt=(M.take (j+1)).map TmL.pt by
      rw [List.take_succ_eq_append_getElem hlt,List.take_succ_eq_append_getElem hltm,List.map_append,List.map_append,hT.out,hx,hy]
      simp only [List.map_cons,List.map_nil]
      rw [of_decide_eq_true hbv])
     clear hx hy hxm hym hbv
     go_wp2_with fail
     refine HP.out.mono ?_
     rintro e w3 ⟨rfl,hb3⟩
     clear d0 d1 e0 e1 a0 a1 b0 b1
     go_wp2_with fail
     go_roundw
     case rel=>exact⟨j+1,by omega,by go_num,hT2,fresh hbb2 hb3⟩
     case measure=>simp [intOf];omega
   ·have hkl:¬ (j:Int) < L.length:=by omega
    have fin:=hide (show decide (L.map TmL.pt=M.map TmL.pt)=true by
     have h1:=hT.out
     rw [List.take_of_length_le (by omega),List.take_of_length_le (by have:=E.out;omega)] at h1
     exact decide_eq_true h1)
    go_wp2_with fail
    go_ret
    exact⟨ret_bool fin.out.symm,hb⟩
 ·have hbe:((L.length:Int) == (M.length:Int))=false:=by simpa using hne
  have hbn:((L.length:Int) != (M.length:Int))=true:=by simpa using hne
  have fin:=hide (show decide (L.map TmL.pt=M.map TmL.pt)=false by
   rw [decide_eq_false_iff_not]
   intro e
   have h1:=congrArg List.length e
   rw [List.length_map,List.length_map] at h1
   exact hne (by rw [h1]))
  clear hne
  go_enter Tryz.func114,Tryz.ntmps114
  go_wp2_with fail
  go_ret
  exact⟨ret_bool fin.out.symm,Below.refl _ _⟩
theorem tmsame_any (A B:Option Addr) (c d n k:Nat) (L M:List TmL) (w:World) (hr:RT w w.heap.size A L) (hs:RT w w.heap.size B M) (hn:L.length=n) (hk:M.length=k) (hl:n < 1073741824) (ho:∀ x∈L,okT x):
 Calls Tryz.prog 73 #[.slice A n c,.slice B k d] w fun e w'=>e= .returned (.bool (decide (L.map TmL.pt=M.map TmL.pt)))∧Below w.heap.size w w':=by
 have C:=hide (tmeq_any A B c d n k L M w hr hs hn hk hl ho)
 clear hn hk
 go_enter Tryz.func73,Tryz.ntmps73
 go_wp2_with fail
 refine (unhide C).mono ?_
 rintro e w1 ⟨rfl,hb1⟩
 go_wp2_with fail
 go_ret
 exact⟨rfl,hb1⟩
theorem opsame_op (x y:OpL) (w:World) (hr:RR w w.heap.size x.A x.p) (hs:RR w w.heap.size y.A y.p) (hl:x.p.length < 1073741824) (hl':y.p.length < 1073741824):
 Calls Tryz.prog 75 #[opv x.k x.t x.r x.A x.p.length x.c x.z,opv y.k y.t y.r y.A y.p.length y.c y.z] w fun e w'=>e= .returned (.bool (decide (OpL.op x=OpL.op y)))∧Below w.heap.size w w':=by
 refine (opsame_any x.k x.t x.r x.z y.k y.t y.r y.z x.A y.A x.p.length y.p.length x.c y.c x.p y.p w hr hs rfl rfl hl hl').mono ?_
 rintro e w' ⟨rfl,hb⟩
 refine⟨?_,hb⟩
 have e:(x.k=y.k∧x.t=y.t∧x.r=y.r∧x.p=y.p∧x.z=y.z)=(OpL.op x=OpL.op y):=by simp only [OpL.op,Prod.mk.injEq]
 simp only [e]
theorem opeq_any (A B:Option Addr) (c d n k:Nat) (L M:List OpL) (w:World) (hr:RO w w.heap.size A L) (hs:RO w w.heap.size B M) (hn:L.length=n) (hk:M.length=k) (hl:n < 1073741824) (ho:∀ x∈L,x.p.length < 1073741824) (ho':∀ x∈M,x.p.length < 1073741824):
 Calls Tryz.prog 74 #[.slice A n c,.slice B k d,.func (.func 75) #[] #[]] w fun e w'=>e= .returned (.bool (decide (L.map OpL.op=M.map OpL.op)))∧Below w.heap.size w w':=by
 subst hn hk
 by_cases hne:(L.length:Int)=(M.length:Int)
 ·have E:=hide (show L.length=M.length by omega)
  have hbe:((L.length:Int) == (M.length:Int))=true:=by simpa using hne
  have hbn:((L.length:Int) != (M.length:Int))=false:=by simpa using hne
  have HR:=hide hr
  have HS:=hide hs
  clear hne hr hs
  go_enter Tryz.func74,Tryz.ntmps74
  go_wp2_with fail
  go_loopw [17] (fun i wr=>∃ j:Nat,j≤L.length∧i= .int .i64 (j:Int)∧Hid ((L.take j).map OpL.op=(M.take j).map OpL.op)∧Below w.heap.size w wr) (fun i _=>L.length - (intOf i).toNat)
  case atStart=>exact⟨0,by omega,rfl,hide rfl,Below.refl _ _⟩
  case round=>
   obtain⟨j,hj,rfl,hT,hb⟩:=hrel
   by_cases hlt:j < L.length
   ·have hltm:j < M.length:=by have:=E.out;omega
    have z0:(j:Int) < L.length:=by omega
    have z1:(j:Int) < M.length:=by omega
    have z4:(0:Int)≤j:=by omega
    obtain⟨x,hx⟩:∃ x,L[j]=x:=⟨_,rfl⟩
    obtain⟨y,hy⟩:∃ x,M[j]=x:=⟨_,rfl⟩
    have hxm:x∈L:=by rw [←hx];exact List.getElem_mem hlt
    have hym:y∈M:=by rw [←hy];exact List.getElem_mem hltm
    obtain⟨p0,o0,rfl,hB0,hC0⟩:=RO.cell (HR.out.below hb) (by omega)
    obtain⟨d0,d1,d2,d3,d4⟩:=hC0 j hlt
    rw [hx] at d0 d1 d2 d3 d4
    obtain⟨w1,hw1,F1,hs1,hb1⟩:=five_fb wr (.int .u8 x.k) (.int .u32 x.t) (.int .u8 x.r) (.slice x.A x.p.length x.c) (.int .i64 x.z)
    obtain⟨w2,hw2,F2,hs2,hb2⟩:=five_fb w1 (.int .u8 y.k) (.int .u32 y.t) (.int .u8 y.r) (.slice y.A y.p.length y.c) (.int .i64 y.z)
    have hbb1:=fresh hb hb1
    have hbb2:=fresh hbb1 hb2
    obtain⟨p1,o1,rfl,hB1,hC1⟩:=RO.cell (HS.out.below hbb1) (by omega)
    obtain⟨e0,e1,e2,e3,e4⟩:=hC1 j hltm
    rw [hy] at e0 e1 e2 e3 e4
    obtain⟨a0,a1,a2,a3,a4⟩:=(F1.below hb2).cells
    obtain⟨b0,b1,b2,b3,b4⟩:=F2.cells
    have RX:=(HR.out.below hbb2).more hbb2.size
    have RY:=(HS.out.below hbb2).more hbb2.size
    have HP:=hide (opsame_op x y w2 (RX.2 x hxm) (RY.2 y hym) (ho x hxm) (ho' y hym))
    obtain⟨bv,hbv⟩:∃ q,decide (OpL.op x=OpL.op y)=q:=⟨_,rfl⟩
    rw [hbv] at HP
    clear hC0 hC1 F1 F2 RX RY
    cases bv
    ·have hf:=hide (show decide (L.map OpL.op=M.map OpL.op)=false by
      rw [decide_eq_false_iff_not]
      intro e
      have h1:(L.map OpL.op)[j]?=(M.map OpL.op)[j]?:=by rw [e]
      rw [List.getElem?_map,List.getElem?_map,List.getElem?_eq_getElem hlt,List.getElem?_eq_getElem hltm,hx,hy] at h1
      simp only [Option.map_some,Option.some.injEq] at h1
      exact (decide_eq_false_iff_not.1 hbv) h1)
     clear hx hy hxm hym hbv
     go_wp2_with fail
     refine HP.out.mono ?_
     rintro e w3 ⟨rfl,hb3⟩
     clear d0 d1 d2 d3 d4 e0 e1 e2 e3 e4 a0 a1 a2 a3 a4 b0 b1 b2 b3 b4
     go_wp2_with fail
     go_ret
     exact⟨ret_bool hf.out.symm,fresh hbb2 hb3⟩
    ·have hT2:=hide (show (L.take (j+1)).map OpL.op=(M.take (j+1)).map OpL.op by
      rw [List.take_succ_eq_append_getElem hlt,List.take_succ_eq_append_getElem hltm,List.map_append,List.map_append,hT.out,hx,hy]
      simp only [List.map_cons,List.map_nil]
      rw [of_decide_eq_true hbv])
     clear hx hy hxm hym hbv
     go_wp2_with fail
     refine HP.out.mono ?_
     rintro e w3 ⟨rfl,hb3⟩
     clear d0 d1 d2 d3 d4 e0 e1 e2 e3 e4 a0 a1 a2 a3 a4 b0 b1 b2 b3 b4
     go_wp2_with fail
     go_roundw
     case rel=>exact⟨j+1,by omega,by go_num,hT2,fresh hbb2 hb3⟩
     case measure=>simp [intOf];omega
   ·have hkl:¬ (j:Int) < L.length:=by omega
    have fin:=hide (show decide (L.map OpL.op=M.map OpL.op)=true by
     have h1:=hT.out
     rw [List.take_of_length_le (by omega),List.take_of_length_le (by have:=E.out;omega)] at h1
     exact decide_eq_true h1)
    go_wp2_with fail
    go_ret
    exact⟨ret_bool fin.out.symm,hb⟩
 ·have hbe:((L.length:Int) == (M.length:Int))=false:=by simpa using hne
  have hbn:((L.length:Int) != (M.length:Int))=true:=by simpa using hne
  have fin:=hide (show decide (L.map OpL.op=M.map OpL.op)=false by
   rw [decide_eq_false_iff_not]
   intro e
   have h1:=congrArg List.length e
   rw [List.length_map,List.length_map] at h1
   exact hne (by rw [h1]))
  clear hne
  go_enter Tryz.func74,Tryz.ntmps74
  go_wp2_with fail
  go_ret
  exact⟨ret_bool fin.out.symm,Below.refl _ _⟩
theorem flatK_len {α:Type} (f:α→List Value) (k:Nat) (hf:∀ x,(f x).length=k) (L:List α):(L.flatMap f).length=L.length * k:=by
 induction L with
 | nil=>simp
 | cons a l ih=>rw [List.flatMap_cons,List.length_append,ih,hf,List.length_cons,Nat.succ_mul];omega
theorem flatK_get {α:Type} (f:α→List Value) (k:Nat) (hf:∀ x,(f x).length=k) (L:List α):∀ (i:Nat) (h:i < L.length) (j:Nat),j < k→(L.flatMap f)[i * k+j]?=(f L[i])[j]?:=by
 induction L with
 | nil=>intro i h;simp at h
 | cons a l ih=>
   intro i h j hj
   rw [List.flatMap_cons]
   cases i with
   | zero=>
     rw [Nat.zero_mul,Nat.zero_add,List.getElem?_append_left (by rw [hf];exact hj)]
     rfl
   | succ i=>
     rw [List.getElem?_append_right (by rw [hf,Nat.succ_mul];omega),hf,show (i+1) * k+j - k=i * k+j by rw [Nat.succ_mul];omega]
     exact ih i (by simpa using h) j hj
def wss (L:List WsL):List Value:=L.flatMap WsL.cells
theorem wss_append (L M:List WsL):wss (L++M)=wss L++wss M:=by simp [wss]
theorem wcells_one (x:WsL):∀ u∈x.cells,u.oneCell'=true:=by
 intro u hu
 simp only [WsL.cells,List.mem_cons,List.not_mem_nil,or_false] at hu
 rcases hu with rfl | rfl | rfl | rfl | rfl | rfl | rfl <;> rfl
/-- Truths that are read. -/
def RBl (w:World) (B:Nat) (A:Option Addr) (l:List Bool):Prop:=RD w B 1 A l.length (bls l)
theorem RBl.cell {w:World} {B:Nat} {A:Option Addr} {l:List Bool} (h:RBl w B A l) (hl:0 < l.length):∃ b off,A=some ⟨b,off,none⟩∧b < B∧∀ j (hj:j < l.length),w.cell? ⟨b,off+j,none⟩=some (.bool l[j]):=by
 obtain⟨b,off,e,hb,hc⟩:=h.2 hl
 refine⟨b,off,e,hb,fun j hj=>hc j _ ?_⟩
 simp [bls,hj]
/-- Wishes that are read. -/
def RW (w:World) (B:Nat) (A:Option Addr) (L:List WsL):Prop:=RD w B 7 A L.length (wss L)∧∀ x∈L,RT w B x.hA x.h∧RT w B x.sA x.s∧RBl w B x.gA x.g
theorem RW.below {w w':World} {B:Nat} {A:Option Addr} {L:List WsL} (h:RW w B A L) (hb:Below B w w'):RW w' B A L:=⟨RD.below h.1 hb,fun x hx=>⟨(h.2 x hx).1.below hb,(h.2 x hx).2.1.below hb,RD.below (h.2 x hx).2.2 hb⟩⟩
theorem RW.more {w:World} {B B':Nat} {A:Option Addr} {L:List WsL} (h:RW w B A L) (hB:B≤B'):RW w B' A L:=⟨RD.more h.1 hB,fun x hx=>⟨(h.2 x hx).1.more hB,(h.2 x hx).2.1.more hB,RD.more (h.2 x hx).2.2 hB⟩⟩
theorem RW.nil (w:World) (B:Nat) (A:Option Addr):RW w B A []:=⟨RD.nil_,fun x hx=>by cases hx⟩
theorem RW.cell {w:World} {B:Nat} {A:Option Addr} {L:List WsL} (h:RW w B A L) (hl:0 < L.length):∃ b off,A=some ⟨b,off,none⟩∧b < B∧∀ j (hj:j < L.length),
 w.cell? ⟨b,off+j * 7,none⟩=some (.int .u32 L[j].t)∧w.cell? ⟨b,off+j * 7+1,none⟩=some (.int .u8 L[j].r)∧w.cell? ⟨b,off+j * 7+2,none⟩=some (.bool L[j].rd)∧w.cell? ⟨b,off+j * 7+3,none⟩=some (.slice L[j].hA L[j].h.length L[j].hc)∧
 w.cell? ⟨b,off+j * 7+4,none⟩=some (.bool L[j].kn)∧w.cell? ⟨b,off+j * 7+5,none⟩=some (.slice L[j].sA L[j].s.length L[j].sc)∧w.cell? ⟨b,off+j * 7+6,none⟩=some (.slice L[j].gA L[j].g.length L[j].gc):=by
 obtain⟨b,off,e,hb,hc⟩:=h.1.2 hl
 refine⟨b,off,e,hb,fun j hj=>?_⟩
 have g:∀ i,i < 7→∀ u,(L[j].cells)[i]?=some u→w.cell? ⟨b,off+j * 7+i,none⟩=some u:=by
  intro i hi u hu
  rw [Nat.add_assoc]
  exact hc _ _ (by rw [wss,flatK_get _ 7 (fun _=>rfl) L j hj i hi,hu])
 exact⟨g 0 (by decide) _ rfl,g 1 (by decide) _ rfl,g 2 (by decide) _ rfl,g 3 (by decide) _ rfl,g 4 (by decide) _ rfl,g 5 (by decide) _ rfl,g 6 (by decide) _ rfl⟩
/-- Wishes as entries, as they lie. -/
def enc (x:WsL):List Value:= [.int .u32 x.t,.int .u8 x.r,.bool x.rd,.bool false,.int .i64 0,.bool x.kn,.slice x.sA x.s.length x.sc,.slice x.gA x.g.length x.gc]
abbrev env (t r:Int) (rd kn:Bool) (s g:Value):Value:= .agg #[.int .u32 t,.int .u8 r,.bool rd,.bool false,.int .i64 0,.bool kn,s,g]
def ens (L:List WsL):List Value:=L.flatMap enc
theorem ens_append (L M:List WsL):ens (L++M)=ens L++ens M:=by simp [ens]
theorem enc_one (x:WsL):∀ u∈enc x,u.oneCell'=true:=by
 intro u hu
 simp only [enc,List.mem_cons,List.not_mem_nil,or_false] at hu
 rcases hu with rfl | rfl | rfl | rfl | rfl | rfl | rfl | rfl <;> rfl
theorem eninfo:(Tryz.prog.info? 159).map (fun i=>(i.zero,i.size,i.bytes))=some (some (.agg #[.int .u32 0,.int .u8 0,.bool false,.bool false,.int .i64 0,.bool false,.slice none 0 0,.slice none 0 0]),8,80):=by kernel_rfl
/-- Entries that are read. -/
def RE (w:World) (B:Nat) (A:Option Addr) (L:List WsL):Prop:=RD w B 8 A L.length (ens L)∧∀ x∈L,RT w B x.sA x.s∧RBl w B x.gA x.g
theorem RE.below {w w':World} {B:Nat} {A:Option Addr} {L:List WsL} (h:RE w B A L) (hb:Below B w w'):RE w' B A L:=⟨RD.below h.1 hb,fun x hx=>⟨(h.2 x hx).1.below hb,RD.below (h.2 x hx).2 hb⟩⟩
theorem RE.more {w:World} {B B':Nat} {A:Option Addr} {L:List WsL} (h:RE w B A L) (hB:B≤B'):RE w B' A L:=⟨RD.more h.1 hB,fun x hx=>⟨(h.2 x hx).1.more hB,RD.more (h.2 x hx).2 hB⟩⟩
theorem RE.cell {w:World} {B:Nat} {A:Option Addr} {L:List WsL} (h:RE w B A L) (hl:0 < L.length):∃ b off,A=some ⟨b,off,none⟩∧b < B∧∀ j (hj:j < L.length),
 w.cell? ⟨b,off+j * 8,none⟩=some (.int .u32 L[j].t)∧w.cell? ⟨b,off+j * 8+1,none⟩=some (.int .u8 L[j].r)∧w.cell? ⟨b,off+j * 8+2,none⟩=some (.bool L[j].rd)∧w.cell? ⟨b,off+j * 8+3,none⟩=some (.bool false)∧
 w.cell? ⟨b,off+j * 8+4,none⟩=some (.int .i64 0)∧w.cell? ⟨b,off+j * 8+5,none⟩=some (.bool L[j].kn)∧w.cell? ⟨b,off+j * 8+6,none⟩=some (.slice L[j].sA L[j].s.length L[j].sc)∧w.cell? ⟨b,off+j * 8+7,none⟩=some (.slice L[j].gA L[j].g.length L[j].gc):=by
 obtain⟨b,off,e,hb,hc⟩:=h.1.2 hl
 refine⟨b,off,e,hb,fun j hj=>?_⟩
 have g:∀ i,i < 8→∀ u,(enc L[j])[i]?=some u→w.cell? ⟨b,off+j * 8+i,none⟩=some u:=by
  intro i hi u hu
  rw [Nat.add_assoc]
  exact hc _ _ (by rw [ens,flatK_get _ 8 (fun _=>rfl) L j hj i hi,hu])
 exact⟨g 0 (by decide) _ rfl,g 1 (by decide) _ rfl,g 2 (by decide) _ rfl,g 3 (by decide) _ rfl,g 4 (by decide) _ rfl,g 5 (by decide) _ rfl,g 6 (by decide) _ rfl,g 7 (by decide) _ rfl⟩
/-- A box of an entry. -/
def EB (w:World) (g:Nat) (a b c d e f h k:Value):Prop:=w.heap[g]?=some (.cells #[a,b,c,d,e,f,h,k] 159 (0,0))
theorem EB.below {w w':World} {g:Nat} {a b c d e f h k:Value} (hF:EB w g a b c d e f h k) (hb:Below w.heap.size w w'):EB w' g a b c d e f h k:=(hb.block g (Array.getElem?_eq_some_iff.1 hF).1).trans hF
theorem EB.cells {w:World} {g:Nat} {a b c d e f h k:Value} (hF:EB w g a b c d e f h k):w.cell? ⟨g,0,none⟩=some a∧w.cell? ⟨g,1,none⟩=some b∧w.cell? ⟨g,2,none⟩=some c∧w.cell? ⟨g,3,none⟩=some d∧w.cell? ⟨g,4,none⟩=some e∧w.cell? ⟨g,5,none⟩=some f∧w.cell? ⟨g,6,none⟩=some h∧w.cell? ⟨g,7,none⟩=some k:=by
 refine⟨?_,?_,?_,?_,?_,?_,?_,?_⟩ <;> (rw [cell_of_row _ _ _ _ _ _ hF];rfl)
theorem entry_box (w:World) (a b c d e f h k:Value):∃ w2,w.alloc (.cells #[a,b,c,d,e,f,h,k] 159)=w2∧EB w2 w.heap.size a b c d e f h k∧w.heap.size < w2.heap.size∧Below w.heap.size w w2:=
 ⟨_,rfl,heap_alloc_new _ _,by simp,boxed _ _⟩
theorem en_row (w:World) (x:WsL) (cs:Array Value) (hcs:cs.toList=enc x):RD (w.alloc (.cells cs 159)) (w.alloc (.cells cs 159)).heap.size 8 (some ⟨w.heap.size,0,none⟩) 1 (enc x):=by
 refine⟨rfl,fun _=>⟨_,_,rfl,by rw [World.size_alloc];omega,fun j u hu=>?_⟩⟩
 rw [Nat.zero_add,World.cell?_alloc_new,←Array.getElem?_toList,hcs]
 exact hu
theorem entries_any (A:Option Addr) (n c:Nat) (L:List WsL) (w:World) (hr:RW w w.heap.size A L) (hn:L.length=n) (hl:n < 1073741824):
 Calls Tryz.prog 77 #[.slice A n c] w fun e w'=>∃ A' c',e= .returned (.slice A' n c')∧RE w' w'.heap.size A' L∧Below w.heap.size w w':=by
 obtain⟨i0,hi0,hz0,hz1,hz2⟩:=info_parts eninfo
 have HR:=hide hr
 have Hn:=hide hn
 clear hr hn
 go_enter Tryz.func77,Tryz.ntmps77
 go_wp2_with fail
 go_loopw [2,7] (fun v i wr=>∃ (j:Nat) (A':Option Addr) (c':Nat),j≤n∧i= .int .i64 (j:Int)∧v= .slice A' j c'∧Hid (wr.ownsRow w.heap.size 159 8 (.slice A' j c') j (ens (L.take j)))∧Below w.heap.size w wr) (fun _ i _=>n - (intOf i).toNat)
 case atStart=>exact⟨0,none,0,by omega,rfl,rfl,hide (World.ownsRow_nil _ _ _ _),Below.refl _ _⟩
 case round=>
  obtain⟨j,A',c',hj,rfl,rfl,HO,hb⟩:=hrel
  by_cases hlt:j < n
  ·have hltL:j < L.length:=by rw [Hn.out];exact hlt
   have z0:(j:Int) < n:=by omega
   have zj:(0:Int)≤j:=by omega
   obtain⟨bb,bo,rfl,hB,hC⟩:=RW.cell (HR.out.below hb) (by omega)
   obtain⟨d0,d1,d2,d3,d4,d5,d6⟩:=hC j hltL
   obtain⟨x,hx⟩:∃ x,L[j]=x:=⟨_,rfl⟩
   rw [hx] at d0 d1 d2 d3 d4 d5 d6
   have T0:=hide (show ens (L.take (j+1))=ens (L.take j)++enc x by rw [List.take_succ_eq_append_getElem hltL,hx,ens_append];simp [ens])
   obtain⟨w1,hw1,F1,hs1,hb1⟩:=wish_box wr (.int .u32 x.t) (.int .u8 x.r) (.bool x.rd) (.slice x.hA x.h.length x.hc) (.bool x.kn) (.slice x.sA x.s.length x.sc) (.slice x.gA x.g.length x.gc)
   obtain⟨a0,a1,a2,a3,a4,a5,a6⟩:=F1.cells
   have hb01:=fresh hb hb1
   have hown:=own_below (own_below HO.out hb1 (Nat.le_refl _)) (boxed w1 (.cells #[.int .u32 x.t,.int .u8 x.r,.bool x.rd,.bool false,.int .i64 0,.bool x.kn,.slice x.sA x.s.length x.sc,.slice x.gA x.g.length x.gc] 159)) (Nat.le_refl _)
   have hrow:=en_row w1 x #[.int .u32 x.t,.int .u8 x.r,.bool x.rd,.bool false,.int .i64 0,.bool x.kn,.slice x.sA x.s.length x.sc,.slice x.gA x.g.length x.gc] rfl
   have hbx:=boxed w1 (.cells #[.int .u32 x.t,.int .u8 x.r,.bool x.rd,.bool false,.int .i64 0,.bool x.kn,.slice x.sA x.s.length x.sc,.slice x.gA x.g.length x.gc] 159)
   have hbase:=Nat.le_trans hb01.size hbx.size
   clear hC hx F1 HO
   go_wp2_with (at_builtin;refine wpList_append_held _ rfl (.tmp 11) (.tmp 23) 115 rfl w.heap.size 159 i0 (.agg #[.int .u32 0,.int .u8 0,.bool false,.bool false,.int .i64 0,.bool false,.slice none 0 0,.slice none 0 0]) 8 80 Tryz.underlying115 hi0 hz0 hz1 hz2 rfl (by decide) _ j (ens (L.take j)) rfl hown _ (some ⟨w1.heap.size,0,none⟩) 1 1 (enc x) rfl hrow (enc_one x) (by omega) (by decide) hbase ?_;intro v3 w3 hown3 hb3 hk3;obtain⟨A3,c3,rfl,-,-,-⟩:=own_slice hown3)
   go_roundw
   case rel=>exact⟨j+1,A3,c3,by omega,by go_num,rfl,hide (by rw [T0.out];exact hown3),((hb01.trans (hbx.mono hb01.size)).trans hb3)⟩
   case measure=>simp [intOf];omega
  ·have z0:¬ (j:Int) < n:=by omega
   obtain rfl:j=n:=by omega
   rw [List.take_of_length_le (by rw [Hn.out];omega)] at HO
   go_wp2_with fail
   go_ret
   refine⟨A',⟨c',rfl⟩,⟨by have:=RD.of_own HO.out;rwa [←Hn.out] at this,fun x hx=>?_⟩,hb⟩
   have h:=((HR.out.below hb).more hb.size).2 x hx
   exact⟨h.2.1,h.2.2⟩
end Go.Proofs.YtmkpfdcnikgokaaGreat
