/-
  Texts of this claim, put together: OpSame, MailEq, Wishes. What each theorem asks stands in its statement.
-/
import Derived.Test.YtmkpfdcnikgokaaGreatMd3
import Derived.Test.YtmkpfdcnikgokaaGreatMd6
import Derived.Test.YtmkpfdcnikgokaaGreatMd7
import Derived.Test.YtmkpfdcnikgokaaGreatMd11
set_option linter.unusedVariables false
set_option linter.unusedSimpArgs false
set_option maxRecDepth 100000
set_option maxHeartbeats 25600000
namespace Go.Proofs.YtmkpfdcnikgokaaGreat
open Go.RowKit
theorem Ws (k t r z k' t' r' z':Int) (A B:Option Addr) (n m c d:Nat) (p q:List Rn) (w:World) (hr:RR w w.heap.size A p) (hs:RR w w.heap.size B q) (hn:p.length=n) (hm:q.length=m) (hl:n < 1073741824) (NH:m < 1073741824):
 Calls Tryz.prog 75 #[Gq k t r A n c z,Gq k' t' r' B m d z'] w fun e w'=>e= .returned (.bool (decide (k=k'/\t=t'/\r=r'/\p=q/\z=z')))/\Below w.heap.size w w':=by
 obtain⟨w1,au,a0,a1,a2,a3,a4,af,ac⟩:=D7 w (.int .u8 k) (.int .u32 t) (.int .u8 r) (.slice A n c) (.int .i64 z) 104;obtain⟨w2,fc,b0,b1,b2,b3,b4,cd,ae⟩:=D7 w1 (.int .u8 k') (.int .u32 t') (.int .u8 r') (.slice B m d) (.int .i64 z') 104;have al:=Ad ac ae;replace a0:=Ac ae af a0;replace a1:=Ac ae af a1;replace a2:=Ac ae af a2;replace a3:=Ac ae af a3;replace a4:=Ac ae af a4;replace af:=Nat.lt_of_lt_of_le af ae.size;have C:=Aa (Yo A B c d n m p q w2 (hr.below' al) (hs.below' al) hn hm hl NH);clear hr hs hn hm hl NH;obtain⟨g1,ua⟩:∃ g,g=w1.heap.size:=⟨_,rfl⟩;have hc:((k == k')=false/\¬ k=k')\/((k == k')=true/\k=k'/\(((t == t')=false/\¬ t=t')\/((t == t')=true/\t=t'/\(((r == r')=false/\¬ r=r')\/((r == r')=true/\r=r'/\(((z == z')=false/\¬ z=z')\/((z == z')=true/\z=z'))))))):=by
  simp only [beq_iff_eq,beq_eq_false_iff_ne,ne_eq];omega
 clear ua g1;rcases hc with⟨c1,e1⟩ | ⟨c1,e1,⟨c2,e2⟩ | ⟨c2,e2,⟨c3,e3⟩ | ⟨c3,e3,⟨c4,e4⟩ | ⟨c4,e4⟩⟩⟩⟩
 ·have hf:=Aa (show decide (k=k'/\t=t'/\r=r'/\p=q/\z=z')=false from decide_eq_false fun h=>e1 (by simp only [h]));clear e1;go_enter Tryz.func75,Tryz.ntmps75;go_wp2_with fail;go_ret;exact⟨Ae hf.out.symm,al⟩
 ·have hf:=Aa (show decide (k=k'/\t=t'/\r=r'/\p=q/\z=z')=false from decide_eq_false fun h=>e2 (by simp only [h]));clear e1 e2;go_enter Tryz.func75,Tryz.ntmps75;go_wp2_with fail;go_ret;exact⟨Ae hf.out.symm,al⟩
 ·have hf:=Aa (show decide (k=k'/\t=t'/\r=r'/\p=q/\z=z')=false from decide_eq_false fun h=>e3 (by simp only [h]));clear e1 e2 e3;go_enter Tryz.func75,Tryz.ntmps75;go_wp2_with fail;go_ret;exact⟨Ae hf.out.symm,al⟩
 ·have hf:=Aa (show decide (k=k'/\t=t'/\r=r'/\p=q/\z=z')=false from decide_eq_false fun h=>e4 (by simp only [h]));clear e1 e2 e3 e4;go_enter Tryz.func75,Tryz.ntmps75;go_wp2_with fail;go_ret;exact⟨Ae hf.out.symm,al⟩
 ·have hf:=Aa (show decide (k=k'/\t=t'/\r=r'/\p=q/\z=z')=decide (p=q) from decide_eq_decide.2 ⟨fun h=>h.2.2.2.1,fun h=>⟨e1,e2,e3,h,e4⟩⟩);clear e1 e2 e3 e4;go_enter Tryz.func75,Tryz.ntmps75;go_wp2_with fail;refine C.out.mono ?_;rintro e w3 ⟨rfl,ag⟩;go_wp2_with fail;go_ret;exact⟨Ae (by rw [hf.out]),Ad al ag⟩
theorem Aam (A B:Option Addr) (c d n k:Nat) (L M:List Aq) (w:World) (hr:RT w w.heap.size A L) (hs:RT w w.heap.size B M) (hn:L.length=n) (hk:M.length=k) (hl:n < 1073741824) (ho:∀ x∈L,M1 x):
 Calls Tryz.prog 114 #[.slice A n c,.slice B k d,.func (.func 115) #[] #[]] w fun e w'=>e= .returned (.bool (decide (L.map Aq.pt=M.map Aq.pt)))/\Below w.heap.size w w':=by
 subst hn hk;by_cases ak:(L.length:Int)=(M.length:Int)
 ·have E:=Aa (show L.length=M.length by omega);have ng:((L.length:Int) == (M.length:Int))=true:=by simpa using ak
  have ot:((L.length:Int) != (M.length:Int))=false:=by simpa using ak
  have HR:=Aa hr;have HS:=Aa hs;clear ak hr hs;go_enter Tryz.func114,Tryz.ntmps114;go_wp2_with fail
  go_loopw [17] (fun i wr=>∃ j:Nat,j<=L.length/\i= .int .i64 (j:Int)/\Hid ((L.take j).map Aq.pt=(M.take j).map Aq.pt)/\Below w.heap.size w wr) (fun i _=>L.length - (intOf i).toNat)
  case atStart=>exact⟨0,by omega,rfl,Aa rfl,Below.refl _ _⟩
  case round=>
   obtain⟨j,hj,rfl,hT,hb⟩:=hrel;by_cases ai:j < L.length
   ·have di:j < M.length:=by have:=E.out;omega
    have z0:(j:Int) < L.length:=by omega
    have z1:(j:Int) < M.length:=by omega
    have z4:(0:Int)<=j:=by omega
    obtain⟨x,hx⟩:∃ x,L[j]=x:=⟨_,rfl⟩;obtain⟨y,hy⟩:∃ x,M[j]=x:=⟨_,rfl⟩;have ba:x∈L:=by rw [<-hx];exact List.getElem_mem ai
    have m9:y∈M:=by rw [<-hy];exact List.getElem_mem di
    obtain⟨p0,o0,rfl,py,er⟩:=RT.cell (HR.out.below hb) (by omega);obtain⟨d0,d1⟩:=er j ai;rw [hx] at d0 d1;obtain⟨w1,au,F1,af,ac⟩:=Dr wr (.int .u8 x.R) (.slice x.A x.s.length x.c) 123;obtain⟨w2,fc,F2,cd,ae⟩:=Dr w1 (.int .u8 y.R) (.slice y.A y.s.length y.c) 123;have vf:=Ad hb ac;have gk:=Ad vf ae;obtain⟨p1,o1,rfl,eb,kh⟩:=RT.cell (HS.out.below vf) (by omega);obtain⟨e0,e1⟩:=kh j di;rw [hy] at e0 e1;obtain⟨a0,a1⟩:=(F1.below ae).cells;obtain⟨b0,b1⟩:=F2.cells;have RX:=(HR.out.below gk).more gk.size;have RY:=(HS.out.below gk).more gk.size;have HP:=Aa (Acf x y x.s.length y.s.length w2 (RX.2 x ba) (RY.2 y m9) rfl rfl (ho x ba).2.2.2);obtain⟨bv,iu⟩:∃ q,decide (Aq.pt x=Aq.pt y)=q:=⟨_,rfl⟩;rw [iu] at HP;clear er kh F1 F2 RX RY;cases bv
    ·have hf:=Aa (show decide (L.map Aq.pt=M.map Aq.pt)=false by
      rw [decide_eq_false_iff_not]
      intro e
      have h1:(L.map Aq.pt)[j]?=(M.map Aq.pt)[j]?:=by rw [e]
      rw [List.getElem?_map,List.getElem?_map,List.getElem?_eq_getElem ai,List.getElem?_eq_getElem di,hx,hy] at h1
      simp only [Option.map_some,Option.some.injEq] at h1
      exact (decide_eq_false_iff_not.1 iu) h1)
     clear hx hy ba m9 iu;go_wp2_with fail;refine HP.out.mono ?_;rintro e w3 ⟨rfl,ag⟩;clear d0 d1 e0 e1 a0 a1 b0 b1;go_wp2_with fail;go_ret;exact⟨Ae hf.out.symm,Ad gk ag⟩
    ·have IY:=Aa (show (L.take (j+1)).map Aq.pt=(M.take (j+1)).map Aq.pt by
      rw [List.take_succ_eq_append_getElem ai,List.take_succ_eq_append_getElem di,List.map_append,List.map_append,hT.out,hx,hy]
      simp only [List.map_cons,List.map_nil]
      rw [of_decide_eq_true iu])
     clear hx hy ba m9 iu;go_wp2_with fail;refine HP.out.mono ?_;rintro e w3 ⟨rfl,ag⟩;clear d0 d1 e0 e1 a0 a1 b0 b1;go_wp2_with fail;go_roundw
     case rel=>exact⟨j+1,by omega,by go_num,IY,Ad gk ag⟩
     case measure=>simp [intOf];omega
   ·have qv:¬ (j:Int) < L.length:=by omega
    have fin:=Aa (show decide (L.map Aq.pt=M.map Aq.pt)=true by
     have h1:=hT.out
     rw [List.take_of_length_le (by omega),List.take_of_length_le (by have:=E.out;omega)] at h1
     exact decide_eq_true h1)
    go_wp2_with fail;go_ret;exact⟨Ae fin.out.symm,hb⟩
 ·have ng:((L.length:Int) == (M.length:Int))=false:=by simpa using ak
  have ot:((L.length:Int) != (M.length:Int))=true:=by simpa using ak
  have fin:=Aa (show decide (L.map Aq.pt=M.map Aq.pt)=false by
   rw [decide_eq_false_iff_not]
   intro e
   have h1:=congrArg List.length e
   rw [List.length_map,List.length_map] at h1
   exact ak (by rw [h1]))
  clear ak;go_enter Tryz.func114,Tryz.ntmps114;go_wp2_with fail;go_ret;exact⟨Ae fin.out.symm,Below.refl _ _⟩
theorem Lx (A B:Option Addr) (c d n k:Nat) (L M:List Aq) (w:World) (hr:RT w w.heap.size A L) (hs:RT w w.heap.size B M) (hn:L.length=n) (hk:M.length=k) (hl:n < 1073741824) (ho:∀ x∈L,M1 x):
 Calls Tryz.prog 73 #[.slice A n c,.slice B k d] w fun e w'=>e= .returned (.bool (decide (L.map Aq.pt=M.map Aq.pt)))/\Below w.heap.size w w':=by
 have C:=Aa (Aam A B c d n k L M w hr hs hn hk hl ho);clear hn hk;go_enter Tryz.func73,Tryz.ntmps73;go_wp2_with fail;refine (Ag C).mono ?_;rintro e w1 ⟨rfl,ac⟩;go_wp2_with fail;go_ret;exact⟨rfl,ac⟩
theorem Yw (x y:Bj) (w:World) (hr:RR w w.heap.size x.A x.p) (hs:RR w w.heap.size y.A y.p) (hl:x.p.length < 1073741824) (NH:y.p.length < 1073741824):
 Calls Tryz.prog 75 #[Gq x.k x.t x.r x.A x.p.length x.c x.z,Gq y.k y.t y.r y.A y.p.length y.c y.z] w fun e w'=>e= .returned (.bool (decide (Bj.op x=Bj.op y)))/\Below w.heap.size w w':=by
 refine (Ws x.k x.t x.r x.z y.k y.t y.r y.z x.A y.A x.p.length y.p.length x.c y.c x.p y.p w hr hs rfl rfl hl NH).mono ?_;rintro e w' ⟨rfl,hb⟩;refine⟨?_,hb⟩;have e:(x.k=y.k/\x.t=y.t/\x.r=y.r/\x.p=y.p/\x.z=y.z)=(Bj.op x=Bj.op y):=by simp only [Bj.op,Prod.mk.injEq]
 simp only [e]
theorem Aa4 (A B:Option Addr) (c d n k:Nat) (L M:List Bj) (w:World) (hr:RO w w.heap.size A L) (hs:RO w w.heap.size B M) (hn:L.length=n) (hk:M.length=k) (hl:n < 1073741824) (ho:∀ x∈L,x.p.length < 1073741824) (QD:∀ x∈M,x.p.length < 1073741824):
 Calls Tryz.prog 74 #[.slice A n c,.slice B k d,.func (.func 75) #[] #[]] w fun e w'=>e= .returned (.bool (decide (L.map Bj.op=M.map Bj.op)))/\Below w.heap.size w w':=by
 subst hn hk;by_cases ak:(L.length:Int)=(M.length:Int)
 ·have E:=Aa (show L.length=M.length by omega);have ng:((L.length:Int) == (M.length:Int))=true:=by simpa using ak
  have ot:((L.length:Int) != (M.length:Int))=false:=by simpa using ak
  have HR:=Aa hr;have HS:=Aa hs;clear ak hr hs;go_enter Tryz.func74,Tryz.ntmps74;go_wp2_with fail
  go_loopw [17] (fun i wr=>∃ j:Nat,j<=L.length/\i= .int .i64 (j:Int)/\Hid ((L.take j).map Bj.op=(M.take j).map Bj.op)/\Below w.heap.size w wr) (fun i _=>L.length - (intOf i).toNat)
  case atStart=>exact⟨0,by omega,rfl,Aa rfl,Below.refl _ _⟩
  case round=>
   obtain⟨j,hj,rfl,hT,hb⟩:=hrel;by_cases ai:j < L.length
   ·have di:j < M.length:=by have:=E.out;omega
    have z0:(j:Int) < L.length:=by omega
    have z1:(j:Int) < M.length:=by omega
    have z4:(0:Int)<=j:=by omega
    obtain⟨x,hx⟩:∃ x,L[j]=x:=⟨_,rfl⟩;obtain⟨y,hy⟩:∃ x,M[j]=x:=⟨_,rfl⟩;have ba:x∈L:=by rw [<-hx];exact List.getElem_mem ai
    have m9:y∈M:=by rw [<-hy];exact List.getElem_mem di
    obtain⟨p0,o0,rfl,py,er⟩:=RO.cell (HR.out.below hb) (by omega);obtain⟨d0,d1,d2,d3,d4⟩:=er j ai;rw [hx] at d0 d1 d2 d3 d4;obtain⟨w1,au,F1,af,ac⟩:=Cv wr (.int .u8 x.k) (.int .u32 x.t) (.int .u8 x.r) (.slice x.A x.p.length x.c) (.int .i64 x.z);obtain⟨w2,fc,F2,cd,ae⟩:=Cv w1 (.int .u8 y.k) (.int .u32 y.t) (.int .u8 y.r) (.slice y.A y.p.length y.c) (.int .i64 y.z);have vf:=Ad hb ac;have gk:=Ad vf ae;obtain⟨p1,o1,rfl,eb,kh⟩:=RO.cell (HS.out.below vf) (by omega);obtain⟨e0,e1,e2,e3,e4⟩:=kh j di;rw [hy] at e0 e1 e2 e3 e4;obtain⟨a0,a1,a2,a3,a4⟩:=(F1.below ae).cells;obtain⟨b0,b1,b2,b3,b4⟩:=F2.cells;have RX:=(HR.out.below gk).more gk.size;have RY:=(HS.out.below gk).more gk.size;have HP:=Aa (Yw x y w2 (RX.2 x ba) (RY.2 y m9) (ho x ba) (QD y m9));obtain⟨bv,iu⟩:∃ q,decide (Bj.op x=Bj.op y)=q:=⟨_,rfl⟩;rw [iu] at HP;clear er kh F1 F2 RX RY;cases bv
    ·have hf:=Aa (show decide (L.map Bj.op=M.map Bj.op)=false by
      rw [decide_eq_false_iff_not]
      intro e
      have h1:(L.map Bj.op)[j]?=(M.map Bj.op)[j]?:=by rw [e]
      rw [List.getElem?_map,List.getElem?_map,List.getElem?_eq_getElem ai,List.getElem?_eq_getElem di,hx,hy] at h1
      simp only [Option.map_some,Option.some.injEq] at h1
      exact (decide_eq_false_iff_not.1 iu) h1)
     clear hx hy ba m9 iu;go_wp2_with fail;refine HP.out.mono ?_;rintro e w3 ⟨rfl,ag⟩;clear d0 d1 d2 d3 d4 e0 e1 e2 e3 e4 a0 a1 a2 a3 a4 b0 b1 b2 b3 b4;go_wp2_with fail;go_ret;exact⟨Ae hf.out.symm,Ad gk ag⟩
    ·have IY:=Aa (show (L.take (j+1)).map Bj.op=(M.take (j+1)).map Bj.op by
      rw [List.take_succ_eq_append_getElem ai,List.take_succ_eq_append_getElem di,List.map_append,List.map_append,hT.out,hx,hy]
      simp only [List.map_cons,List.map_nil]
      rw [of_decide_eq_true iu])
     clear hx hy ba m9 iu;go_wp2_with fail;refine HP.out.mono ?_;rintro e w3 ⟨rfl,ag⟩;clear d0 d1 d2 d3 d4 e0 e1 e2 e3 e4 a0 a1 a2 a3 a4 b0 b1 b2 b3 b4;go_wp2_with fail;go_roundw
     case rel=>exact⟨j+1,by omega,by go_num,IY,Ad gk ag⟩
     case measure=>simp [intOf];omega
   ·have qv:¬ (j:Int) < L.length:=by omega
    have fin:=Aa (show decide (L.map Bj.op=M.map Bj.op)=true by
     have h1:=hT.out
     rw [List.take_of_length_le (by omega),List.take_of_length_le (by have:=E.out;omega)] at h1
     exact decide_eq_true h1)
    go_wp2_with fail;go_ret;exact⟨Ae fin.out.symm,hb⟩
 ·have ng:((L.length:Int) == (M.length:Int))=false:=by simpa using ak
  have ot:((L.length:Int) != (M.length:Int))=true:=by simpa using ak
  have fin:=Aa (show decide (L.map Bj.op=M.map Bj.op)=false by
   rw [decide_eq_false_iff_not]
   intro e
   have h1:=congrArg List.length e
   rw [List.length_map,List.length_map] at h1
   exact ak (by rw [h1]))
  clear ak;go_enter Tryz.func74,Tryz.ntmps74;go_wp2_with fail;go_ret;exact⟨Ae fin.out.symm,Below.refl _ _⟩
theorem Nl {α:Type} (f:α->List Value) (k:Nat) (hf:∀ x,(f x).length=k) (L:List α):(L.flatMap f).length=L.length * k:=by
 induction L with
 | nil=>simp
 | cons a l ih=>rw [List.flatMap_cons,List.length_append,ih,hf,List.length_cons,Nat.succ_mul];omega
theorem Hk {α:Type} (f:α->List Value) (k:Nat) (hf:∀ x,(f x).length=k) (L:List α):∀ (i:Nat) (h:i < L.length) (j:Nat),j < k->(L.flatMap f)[i * k+j]?=(f L[i])[j]?:=by
 induction L with
 | nil=>intro i h;simp at h
 | cons a l ih=>
   intro i h j hj;rw [List.flatMap_cons]
   cases i with
   | zero=>
     rw [Nat.zero_mul,Nat.zero_add,List.getElem?_append_left (by rw [hf];exact hj)];rfl
   | succ i=>
     rw [List.getElem?_append_right (by rw [hf,Nat.succ_mul];omega),hf,show (i+1) * k+j - k=i * k+j by rw [Nat.succ_mul];omega];exact ih i (by simpa using h) j hj
def Jw (L:List Ay):List Value:=L.flatMap Ay.cells
theorem Aca (L:List Ay):(Jw L).length=L.length * 7:=Nl Ay.cells 7 (fun _=>rfl) L
theorem Vz (L M:List Ay):Jw (L++M)=Jw L++Jw M:=by simp [Jw]
theorem Ps (x:Ay):∀ u∈x.cells,u.oneCell'=true:=by
 intro u hu;simp only [Ay.cells,List.mem_cons,List.not_mem_nil,or_false] at hu;rcases hu with rfl | rfl | rfl | rfl | rfl | rfl | rfl <;> rfl
def M3 (w:World) (B:Nat) (A:Option Addr) (l:List Bool):Prop:=RD w B 1 A l.length (N6 l)
theorem M3.cell {w:World} {B:Nat} {A:Option Addr} {l:List Bool} (h:M3 w B A l) (hl:0 < l.length):∃ b off,A=some ⟨b,off,none⟩/\b < B/\∀ j (hj:j < l.length),w.cell? ⟨b,off+j,none⟩=some (.bool l[j]):=by
 obtain⟨b,off,e,hb,hc⟩:=h.2 hl;refine⟨b,off,e,hb,fun j hj=>hc j _ ?_⟩;simp [N6,hj]
def RW (w:World) (B:Nat) (A:Option Addr) (L:List Ay):Prop:=RD w B 7 A L.length (Jw L)/\∀ x∈L,RT w B x.hA x.h/\RT w B x.sA x.s/\M3 w B x.gA x.g
theorem RW.below {w w':World} {B:Nat} {A:Option Addr} {L:List Ay} (h:RW w B A L) (hb:Below B w w'):RW w' B A L:=⟨RD.below h.1 hb,fun x hx=>⟨(h.2 x hx).1.below hb,(h.2 x hx).2.1.below hb,RD.below (h.2 x hx).2.2 hb⟩⟩
theorem RW.more {w:World} {B B':Nat} {A:Option Addr} {L:List Ay} (h:RW w B A L) (hB:B<=B'):RW w B' A L:=⟨RD.more h.1 hB,fun x hx=>⟨(h.2 x hx).1.more hB,(h.2 x hx).2.1.more hB,RD.more (h.2 x hx).2.2 hB⟩⟩
theorem RW.nil (w:World) (B:Nat) (A:Option Addr):RW w B A []:=⟨RD.nil_,fun x hx=>by cases hx⟩
theorem RW.cell {w:World} {B:Nat} {A:Option Addr} {L:List Ay} (h:RW w B A L) (hl:0 < L.length):∃ b off,A=some ⟨b,off,none⟩/\b < B/\∀ j (hj:j < L.length),
 w.cell? ⟨b,off+j * 7,none⟩=some (.int .u32 L[j].t)/\w.cell? ⟨b,off+j * 7+1,none⟩=some (.int .u8 L[j].r)/\w.cell? ⟨b,off+j * 7+2,none⟩=some (.bool L[j].rd)/\w.cell? ⟨b,off+j * 7+3,none⟩=some (.slice L[j].hA L[j].h.length L[j].hc)/\
 w.cell? ⟨b,off+j * 7+4,none⟩=some (.bool L[j].kn)/\w.cell? ⟨b,off+j * 7+5,none⟩=some (.slice L[j].sA L[j].s.length L[j].sc)/\w.cell? ⟨b,off+j * 7+6,none⟩=some (.slice L[j].gA L[j].g.length L[j].gc):=by
 obtain⟨b,off,e,hb,hc⟩:=h.1.2 hl;refine⟨b,off,e,hb,fun j hj=>?_⟩;have g:∀ i,i < 7->∀ u,(L[j].cells)[i]?=some u->w.cell? ⟨b,off+j * 7+i,none⟩=some u:=by
  intro i hi u hu;rw [Nat.add_assoc];exact hc _ _ (by rw [Jw,Hk _ 7 (fun _=>rfl) L j hj i hi,hu])
 exact⟨g 0 (by decide) _ rfl,g 1 (by decide) _ rfl,g 2 (by decide) _ rfl,g 3 (by decide) _ rfl,g 4 (by decide) _ rfl,g 5 (by decide) _ rfl,g 6 (by decide) _ rfl⟩
def enc (x:Ay):List Value:= [.int .u32 x.t,.int .u8 x.r,.bool x.rd,.bool false,.int .i64 0,.bool x.kn,.slice x.sA x.s.length x.sc,.slice x.gA x.g.length x.gc]
abbrev env (t r:Int) (rd kn:Bool) (s g:Value):Value:= .agg #[.int .u32 t,.int .u8 r,.bool rd,.bool false,.int .i64 0,.bool kn,s,g]
def Zt (L:List Ay):List Value:=L.flatMap enc
theorem W4 (L M:List Ay):Zt (L++M)=Zt L++Zt M:=by simp [Zt]
theorem Adf (x:Ay):∀ u∈enc x,u.oneCell'=true:=by
 intro u hu;simp only [enc,List.mem_cons,List.not_mem_nil,or_false] at hu;rcases hu with rfl | rfl | rfl | rfl | rfl | rfl | rfl | rfl <;> rfl
theorem Afd:(Tryz.prog.info? 159).map (fun i=>(i.zero,i.size,i.bytes))=some (some (.agg #[.int .u32 0,.int .u8 0,.bool false,.bool false,.int .i64 0,.bool false,.slice none 0 0,.slice none 0 0]),8,80):=by kernel_rfl
def RE (w:World) (B:Nat) (A:Option Addr) (L:List Ay):Prop:=RD w B 8 A L.length (Zt L)/\∀ x∈L,RT w B x.sA x.s/\M3 w B x.gA x.g
theorem RE.below {w w':World} {B:Nat} {A:Option Addr} {L:List Ay} (h:RE w B A L) (hb:Below B w w'):RE w' B A L:=⟨RD.below h.1 hb,fun x hx=>⟨(h.2 x hx).1.below hb,RD.below (h.2 x hx).2 hb⟩⟩
theorem RE.more {w:World} {B B':Nat} {A:Option Addr} {L:List Ay} (h:RE w B A L) (hB:B<=B'):RE w B' A L:=⟨RD.more h.1 hB,fun x hx=>⟨(h.2 x hx).1.more hB,RD.more (h.2 x hx).2 hB⟩⟩
theorem RE.cell {w:World} {B:Nat} {A:Option Addr} {L:List Ay} (h:RE w B A L) (hl:0 < L.length):∃ b off,A=some ⟨b,off,none⟩/\b < B/\∀ j (hj:j < L.length),
 w.cell? ⟨b,off+j * 8,none⟩=some (.int .u32 L[j].t)/\w.cell? ⟨b,off+j * 8+1,none⟩=some (.int .u8 L[j].r)/\w.cell? ⟨b,off+j * 8+2,none⟩=some (.bool L[j].rd)/\w.cell? ⟨b,off+j * 8+3,none⟩=some (.bool false)/\
 w.cell? ⟨b,off+j * 8+4,none⟩=some (.int .i64 0)/\w.cell? ⟨b,off+j * 8+5,none⟩=some (.bool L[j].kn)/\w.cell? ⟨b,off+j * 8+6,none⟩=some (.slice L[j].sA L[j].s.length L[j].sc)/\w.cell? ⟨b,off+j * 8+7,none⟩=some (.slice L[j].gA L[j].g.length L[j].gc):=by
 obtain⟨b,off,e,hb,hc⟩:=h.1.2 hl;refine⟨b,off,e,hb,fun j hj=>?_⟩;have g:∀ i,i < 8->∀ u,(enc L[j])[i]?=some u->w.cell? ⟨b,off+j * 8+i,none⟩=some u:=by
  intro i hi u hu;rw [Nat.add_assoc];exact hc _ _ (by rw [Zt,Hk _ 8 (fun _=>rfl) L j hj i hi,hu])
 exact⟨g 0 (by decide) _ rfl,g 1 (by decide) _ rfl,g 2 (by decide) _ rfl,g 3 (by decide) _ rfl,g 4 (by decide) _ rfl,g 5 (by decide) _ rfl,g 6 (by decide) _ rfl,g 7 (by decide) _ rfl⟩
def EB (w:World) (g:Nat) (a b c d e f h k:Value):Prop:=w.heap[g]?=some (.cells #[a,b,c,d,e,f,h,k] 159 (0,0))
theorem EB.below {w w':World} {g:Nat} {a b c d e f h k:Value} (hF:EB w g a b c d e f h k) (hb:Below w.heap.size w w'):EB w' g a b c d e f h k:=(hb.block g (Array.getElem?_eq_some_iff.1 hF).1).trans hF
theorem EB.cells {w:World} {g:Nat} {a b c d e f h k:Value} (hF:EB w g a b c d e f h k):w.cell? ⟨g,0,none⟩=some a/\w.cell? ⟨g,1,none⟩=some b/\w.cell? ⟨g,2,none⟩=some c/\w.cell? ⟨g,3,none⟩=some d/\w.cell? ⟨g,4,none⟩=some e/\w.cell? ⟨g,5,none⟩=some f/\w.cell? ⟨g,6,none⟩=some h/\w.cell? ⟨g,7,none⟩=some k:=by
 refine⟨?_,?_,?_,?_,?_,?_,?_,?_⟩ <;> (rw [cell_of_row _ _ _ _ _ _ hF];rfl)
theorem Df (w:World) (a b c d e f h k:Value):∃ w2,w.alloc (.cells #[a,b,c,d,e,f,h,k] 159)=w2/\EB w2 w.heap.size a b c d e f h k/\w.heap.size < w2.heap.size/\Below w.heap.size w w2:=
 ⟨_,rfl,heap_alloc_new _ _,by simp,Bf _ _⟩
theorem Afe (w:World) (x:Ay) (cs:Array Value) (fu:cs.toList=enc x):RD (w.alloc (.cells cs 159)) (w.alloc (.cells cs 159)).heap.size 8 (some ⟨w.heap.size,0,none⟩) 1 (enc x):=by
 refine⟨rfl,fun _=>⟨_,_,rfl,by rw [World.size_alloc];omega,fun j u hu=>?_⟩⟩;rw [Nat.zero_add,World.cell?_alloc_new,<-Array.getElem?_toList,fu];exact hu
theorem Kx (A:Option Addr) (n c:Nat) (L:List Ay) (w:World) (hr:RW w w.heap.size A L) (hn:L.length=n) (hl:n < 1073741824):
 Calls Tryz.prog 77 #[.slice A n c] w fun e w'=>∃ A' c',e= .returned (.slice A' n c')/\RE w' w'.heap.size A' L/\Below w.heap.size w w':=by
 obtain⟨i0,cr,cb,cu,cq⟩:=info_parts Afd;have HR:=Aa hr;have Hn:=Aa hn;clear hr hn;go_enter Tryz.func77,Tryz.ntmps77;go_wp2_with fail
 go_loopw [2,7] (fun v i wr=>∃ (j:Nat) (A':Option Addr) (c':Nat),j<=n/\i= .int .i64 (j:Int)/\v= .slice A' j c'/\Hid (wr.ownsRow w.heap.size 159 8 (.slice A' j c') j (Zt (L.take j)))/\Below w.heap.size w wr) (fun _ i _=>n - (intOf i).toNat)
 case atStart=>exact⟨0,none,0,by omega,rfl,rfl,Aa (World.ownsRow_nil _ _ _ _),Below.refl _ _⟩
 case round=>
  obtain⟨j,A',c',hj,rfl,rfl,HO,hb⟩:=hrel;by_cases ai:j < n
  ·have ap:j < L.length:=by rw [Hn.out];exact ai
   have z0:(j:Int) < n:=by omega
   have zj:(0:Int)<=j:=by omega
   obtain⟨bb,bo,rfl,hB,hC⟩:=RW.cell (HR.out.below hb) (by omega);obtain⟨d0,d1,d2,d3,d4,d5,d6⟩:=hC j ap;obtain⟨x,hx⟩:∃ x,L[j]=x:=⟨_,rfl⟩;rw [hx] at d0 d1 d2 d3 d4 d5 d6;have T0:=Aa (show Zt (L.take (j+1))=Zt (L.take j)++enc x by rw [List.take_succ_eq_append_getElem ap,hx,W4];simp [Zt]);obtain⟨w1,au,F1,af,ac⟩:=Ct wr (.int .u32 x.t) (.int .u8 x.r) (.bool x.rd) (.slice x.hA x.h.length x.hc) (.bool x.kn) (.slice x.sA x.s.length x.sc) (.slice x.gA x.g.length x.gc);obtain⟨a0,a1,a2,a3,a4,a5,a6⟩:=F1.cells;have r4:=Ad hb ac;have ah:=Ai (Ai HO.out ac (Nat.le_refl _)) (Bf w1 (.cells #[.int .u32 x.t,.int .u8 x.r,.bool x.rd,.bool false,.int .i64 0,.bool x.kn,.slice x.sA x.s.length x.sc,.slice x.gA x.g.length x.gc] 159)) (Nat.le_refl _);have jf:=Afe w1 x #[.int .u32 x.t,.int .u8 x.r,.bool x.rd,.bool false,.int .i64 0,.bool x.kn,.slice x.sA x.s.length x.sc,.slice x.gA x.g.length x.gc] rfl;have el:=Bf w1 (.cells #[.int .u32 x.t,.int .u8 x.r,.bool x.rd,.bool false,.int .i64 0,.bool x.kn,.slice x.sA x.s.length x.sc,.slice x.gA x.g.length x.gc] 159);have ao:=Nat.le_trans r4.size el.size;clear hC hx F1 HO;go_wp2_with (at_builtin;refine Ar _ rfl (.tmp 11) (.tmp 23) 115 rfl w.heap.size 159 i0 (.agg #[.int .u32 0,.int .u8 0,.bool false,.bool false,.int .i64 0,.bool false,.slice none 0 0,.slice none 0 0]) 8 80 Tryz.underlying115 cr cb cu cq rfl (by decide) _ j (Zt (L.take j)) rfl ah _ (some ⟨w1.heap.size,0,none⟩) 1 1 (enc x) rfl jf (Adf x) (by omega) (by decide) ao ?_;intro v3 w3 dm ag ui;obtain⟨A3,c3,rfl,-,-,-⟩:=Ao dm);go_roundw
   case rel=>exact⟨j+1,A3,c3,by omega,by go_num,rfl,Aa (by rw [T0.out];exact dm),((r4.trans (el.mono r4.size)).trans ag)⟩
   case measure=>simp [intOf];omega
  ·have z0:¬ (j:Int) < n:=by omega
   obtain rfl:j=n:=by omega
   rw [List.take_of_length_le (by rw [Hn.out];omega)] at HO;go_wp2_with fail;go_ret;refine⟨A',⟨c',rfl⟩,⟨by have:=RD.of_own HO.out;rwa [<-Hn.out] at this,fun x hx=>?_⟩,hb⟩;have h:=((HR.out.below hb).more hb.size).2 x hx;exact⟨h.2.1,h.2.2⟩
end Go.Proofs.YtmkpfdcnikgokaaGreat
