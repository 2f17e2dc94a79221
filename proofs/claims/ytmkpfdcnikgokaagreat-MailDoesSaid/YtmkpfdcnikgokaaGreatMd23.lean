/-
  Texts of this claim, put together: TwinTm. What each theorem asks stands in its statement.
-/
import Derived.Test.YtmkpfdcnikgokaaGreatMd11
import Derived.Test.YtmkpfdcnikgokaaGreatMd22
set_option linter.unusedVariables false
set_option linter.unusedSimpArgs false
set_option maxRecDepth 100000
set_option maxHeartbeats 25600000
namespace Go.Proofs.YtmkpfdcnikgokaaGreat
open Go.RowKit
theorem We (A:Option Addr) (n c:Nat) (l:List Sp) (w:World) (hr:RS w w.heap.size A l) (hn:l.length=n) (hl:n < 1073741824):
 Calls Tryz.prog 81 #[.slice A n c] w fun e w'=>∃ v,e= .returned v/\w'.ownsRow w.heap.size 129 2 v l.length (Lp l)/\Below w.heap.size w w':=by
 subst hn;obtain⟨i0,cr,cb,cu,cq⟩:=info_parts R7;go_enter Tryz.func81,Tryz.ntmps81;go_wp2_with (at_builtin;refine Ba _ rfl (.tmp 4) (.tmp 5) 121 rfl w.heap.size 129 i0 (.agg #[.int .u32 0,.int .u32 0]) 2 8 Tryz.underlying121 cr cb cu cq rfl (by decide) _ 0 [] rfl (World.ownsRow_nil _ _ _ _) w.heap.size A l.length c (Lp l) rfl hr (Mg _) (by omega) (by decide) (Nat.le_refl _) ?_;intro v1 w1 aq ac;simp only [Nat.zero_add,List.nil_append] at aq);go_ret;exact⟨_,rfl,aq,ac⟩
theorem Qt (w:World) (a:Option Addr) (n c:Nat):(binOp .eql 121 (.slice a n c) (.slice none 0 0)).run Tryz.prog w= .ok (.bool a.isNone) w:=by
 simp only [binOp];simp [run_equal_slice_nil w 121 129 a n c Tryz.underlying121]
theorem RS.none_nil {w:World} {B:Nat} {l:List Sp} (h:RS w B none l):l= []:=by
 rcases Nat.eq_zero_or_pos l.length with h0 | h0
 ·exact List.eq_nil_of_length_eq_zero h0
 ·obtain⟨b,off,e,-⟩:=RS.cell h h0;cases e
theorem Aci (A:Option Addr) (n c:Nat) (l:List Sp) (w:World) (hr:RS w w.heap.size A l) (hn:l.length=n) (hl:n < 1073741824) (ff:A=none->c=0):
 Calls Tryz.prog 142 #[.slice A n c] w fun e w'=>∃ v,e= .returned v/\w'.ownsRow w.heap.size 129 2 v l.length (Lp l)/\Below w.heap.size w w':=by
 subst hn;obtain⟨i0,cr,cb,cu,cq⟩:=info_parts R7;rcases A with _ | a
 ·obtain rfl:=RS.none_nil hr;obtain rfl:=ff rfl;clear ff;have AH:=fun w:World=>Qt w none 0 0;go_enter Tryz.func142,Tryz.ntmps142;go_wp2_with fail;go_ret;exact⟨_,rfl,World.ownsRow_nil _ _ _ _,Below.refl _ _⟩
 ·clear ff;have AH:=fun w:World=>Qt w (some a) l.length c;go_enter Tryz.func142,Tryz.ntmps142;go_wp2_with (at_builtin;refine Ba _ rfl (.tmp 5) (.tmp 6) 121 rfl w.heap.size 129 i0 (.agg #[.int .u32 0,.int .u32 0]) 2 8 Tryz.underlying121 cr cb cu cq rfl (by decide) _ 0 [] rfl (Fx w _ _ _ (Nat.le_refl _)) w.heap.size (some a) l.length c (Lp l) rfl (RD.alloc hr (Nat.le_refl _) _) (Mg _) (by omega) (by decide) (by simp) ?_;intro v1 w1 aq ac;simp only [Nat.zero_add,List.nil_append] at aq);go_ret;exact⟨_,rfl,aq,(Bf w _).trans ac⟩
theorem Aed (A:Option Addr) (n c:Nat) (l:List Sp) (w:World) (hr:RS w w.heap.size A l) (hn:l.length=n) (hl:n < 1073741824) (ff:A=none->c=0):
 Calls Tryz.prog 105 #[.slice A n c] w fun e w'=>∃ v,e= .returned v/\w'.ownsRow w.heap.size 129 2 v l.length (Lp l)/\Below w.heap.size w w':=by
 have C:=Aa (Aci A n c l w hr hn hl ff);clear ff hn;go_enter Tryz.func105,Tryz.ntmps105;go_wp2_with fail;refine (Ag C).mono ?_;rintro e w1 ⟨v1,rfl,aq,ac⟩;go_wp2_with fail;go_ret;exact⟨_,rfl,aq,ac⟩
def Uq (bb bo n c j gs:Nat) (A':Option Addr) (c':Nat) (R:Int) (sA:Option Addr) (sc:Nat) (s:List Sp):List (Option (Nat×Value)):=
 [some (11,.slice A' j c'),some (12,.slice (some ⟨bb,bo,none⟩) n c),some (13,.int .i64 (j:Int)),some (14,.pointer (some ⟨bb,bo+j * 2,none⟩)),some (15,.pointer (some ⟨bb,bo+j * 2,none⟩)),some (16,.int .u8 R),some (17,.slice (some ⟨bb,bo,none⟩) n c),some (18,.int .i64 (j:Int)),some (19,.pointer (some ⟨bb,bo+j * 2,none⟩)),some (20,.pointer (some ⟨bb,bo+j * 2+1,none⟩)),some (21,.slice sA s.length sc),none,none,none,none,none]
def Bx:List (Option Nat):= [some 11,some 12,some 13,some 14,some 15,some 16,some 17,some 18,some 19,some 20,some 21,none,none,none,none,none]
theorem Gk:TB 0 11 22 12 23 13 24 14 25 15 3:=⟨by decide,by decide⟩
theorem Lz (A0:Option Addr) (n c:Nat) (L:List Aq) (w:World) (hr:RT w w.heap.size A0 L) (hn:L.length=n) (hl:n < 1000000) (hs:∀ x∈L,x.s.length < 1073741824):
 Calls Tryz.prog 46 #[.slice A0 n c] w fun e w'=>∃ A' c' L',e= .returned (.slice A' (List.length (α:=Aq) L') c')/\L'.map Aq.pt=L.map Aq.pt/\Da w' w.heap.size A' c' L'/\Below w.heap.size w w':=by
 have HR:=Aa hr;have Hn:=Aa hn;have Hs:=Aa hs;clear hr hn hs;go_enter Tryz.func46,Tryz.ntmps46;go_wp2_with fail
 go_loopw [3,4] (fun v i wr=>∃ (j:Nat) (A':Option Addr) (c':Nat) (L':List Aq),j<=n/\i= .int .i64 (j:Int)/\v= .slice A' j c'/\Hid (L'.length=j)/\Hid (L'.map Aq.pt=(L.take j).map Aq.pt)/\Hid (Da wr w.heap.size A' c' L')/\Below w.heap.size w wr) (fun _ i _=>n - (intOf i).toNat)
 case atStart=>exact⟨0,none,0, [],by omega,rfl,rfl,Aa rfl,Aa rfl,Aa (Da.nil _ _),Below.refl _ _⟩
 case round=>
  obtain⟨j,A',c',L',hj,rfl,rfl,tk,CP,hO,hb⟩:=hrel;by_cases ai:j < n
  ·have ap:j < L.length:=by rw [Hn.out];exact ai
   have z0:(j:Int) < n:=by omega
   have zj:(0:Int)<=j:=by omega
   have hRw:RT wr w.heap.size A0 L:=HR.out.below hb;obtain⟨bb,bo,rfl,FW,hC⟩:=RT.cell hRw (by omega);obtain⟨d0,d1⟩:=hC j ap;obtain⟨x,hx⟩:∃ x,L[j]=x:=⟨_,rfl⟩;rw [hx] at d0 d1;have ba:x∈L:=by rw [<-hx];exact List.getElem_mem ap
   have T0:=Aa (show (L.take (j+1)).map Aq.pt=(L.take j).map Aq.pt++ [x.pt] by rw [List.take_succ_eq_append_getElem ap,hx,List.map_append];rfl);obtain⟨R,sA,sc,s⟩:=x;simp only at d0 d1;have BO:s.length < 1073741824:=Hs.out _ ba;have og:=Aa (show RS w w.heap.size sA s from HR.out.2 _ ba);have gs:Nat:=0;clear hC hx ba hRw;go_wp2_with fail;refine Bc (fun done ρ W=>LI (Uq bb bo n c j gs A' c' R sA sc s) (fun _=>True) done ρ W/\TJ wr w.heap.size 5 10 0 11 22 12 23 13 24 14 25 15 3 A' c' L' R s (.slice A' j c') done ρ W) (by kernel_rfl) 27 rfl (by kernel_rfl) ?_ ?_ ?_
   ·exact⟨LI.start _ trivial,TJ.start (Below.refl _ _).drew (Below.refl _ _).drew (hO.out.below (Below.refl _ _).drew) rfl⟩
   ·refine⟨?_,?_,?_,?_,?_,?_,?_,?_,?_,?_,?_,?_,?_,?_,?_,?_,trivial⟩
    ·
     intro done ρ W hn hf hd h;have iy:w.heap.size<=W.heap.size:=Nat.le_trans hb.size h.2.b.size;have q0:=h.2.first hn;clear hf;refine Bd rfl fun R9 aj=>?_;go_simp;exact aj _ _ ⟨h.1.put Bx rfl (by decide) 0 11 _ rfl trivial,h.2.plain 0 11 _ (by decide) (by decide)⟩
    ·
     intro done ρ W hn hf hd h;have iy:w.heap.size<=W.heap.size:=Nat.le_trans hb.size h.2.b.size;have q0:ρ 0= .slice (some ⟨bb,bo,none⟩) n c:=hf 0 (by kernel_rfl);clear hf;refine Bd rfl fun R9 aj=>?_;go_simp;exact aj _ _ ⟨h.1.put Bx rfl (by decide) 1 12 _ rfl trivial,h.2.plain 1 12 _ (by decide) (by decide)⟩
    ·
     intro done ρ W hn hf hd h;have iy:w.heap.size<=W.heap.size:=Nat.le_trans hb.size h.2.b.size;have q0:ρ 4= .int .i64 (j:Int):=hf 4 (by kernel_rfl);clear hf;refine Bd rfl fun R9 aj=>?_;go_simp;exact aj _ _ ⟨h.1.put Bx rfl (by decide) 2 13 _ rfl trivial,h.2.plain 2 13 _ (by decide) (by decide)⟩
    ·
     intro done ρ W hn hf hd h;have iy:w.heap.size<=W.heap.size:=Nat.le_trans hb.size h.2.b.size;have q1:=h.1.get 1 12 _ rfl (hd 1 (by kernel_rfl));have q2:=h.1.get 2 13 _ rfl (hd 2 (by kernel_rfl));clear hf;refine Bd rfl fun R9 aj=>?_;go_simp;exact aj _ _ ⟨h.1.put Bx rfl (by decide) 3 14 _ rfl trivial,h.2.plain 3 14 _ (by decide) (by decide)⟩
    ·
     intro done ρ W hn hf hd h;have iy:w.heap.size<=W.heap.size:=Nat.le_trans hb.size h.2.b.size;have q3:=h.1.get 3 14 _ rfl (hd 3 (by kernel_rfl));clear hf;refine Bd rfl fun R9 aj=>?_;go_simp;exact aj _ _ ⟨h.1.put Bx rfl (by decide) 4 15 _ rfl trivial,h.2.plain 4 15 _ (by decide) (by decide)⟩
    ·
     intro done ρ W hn hf hd h;have iy:w.heap.size<=W.heap.size:=Nat.le_trans hb.size h.2.b.size;have q4:=h.1.get 4 15 _ rfl (hd 4 (by kernel_rfl));have d0:=I1 h.2.b FW d0;have d1:=I1 h.2.b FW d1;clear hf;refine Bd rfl fun R9 aj=>?_;go_simp;exact aj _ _ ⟨h.1.put Bx rfl (by decide) 5 16 _ rfl trivial,h.2.plain 5 16 _ (by decide) (by decide)⟩
    ·
     intro done ρ W hn hf hd h;have iy:w.heap.size<=W.heap.size:=Nat.le_trans hb.size h.2.b.size;have q0:ρ 0= .slice (some ⟨bb,bo,none⟩) n c:=hf 0 (by kernel_rfl);clear hf;refine Bd rfl fun R9 aj=>?_;go_simp;exact aj _ _ ⟨h.1.put Bx rfl (by decide) 6 17 _ rfl trivial,h.2.plain 6 17 _ (by decide) (by decide)⟩
    ·
     intro done ρ W hn hf hd h;have iy:w.heap.size<=W.heap.size:=Nat.le_trans hb.size h.2.b.size;have q0:ρ 4= .int .i64 (j:Int):=hf 4 (by kernel_rfl);clear hf;refine Bd rfl fun R9 aj=>?_;go_simp;exact aj _ _ ⟨h.1.put Bx rfl (by decide) 7 18 _ rfl trivial,h.2.plain 7 18 _ (by decide) (by decide)⟩
    ·
     intro done ρ W hn hf hd h;have iy:w.heap.size<=W.heap.size:=Nat.le_trans hb.size h.2.b.size;have q6:=h.1.get 6 17 _ rfl (hd 6 (by kernel_rfl));have q7:=h.1.get 7 18 _ rfl (hd 7 (by kernel_rfl));clear hf;refine Bd rfl fun R9 aj=>?_;go_simp;exact aj _ _ ⟨h.1.put Bx rfl (by decide) 8 19 _ rfl trivial,h.2.plain 8 19 _ (by decide) (by decide)⟩
    ·
     intro done ρ W hn hf hd h;have iy:w.heap.size<=W.heap.size:=Nat.le_trans hb.size h.2.b.size;have q8:=h.1.get 8 19 _ rfl (hd 8 (by kernel_rfl));clear hf;refine Bd rfl fun R9 aj=>?_;go_simp;exact aj _ _ ⟨h.1.put Bx rfl (by decide) 9 20 _ rfl trivial,h.2.plain 9 20 _ (by decide) (by decide)⟩
    ·
     intro done ρ W hn hf hd h;have iy:w.heap.size<=W.heap.size:=Nat.le_trans hb.size h.2.b.size;have q9:=h.1.get 9 20 _ rfl (hd 9 (by kernel_rfl));have d0:=I1 h.2.b FW d0;have d1:=I1 h.2.b FW d1;clear hf;refine Bd rfl fun R9 aj=>?_;go_simp;exact aj _ _ ⟨h.1.put Bx rfl (by decide) 10 21 _ rfl trivial,h.2.plain 10 21 _ (by decide) (by decide)⟩
    ·
     intro done ρ W hn hf hd h;have iy:w.heap.size<=W.heap.size:=Nat.le_trans hb.size h.2.b.size;have y8:=h.1.get 10 21 _ rfl (hd 10 (by kernel_rfl));have hd9:=hd 10 (by kernel_rfl);clear hf;refine Bd rfl fun R9 aj=>?_;go_simp;refine (We sA s.length sc s W ((og.out.below (hb.trans h.2.b)).more (hb.trans h.2.b).size) rfl BO).mono ?_;rintro e w' ⟨v',rfl,eh,de⟩;obtain⟨A2,c2,rfl,-,-,-⟩:=Ao eh;exact⟨_,rfl,aj _ _ ⟨h.1.skip Bx rfl 11 22 _ rfl rfl trivial,h.2.call Gk hn (hd9) iy eh de⟩⟩
    ·
     intro done ρ W hn hf hd h;have iy:w.heap.size<=W.heap.size:=Nat.le_trans hb.size h.2.b.size;have q5:=h.1.get 5 16 _ rfl (hd 5 (by kernel_rfl));have qc:=hd 11 (by kernel_rfl);obtain⟨A2,c2,e1,-,-,-⟩:=h.2.x qc (h.2.no.2.2.1 (h.2.no.2.1 hn));have hdR:=hd 5 (by kernel_rfl);clear hf;refine Bd rfl fun R9 aj=>?_;go_simp;exact aj _ _ ⟨h.1.skip Bx rfl 12 23 _ rfl rfl trivial,h.2.build Gk hn qc hdR (by rw [e1])⟩
    ·
     intro done ρ W hn hf hd h;have iy:w.heap.size<=W.heap.size:=Nat.le_trans hb.size h.2.b.size;have qb:=hd 12 (by kernel_rfl);obtain⟨A2,c2,-,-,e3,-⟩:=h.2.x (h.2.z1 qb) (h.2.no.2.2.1 hn);have e4:=e3 qb;clear hf;refine Bd rfl fun R9 aj=>?_;go_simp;exact aj _ _ ⟨h.1.skip Bx rfl 13 24 _ rfl rfl trivial,h.2.row Gk hn qb iy e4⟩
    ·
     intro done ρ W hn hf hd h;have iy:w.heap.size<=W.heap.size:=Nat.le_trans hb.size h.2.b.size;have qr:=hd 13 (by kernel_rfl);have YS:=hd 0 (by kernel_rfl);have q0:=h.1.get 0 11 _ rfl YS;obtain⟨A2,c2,-,e2,-,e5⟩:=h.2.x (h.2.z1 (h.2.z2 qr)) hn;obtain⟨q,e6,e7⟩:=e5 qr;clear hf;refine .inl ⟨rfl,Bt fun R9 aj=>?_⟩;refine Mv (.tmp 11) (.tmp 24) rfl (A:=A') (c:=c') (L:=L') (R:=R) (s:=s) (by rw [Jt,q0,tk.out]) (by rw [Jt];exact e6) (h.2.o hn) e2 e7 (by rw [tk.out];omega) iy fun A3 c3 w' ho de=>?_;exact aj _ _ ⟨h.1.skip Bx rfl 14 25 _ rfl rfl trivial,h.2.app Gk hn qr YS ho de⟩
    ·
     intro done ρ W hn hf hd h;have iy:w.heap.size<=W.heap.size:=Nat.le_trans hb.size h.2.b.size;have qa:=hd 14 (by kernel_rfl);clear hf;refine Bd rfl fun R9 aj=>?_;go_simp;exact aj _ _ ⟨h.1.skip Bx rfl 15 3 _ rfl rfl trivial,h.2.asg Gk qa rfl⟩
   ·intro a' w6 cz ay hf h;obtain⟨A2,c2,A3,c3,-,If,NJ⟩:=h.2.a (by kernel_rfl);have h_3:=NJ (by kernel_rfl);have bf:Below w.heap.size w w6:=hb.trans h.2.b;clear NJ;have h0:Ab a' 0= .slice (some ⟨bb,bo,none⟩) n c:=hf 0 (by kernel_rfl);have h1:Ab a' 1=undef:=hf 1 (by kernel_rfl);have h2:Ab a' 2= .slice none 0 0:=hf 2 (by kernel_rfl);have h4:Ab a' 4= .int .i64 (j:Int):=hf 4 (by kernel_rfl);have un:Ab a' 26=undef:=hf 26 (by kernel_rfl);obtain⟨T,D⟩:=a';have hD:D= []:=cz;subst hD;obtain⟨f,hT,df⟩:∃ f:Nat->Value,T=((List.range 27).map f).toArray/\Ab ⟨T, []⟩=f:=⟨_,Bm T 27 ay,rfl⟩;rw [df] at h_3 h0 h1 h2 h4 un;clear df ay hf h cz;simp only [List.range,List.range.loop,List.map] at hT;subst hT;rw [h_3,h0,h1,h2,h4,un];clear h_3 h0 h1 h2 h4 un;have fa:=Aa If;have si:L'.length+1=j+1:=by rw [tk.out]
    rw [si];clear si If;go_wp2_with fail;go_roundw
    case rel=>
     refine⟨j+1,A3,c3,L'++ [⟨R,A2,c2,s⟩],by omega,by go_num,rfl,Aa ?_,Aa ?_,fa,bf⟩
     ·rw [List.length_append,tk.out];rfl
     ·rw [T0.out,List.map_append,CP.out];rfl
    case measure=>simp [intOf];omega
  ·have z0:¬ (j:Int) < n:=by omega
   obtain rfl:j=n:=by omega
   rw [List.take_of_length_le (by rw [Hn.out];exact Nat.le_refl _)] at CP;have si:=tk.out;subst si;go_wp2_with fail;go_ret;exact⟨A',c',L',rfl,CP.out,hO.out,hb⟩
def Ace (bb bo n c j gs:Nat) (A':Option Addr) (c':Nat) (R:Int) (sA:Option Addr) (sc:Nat) (s:List Sp):List (Option (Nat×Value)):=
 [some (11,.slice A' j c'),some (12,.pointer (some ⟨gs,0,none⟩)),some (13,.int .u8 R),some (14,.pointer (some ⟨gs,1,none⟩)),some (15,.slice sA s.length sc),none,none,none,none,none]
def Gc:List (Option Nat):= [some 11,some 12,some 13,some 14,some 15,none,none,none,none,none]
theorem Me:TB 0 5 16 6 17 7 18 8 19 9 2:=⟨by decide,by decide⟩
theorem Vk (A0:Option Addr) (n c:Nat) (L:List Aq) (w:World) (hr:RT w w.heap.size A0 L) (hn:L.length=n) (hl:n < 1000000) (hs:∀ x∈L,x.s.length < 1073741824/\(x.A=none->x.c=0)):
 Calls Tryz.prog 64 #[.slice A0 n c] w fun e w'=>∃ A' c' L',e= .returned (.slice A' (List.length (α:=Aq) L') c')/\L'.map Aq.pt=L.map Aq.pt/\Da w' w.heap.size A' c' L'/\Below w.heap.size w w':=by
 have HR:=Aa hr;have Hn:=Aa hn;have Hs:=Aa hs;clear hr hn hs;go_enter Tryz.func64,Tryz.ntmps64;go_wp2_with fail
 go_loopw [2,7] (fun v i wr=>∃ (j:Nat) (A':Option Addr) (c':Nat) (L':List Aq),j<=n/\i= .int .i64 (j:Int)/\v= .slice A' j c'/\Hid (L'.length=j)/\Hid (L'.map Aq.pt=(L.take j).map Aq.pt)/\Hid (Da wr w.heap.size A' c' L')/\Below w.heap.size w wr) (fun _ i _=>n - (intOf i).toNat)
 case atStart=>exact⟨0,none,0, [],by omega,rfl,rfl,Aa rfl,Aa rfl,Aa (Da.nil _ _),Below.refl _ _⟩
 case round=>
  obtain⟨j,A',c',L',hj,rfl,rfl,tk,CP,hO,hb⟩:=hrel;by_cases ai:j < n
  ·have ap:j < L.length:=by rw [Hn.out];exact ai
   have z0:(j:Int) < n:=by omega
   have zj:(0:Int)<=j:=by omega
   have hRw:RT wr w.heap.size A0 L:=HR.out.below hb;obtain⟨bb,bo,rfl,FW,hC⟩:=RT.cell hRw (by omega);obtain⟨d0,d1⟩:=hC j ap;obtain⟨x,hx⟩:∃ x,L[j]=x:=⟨_,rfl⟩;rw [hx] at d0 d1;have ba:x∈L:=by rw [<-hx];exact List.getElem_mem ap
   have T0:=Aa (show (L.take (j+1)).map Aq.pt=(L.take j).map Aq.pt++ [x.pt] by rw [List.take_succ_eq_append_getElem ap,hx,List.map_append];rfl);obtain⟨R,sA,sc,s⟩:=x;simp only at d0 d1;obtain⟨BO,CD⟩:s.length < 1073741824/\(sA=none->sc=0):=Hs.out _ ba;have og:=Aa (show RS w w.heap.size sA s from HR.out.2 _ ba);clear hC hx ba hRw;obtain⟨wx,AB,FX,EI,DS⟩:=Dr wr (.int .u8 R) (.slice sA s.length sc) 123;obtain⟨gs,VZ⟩:∃ q,q=wr.heap.size:=⟨_,rfl⟩;have ml:=Aa VZ;rw [<-VZ] at FX;obtain⟨b0,b1⟩:=FX.cells;have el:Below w.heap.size wr wx:=DS.mono hb.size;have OH:=Aa (hO.out.below DS);have me:=Aa AB;have kt:gs < wx.heap.size:=(Array.getElem?_eq_some_iff.1 FX).1;clear AB FX DS EI VZ hO;go_wp2_with fail;rw [me.out,<-ml.out];clear d0 d1;refine Bc (fun done ρ W=>LI (Ace bb bo n c j gs A' c' R sA sc s) (fun _=>True) done ρ W/\TJ wx w.heap.size 2 4 0 5 16 6 17 7 18 8 19 9 2 A' c' L' R s (.slice A' j c') done ρ W) (by kernel_rfl) 22 rfl (by kernel_rfl) ?_ ?_ ?_
   ·exact⟨LI.start _ trivial,TJ.start (Below.refl _ _).drew (Below.refl _ _).drew (OH.out.below (Below.refl _ _).drew) rfl⟩
   ·refine⟨?_,?_,?_,?_,?_,?_,?_,?_,?_,?_,trivial⟩
    ·
     intro done ρ W hn hf hd h;have iy:w.heap.size<=W.heap.size:=Nat.le_trans (Nat.le_trans hb.size el.size) h.2.b.size;have q0:=h.2.first hn;clear hf;refine Bd rfl fun R9 aj=>?_;go_simp;exact aj _ _ ⟨h.1.put Gc rfl (by decide) 0 11 _ rfl trivial,h.2.plain 0 11 _ (by decide) (by decide)⟩
    ·
     intro done ρ W hn hf hd h;have iy:w.heap.size<=W.heap.size:=Nat.le_trans (Nat.le_trans hb.size el.size) h.2.b.size;have q0:ρ 4= .pointer (some ⟨gs,0,none⟩):=hf 4 (by kernel_rfl);clear hf;refine Bd rfl fun R9 aj=>?_;go_simp;exact aj _ _ ⟨h.1.put Gc rfl (by decide) 1 12 _ rfl trivial,h.2.plain 1 12 _ (by decide) (by decide)⟩
    ·
     intro done ρ W hn hf hd h;have iy:w.heap.size<=W.heap.size:=Nat.le_trans (Nat.le_trans hb.size el.size) h.2.b.size;have q1:=h.1.get 1 12 _ rfl (hd 1 (by kernel_rfl));have hia:done 8=false:=h.2.no.2.2.1 (h.2.no.2.1 (by cases hx:done 6 with | false=>rfl | true=>rw [h.2.zR hx] at hn;cases hn));have b0:=I1 (h.2.e hia) kt b0;have b1:=I1 (h.2.e hia) kt b1;clear hf;refine Bd rfl fun R9 aj=>?_;go_simp;exact aj _ _ ⟨h.1.put Gc rfl (by decide) 2 13 _ rfl trivial,h.2.plain 2 13 _ (by decide) (by decide)⟩
    ·
     intro done ρ W hn hf hd h;have iy:w.heap.size<=W.heap.size:=Nat.le_trans (Nat.le_trans hb.size el.size) h.2.b.size;have q0:ρ 4= .pointer (some ⟨gs,0,none⟩):=hf 4 (by kernel_rfl);clear hf;refine Bd rfl fun R9 aj=>?_;go_simp;exact aj _ _ ⟨h.1.put Gc rfl (by decide) 3 14 _ rfl trivial,h.2.plain 3 14 _ (by decide) (by decide)⟩
    ·
     intro done ρ W hn hf hd h;have iy:w.heap.size<=W.heap.size:=Nat.le_trans (Nat.le_trans hb.size el.size) h.2.b.size;have q3:=h.1.get 3 14 _ rfl (hd 3 (by kernel_rfl));have hia:done 8=false:=h.2.no.2.2.1 (h.2.no.2.1 (h.2.no.1 (by cases hx:done 5 with | false=>rfl | true=>rw [h.2.zS hx] at hn;cases hn)));have b0:=I1 (h.2.e hia) kt b0;have b1:=I1 (h.2.e hia) kt b1;clear hf;refine Bd rfl fun R9 aj=>?_;go_simp;exact aj _ _ ⟨h.1.put Gc rfl (by decide) 4 15 _ rfl trivial,h.2.plain 4 15 _ (by decide) (by decide)⟩
    ·
     intro done ρ W hn hf hd h;have iy:w.heap.size<=W.heap.size:=Nat.le_trans (Nat.le_trans hb.size el.size) h.2.b.size;have q4:=h.1.get 4 15 _ rfl (hd 4 (by kernel_rfl));have hd9:=hd 4 (by kernel_rfl);clear hf;refine Bd rfl fun R9 aj=>?_;go_simp;refine (Aed sA s.length sc s W ((og.out.below (hb.trans (el.trans h.2.b))).more (hb.trans (el.trans h.2.b)).size) rfl BO CD).mono ?_;rintro e w' ⟨v',rfl,eh,de⟩;obtain⟨A2,c2,rfl,-,-,-⟩:=Ao eh;exact⟨_,rfl,aj _ _ ⟨h.1.skip Gc rfl 5 16 _ rfl rfl trivial,h.2.call Me hn (hd9) iy eh de⟩⟩
    ·
     intro done ρ W hn hf hd h;have iy:w.heap.size<=W.heap.size:=Nat.le_trans (Nat.le_trans hb.size el.size) h.2.b.size;have q2:=h.1.get 2 13 _ rfl (hd 2 (by kernel_rfl));have qc:=hd 5 (by kernel_rfl);obtain⟨A2,c2,e1,-,-,-⟩:=h.2.x qc (h.2.no.2.2.1 (h.2.no.2.1 hn));have hdR:=hd 2 (by kernel_rfl);clear hf;refine Bd rfl fun R9 aj=>?_;go_simp;exact aj _ _ ⟨h.1.skip Gc rfl 6 17 _ rfl rfl trivial,h.2.build Me hn qc hdR (by rw [e1])⟩
    ·
     intro done ρ W hn hf hd h;have iy:w.heap.size<=W.heap.size:=Nat.le_trans (Nat.le_trans hb.size el.size) h.2.b.size;have qb:=hd 6 (by kernel_rfl);obtain⟨A2,c2,-,-,e3,-⟩:=h.2.x (h.2.z1 qb) (h.2.no.2.2.1 hn);have e4:=e3 qb;clear hf;refine Bd rfl fun R9 aj=>?_;go_simp;exact aj _ _ ⟨h.1.skip Gc rfl 7 18 _ rfl rfl trivial,h.2.row Me hn qb iy e4⟩
    ·
     intro done ρ W hn hf hd h;have iy:w.heap.size<=W.heap.size:=Nat.le_trans (Nat.le_trans hb.size el.size) h.2.b.size;have qr:=hd 7 (by kernel_rfl);have YS:=hd 0 (by kernel_rfl);have q0:=h.1.get 0 11 _ rfl YS;obtain⟨A2,c2,-,e2,-,e5⟩:=h.2.x (h.2.z1 (h.2.z2 qr)) hn;obtain⟨q,e6,e7⟩:=e5 qr;clear hf;refine .inl ⟨rfl,Bt fun R9 aj=>?_⟩;refine Mv (.tmp 11) (.tmp 18) rfl (A:=A') (c:=c') (L:=L') (R:=R) (s:=s) (by rw [Jt,q0,tk.out]) (by rw [Jt];exact e6) (h.2.o hn) e2 e7 (by rw [tk.out];omega) iy fun A3 c3 w' ho de=>?_;exact aj _ _ ⟨h.1.skip Gc rfl 8 19 _ rfl rfl trivial,h.2.app Me hn qr YS ho de⟩
    ·
     intro done ρ W hn hf hd h;have iy:w.heap.size<=W.heap.size:=Nat.le_trans (Nat.le_trans hb.size el.size) h.2.b.size;have qa:=hd 8 (by kernel_rfl);clear hf;refine Bd rfl fun R9 aj=>?_;go_simp;exact aj _ _ ⟨h.1.skip Gc rfl 9 2 _ rfl rfl trivial,h.2.asg Me qa rfl⟩
   ·intro a' w6 cz ay hf h;obtain⟨A2,c2,A3,c3,-,If,NJ⟩:=h.2.a (by kernel_rfl);have h_2:=NJ (by kernel_rfl);have bf:Below w.heap.size w w6:=hb.trans (el.trans h.2.b);clear NJ;have h0:Ab a' 0= .slice (some ⟨bb,bo,none⟩) n c:=hf 0 (by kernel_rfl);have h1:Ab a' 1=undef:=hf 1 (by kernel_rfl);have h3:Ab a' 3=undef:=hf 3 (by kernel_rfl);have h5:Ab a' 5= .slice (some ⟨bb,bo,none⟩) n c:=hf 5 (by kernel_rfl);have h6:Ab a' 6= .int .i64 (n:Int):=hf 6 (by kernel_rfl);have h7:Ab a' 7= .int .i64 (j:Int):=hf 7 (by kernel_rfl);have nj:Ab a' 21=undef:=hf 21 (by kernel_rfl);obtain⟨T,D⟩:=a';have hD:D= []:=cz;subst hD;obtain⟨f,hT,df⟩:∃ f:Nat->Value,T=((List.range 22).map f).toArray/\Ab ⟨T, []⟩=f:=⟨_,Bm T 22 ay,rfl⟩;rw [df] at h_2 h0 h1 h3 h5 h6 h7 nj;clear df ay hf h cz;simp only [List.range,List.range.loop,List.map] at hT;subst hT;rw [h_2,h0,h1,h3,h5,h6,h7,nj];clear h_2 h0 h1 h3 h5 h6 h7 nj;have fa:=Aa If;have si:L'.length+1=j+1:=by rw [tk.out]
    rw [si];clear si If;go_wp2_with fail;go_roundw
    case rel=>
     refine⟨j+1,A3,c3,L'++ [⟨R,A2,c2,s⟩],by omega,by go_num,rfl,Aa ?_,Aa ?_,fa,bf⟩
     ·rw [List.length_append,tk.out];rfl
     ·rw [T0.out,List.map_append,CP.out];rfl
    case measure=>simp [intOf];omega
  ·have z0:¬ (j:Int) < n:=by omega
   obtain rfl:j=n:=by omega
   rw [List.take_of_length_le (by rw [Hn.out];exact Nat.le_refl _)] at CP;have si:=tk.out;subst si;go_wp2_with fail;go_ret;exact⟨A',c',L',rfl,CP.out,hO.out,hb⟩
end Go.Proofs.YtmkpfdcnikgokaaGreat
