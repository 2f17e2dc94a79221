/-
  Texts of this claim, put together: WantsRef. What each theorem asks stands in its statement.
-/
import Derived.Test.YtmkpfdcnikgokaaGreatMd9
import Derived.Test.YtmkpfdcnikgokaaGreatMd44
set_option linter.unusedVariables false
set_option linter.unusedSimpArgs false
set_option maxRecDepth 100000
set_option maxHeartbeats 25600000
namespace Go.Proofs.YtmkpfdcnikgokaaGreat
open Go.RowKit
def AE (ia is sl B:Nat) (Z E:World->Nat->Prop) (done:Nat->Bool) (ρ:Nat->Value) (W:World):Prop:=
 (done is=true->done ia=true)/\(done ia=true->∃ q,ρ sl= .pointer (some ⟨q,0,none⟩)/\B<=q/\(done is=false->Z W q)/\(done is=true->E W q))
section
variable {ia is sl B:Nat} {Z E:World->Nat->Prop} {done:Nat->Bool} {ρ:Nat->Value} {W W':World}
theorem AE.start:AE ia is sl B Z E (fun _=>false) ρ W:=⟨fun h=>(by cases h),fun h=>(by cases h)⟩
theorem AE.plain (h:AE ia is sl B Z E done ρ W) (i d:Nat) (v:Value) (h1:ia≠i) (h2:is≠i) (h3:sl≠d):AE ia is sl B Z E (Bo done i) (Bn ρ (some d) v) W:=by
 have e1:Bo done i ia=done ia:=by simp [Bo,h1]
 have e2:Bo done i is=done is:=by simp [Bo,h2]
 unfold AE;rw [e1,e2];refine⟨h.1,fun k=>?_⟩;obtain⟨q,a,b,c,d'⟩:=h.2 k;exact⟨q,by simp only [Bn,h3,if_false];exact a,b,c,d'⟩
theorem AE.alloc (h:AE ia is sl B Z E done ρ W) (hn:done ia=false) (ak:is≠ia) {q:Nat} (hq:B<=q) (hZ:Z W' q):AE ia is sl B Z E (Bo done ia) (Bn ρ (some sl) (.pointer (some ⟨q,0,none⟩))) W':=by
 have e1:Bo done ia ia=true:=by simp [Bo]
 have e2:Bo done ia is=done is:=by simp [Bo,ak]
 have e3:done is=false:=by
  cases hx:done is with
  | false=>rfl
  | true=>rw [h.1 hx] at hn;cases hn
 unfold AE;rw [e1,e2,e3];exact⟨fun k=>(by cases k),fun _=>⟨q,by simp [Bn],hq,fun _=>hZ,fun h=>(by cases h)⟩⟩
theorem AE.store (_h:AE ia is sl B Z E done ρ W) (ha:done ia=true) (ak:ia≠is) {q:Nat} {v:Value} (q4:ρ sl= .pointer (some ⟨q,0,none⟩)) (hq:B<=q) (hE:E W' q):AE ia is sl B Z E (Bo done is) (Bn ρ none v) W':=by
 have e1:Bo done is is=true:=by simp [Bo]
 have e2:Bo done is ia=done ia:=by simp [Bo,ak]
 unfold AE;rw [e1,e2,ha];exact⟨fun _=>rfl,fun _=>⟨q,q4,hq,fun h=>(by cases h),fun _=>hE⟩⟩
end
theorem Afz {w W:World} {g B:Nat} {a b c d e f h k:Value} (v0 v1 v2 v3 v4 v5 v6 v7:Value) (hF:EB W g a b c d e f h k) (hb:Below B w W) (hg:B<=g):
 W.frozen? ⟨g,0,none⟩=false/\(W.setCell ⟨g,0,none⟩ v0).frozen? ⟨g,1,none⟩=false/\((W.setCell ⟨g,0,none⟩ v0).setCell ⟨g,1,none⟩ v1).frozen? ⟨g,2,none⟩=false/\(((W.setCell ⟨g,0,none⟩ v0).setCell ⟨g,1,none⟩ v1).setCell ⟨g,2,none⟩ v2).frozen? ⟨g,3,none⟩=false/\((((W.setCell ⟨g,0,none⟩ v0).setCell ⟨g,1,none⟩ v1).setCell ⟨g,2,none⟩ v2).setCell ⟨g,3,none⟩ v3).frozen? ⟨g,4,none⟩=false/\(((((W.setCell ⟨g,0,none⟩ v0).setCell ⟨g,1,none⟩ v1).setCell ⟨g,2,none⟩ v2).setCell ⟨g,3,none⟩ v3).setCell ⟨g,4,none⟩ v4).frozen? ⟨g,5,none⟩=false/\((((((W.setCell ⟨g,0,none⟩ v0).setCell ⟨g,1,none⟩ v1).setCell ⟨g,2,none⟩ v2).setCell ⟨g,3,none⟩ v3).setCell ⟨g,4,none⟩ v4).setCell ⟨g,5,none⟩ v5).frozen? ⟨g,6,none⟩=false/\(((((((W.setCell ⟨g,0,none⟩ v0).setCell ⟨g,1,none⟩ v1).setCell ⟨g,2,none⟩ v2).setCell ⟨g,3,none⟩ v3).setCell ⟨g,4,none⟩ v4).setCell ⟨g,5,none⟩ v5).setCell ⟨g,6,none⟩ v6).frozen? ⟨g,7,none⟩=false/\EB ((((((((W.setCell ⟨g,0,none⟩ v0).setCell ⟨g,1,none⟩ v1).setCell ⟨g,2,none⟩ v2).setCell ⟨g,3,none⟩ v3).setCell ⟨g,4,none⟩ v4).setCell ⟨g,5,none⟩ v5).setCell ⟨g,6,none⟩ v6).setCell ⟨g,7,none⟩ v7) g v0 v1 v2 v3 v4 v5 v6 v7/\Below B w ((((((((W.setCell ⟨g,0,none⟩ v0).setCell ⟨g,1,none⟩ v1).setCell ⟨g,2,none⟩ v2).setCell ⟨g,3,none⟩ v3).setCell ⟨g,4,none⟩ v4).setCell ⟨g,5,none⟩ v5).setCell ⟨g,6,none⟩ v6).setCell ⟨g,7,none⟩ v7):=by
 have F1:EB (W.setCell ⟨g,0,none⟩ v0) g v0 b c d e f h k:=heap_setCell_same _ _ _ _ _ _ hF;have F2:EB ((W.setCell ⟨g,0,none⟩ v0).setCell ⟨g,1,none⟩ v1) g v0 v1 c d e f h k:=heap_setCell_same _ _ _ _ _ _ F1;have F3:EB (((W.setCell ⟨g,0,none⟩ v0).setCell ⟨g,1,none⟩ v1).setCell ⟨g,2,none⟩ v2) g v0 v1 v2 d e f h k:=heap_setCell_same _ _ _ _ _ _ F2;have F4:EB ((((W.setCell ⟨g,0,none⟩ v0).setCell ⟨g,1,none⟩ v1).setCell ⟨g,2,none⟩ v2).setCell ⟨g,3,none⟩ v3) g v0 v1 v2 v3 e f h k:=heap_setCell_same _ _ _ _ _ _ F3;have F5:EB (((((W.setCell ⟨g,0,none⟩ v0).setCell ⟨g,1,none⟩ v1).setCell ⟨g,2,none⟩ v2).setCell ⟨g,3,none⟩ v3).setCell ⟨g,4,none⟩ v4) g v0 v1 v2 v3 v4 f h k:=heap_setCell_same _ _ _ _ _ _ F4;have F6:EB ((((((W.setCell ⟨g,0,none⟩ v0).setCell ⟨g,1,none⟩ v1).setCell ⟨g,2,none⟩ v2).setCell ⟨g,3,none⟩ v3).setCell ⟨g,4,none⟩ v4).setCell ⟨g,5,none⟩ v5) g v0 v1 v2 v3 v4 v5 h k:=heap_setCell_same _ _ _ _ _ _ F5;have F7:EB (((((((W.setCell ⟨g,0,none⟩ v0).setCell ⟨g,1,none⟩ v1).setCell ⟨g,2,none⟩ v2).setCell ⟨g,3,none⟩ v3).setCell ⟨g,4,none⟩ v4).setCell ⟨g,5,none⟩ v5).setCell ⟨g,6,none⟩ v6) g v0 v1 v2 v3 v4 v5 v6 k:=heap_setCell_same _ _ _ _ _ _ F6;have F8:EB ((((((((W.setCell ⟨g,0,none⟩ v0).setCell ⟨g,1,none⟩ v1).setCell ⟨g,2,none⟩ v2).setCell ⟨g,3,none⟩ v3).setCell ⟨g,4,none⟩ v4).setCell ⟨g,5,none⟩ v5).setCell ⟨g,6,none⟩ v6).setCell ⟨g,7,none⟩ v7) g v0 v1 v2 v3 v4 v5 v6 v7:=heap_setCell_same _ _ _ _ _ _ F7;exact⟨frozen_of_row _ g 0 _ _ hF,frozen_of_row _ g 1 _ _ F1,frozen_of_row _ g 2 _ _ F2,frozen_of_row _ g 3 _ _ F3,frozen_of_row _ g 4 _ _ F4,frozen_of_row _ g 5 _ _ F5,frozen_of_row _ g 6 _ _ F6,frozen_of_row _ g 7 _ _ F7,F8,((((((((hb.setCell hg _).setCell hg _).setCell hg _).setCell hg _).setCell hg _).setCell hg _).setCell hg _).setCell hg _)⟩
def Afq (bb bo n c j:Nat) (x:Ay):List (Option (Nat×Value)):=
 [some (16,.slice (some ⟨bb,bo,none⟩) n c),some (17,.int .i64 (j:Int)),some (18,.pointer (some ⟨bb,bo+j * 7,none⟩)),some (19,.pointer (some ⟨bb,bo+j * 7,none⟩)),some (20,.agg #[.int .u32 x.t,.int .u8 x.r]),some (21,.slice (some ⟨bb,bo,none⟩) n c),some (22,.int .i64 (j:Int)),some (23,.pointer (some ⟨bb,bo+j * 7,none⟩)),some (24,.pointer (some ⟨bb,bo+j * 7+2,none⟩)),some (25,.bool x.rd),some (26,.slice (some ⟨bb,bo,none⟩) n c),some (27,.int .i64 (j:Int)),some (28,.pointer (some ⟨bb,bo+j * 7,none⟩)),some (29,.pointer (some ⟨bb,bo+j * 7+4,none⟩)),some (30,.bool x.kn),some (31,.slice (some ⟨bb,bo,none⟩) n c),some (32,.int .i64 (j:Int)),some (33,.pointer (some ⟨bb,bo+j * 7,none⟩)),some (34,.pointer (some ⟨bb,bo+j * 7+5,none⟩)),some (35,.slice x.sA x.s.length x.sc),some (36,.slice (some ⟨bb,bo,none⟩) n c),some (37,.int .i64 (j:Int)),some (38,.pointer (some ⟨bb,bo+j * 7,none⟩)),some (39,.pointer (some ⟨bb,bo+j * 7+6,none⟩)),some (40,.slice x.gA x.g.length x.gc),some (41,Go.Proofs.YtmkpfdcnikgokaaGreat.env x.t x.r x.rd x.kn (.slice x.sA x.s.length x.sc) (.slice x.gA x.g.length x.gc)),none,none]
def Dn:List (Option Nat):= [some 16,some 17,some 18,some 19,some 20,some 21,some 22,some 23,some 24,some 25,some 26,some 27,some 28,some 29,some 30,some 31,some 32,some 33,some 34,some 35,some 36,some 37,some 38,some 39,some 40,some 41,none,none]
theorem V5 (A:Option Addr) (n c:Nat) (L:List Ay) (w:World) (hr:RW w w.heap.size A L) (hn:L.length=n) (hl:n < 1073741824) (ax:∀ x∈L,N5 x):
 Calls Tryz.prog 91 #[.slice A n c] w fun e w'=>e= .returned (.bool (decide (Cy (L.map Ay.wp))))/\Below w.heap.size w w':=by
 by_cases jv:(65:Int) < n
 ·have hE:=Aa (show decide (Cy (L.map Ay.wp))=false from decide_eq_false fun h=>by have:=h.1.1;rw [List.length_map,List.length_map,hn] at this;omega);rw [hE.out];have z1:(0:Int) < n:=by omega
  clear hr hn ax hE;go_enter Tryz.func91,Tryz.ntmps91;go_wp2_with fail
  go_loopw [3] (fun i wr=>i= .int .i64 0/\Below w.heap.size w wr) (fun _ _=>0)
  case atStart=>exact⟨rfl,Below.refl _ _⟩
  case round=>
   obtain⟨rfl,hb⟩:=hrel;go_wp2_with fail;go_ret;exact⟨Ae (decide_eq_false (by omega)),hb⟩
 have SZ:(n:Int)<=65:=by omega
 have xx:(L.map Ay.wp).map WP.en=L.map Ay.en:=by rw [List.map_map];rfl
 have HM:=Aa (show Cy (L.map Ay.wp)↔De none (L.map Ay.en)/\∀ x∈L,Tf x from by
  unfold Cy Vg
  rw [xx]
  exact⟨fun h=>⟨h.1.2,fun x hx=>h.2 _ (List.mem_map_of_mem hx)⟩,fun h=>⟨⟨by rw [List.length_map];omega,h.1⟩,fun o ho=>by obtain⟨x,hx,rfl⟩:=List.mem_map.1 ho;exact h.2 x hx⟩⟩)
 have js:=Aa ax;have Hn:=Aa hn;have HR:=Aa hr;clear hr hn ax xx jv;go_enter Tryz.func91,Tryz.ntmps91;go_wp2_with fail
 go_loopw [3] (fun i wr=>∃ (j:Nat) (p:Option (Int×Int)),j<=n/\i= .int .i64 (j:Int)/\Hid (p=if j=0 then none else (L[j - 1]?).map fun x=>(x.t,x.r))/\Hid (De none (L.map Ay.en)↔De p ((L.drop j).map Ay.en))/\Hid (∀ x∈L.take j,Tf x)/\Below w.heap.size w wr) (fun i _=>n - (intOf i).toNat)
 case atStart=>exact⟨0,none,by omega,rfl,Aa rfl,Aa Iff.rfl,Aa (fun x hx=>by cases hx),Below.refl _ _⟩
 case round=>
  obtain⟨j,p,hj,rfl,Hp,HC,HT,hb⟩:=hrel;by_cases ai:j < n
  ·have ap:j < L.length:=by rw [Hn.out];exact ai
   have z0:(j:Int) < n:=by omega
   have zj:(0:Int)<=j:=by omega
   obtain⟨bb,bo,rfl,hB,fg⟩:=RW.cell (HR.out.below hb) (by omega);have eb:=Nat.lt_of_lt_of_le hB hb.size;obtain⟨d0,d1,d2,d3,d4,d5,d6⟩:=fg j ap;obtain⟨x,hx⟩:∃ x,L[j]=x:=⟨_,rfl⟩;rw [hx] at d0 d1 d2 d3 d4 d5 d6;go_wp2_with fail;refine Bc (fun done ρ W=>LI (Afq bb bo n c j x) (fun W=>Below wr.heap.size wr W) done ρ W/\AE 26 27 4 wr.heap.size (fun W q=>EB W q (.int .u32 0) (.int .u8 0) (.bool false) (.bool false) (.int .i64 0) (.bool false) (.slice none 0 0) (.slice none 0 0)) (fun W q=>EB W q (.int .u32 x.t) (.int .u8 x.r) (.bool x.rd) (.bool false) (.int .i64 0) (.bool x.kn) (.slice x.sA x.s.length x.sc) (.slice x.gA x.g.length x.gc)) done ρ W) (by kernel_rfl) 76 (by rfl) (by kernel_rfl) ?_ ?_ ?_
   ·exact⟨LI.start _ (Below.refl _ _).drew,AE.start⟩
   ·refine⟨?_,?_,?_,?_,?_,?_,?_,?_,?_,?_,?_,?_,?_,?_,?_,?_,?_,?_,?_,?_,?_,?_,?_,?_,?_,?_,?_,?_,trivial⟩
    ·
     intro done ρ W hn hf hd h;have q0:ρ 0= .slice (some ⟨bb,bo,none⟩) n c:=hf 0 (by kernel_rfl);clear hf;refine Bd rfl fun R hR=>?_;go_simp;exact hR _ _ ⟨h.1.put Dn rfl (by decide) 0 16 _ rfl h.1.1,h.2.plain 0 16 _ (by decide) (by decide) (by decide)⟩
    ·
     intro done ρ W hn hf hd h;have q3:ρ 3= .int .i64 (j:Int):=hf 3 (by kernel_rfl);clear hf;refine Bd rfl fun R hR=>?_;go_simp;exact hR _ _ ⟨h.1.put Dn rfl (by decide) 1 17 _ rfl h.1.1,h.2.plain 1 17 _ (by decide) (by decide) (by decide)⟩
    ·
     intro done ρ W hn hf hd h;have qa:=h.1.get 0 16 _ rfl (hd 0 (by kernel_rfl));have qb:=h.1.get 1 17 _ rfl (hd 1 (by kernel_rfl));clear hf;refine Bd rfl fun R hR=>?_;go_simp;exact hR _ _ ⟨h.1.put Dn rfl (by decide) 2 18 _ rfl h.1.1,h.2.plain 2 18 _ (by decide) (by decide) (by decide)⟩
    ·
     intro done ρ W hn hf hd h;have qa:=h.1.get 2 18 _ rfl (hd 2 (by kernel_rfl));clear hf;refine Bd rfl fun R hR=>?_;go_simp;exact hR _ _ ⟨h.1.put Dn rfl (by decide) 3 19 _ rfl h.1.1,h.2.plain 3 19 _ (by decide) (by decide) (by decide)⟩
    ·
     intro done ρ W hn hf hd h;have qa:=h.1.get 3 19 _ rfl (hd 3 (by kernel_rfl));have e0:=Ac h.1.1 eb d0;have e1:=Ac h.1.1 eb d1;have e2:=Ac h.1.1 eb d2;have e4:=Ac h.1.1 eb d4;have e5:=Ac h.1.1 eb d5;have e6:=Ac h.1.1 eb d6;clear hf;refine Bd rfl fun R hR=>?_;go_simp;exact hR _ _ ⟨h.1.put Dn rfl (by decide) 4 20 _ rfl h.1.1,h.2.plain 4 20 _ (by decide) (by decide) (by decide)⟩
    ·
     intro done ρ W hn hf hd h;have q0:ρ 0= .slice (some ⟨bb,bo,none⟩) n c:=hf 0 (by kernel_rfl);clear hf;refine Bd rfl fun R hR=>?_;go_simp;exact hR _ _ ⟨h.1.put Dn rfl (by decide) 5 21 _ rfl h.1.1,h.2.plain 5 21 _ (by decide) (by decide) (by decide)⟩
    ·
     intro done ρ W hn hf hd h;have q3:ρ 3= .int .i64 (j:Int):=hf 3 (by kernel_rfl);clear hf;refine Bd rfl fun R hR=>?_;go_simp;exact hR _ _ ⟨h.1.put Dn rfl (by decide) 6 22 _ rfl h.1.1,h.2.plain 6 22 _ (by decide) (by decide) (by decide)⟩
    ·
     intro done ρ W hn hf hd h;have qa:=h.1.get 5 21 _ rfl (hd 5 (by kernel_rfl));have qb:=h.1.get 6 22 _ rfl (hd 6 (by kernel_rfl));clear hf;refine Bd rfl fun R hR=>?_;go_simp;exact hR _ _ ⟨h.1.put Dn rfl (by decide) 7 23 _ rfl h.1.1,h.2.plain 7 23 _ (by decide) (by decide) (by decide)⟩
    ·
     intro done ρ W hn hf hd h;have qa:=h.1.get 7 23 _ rfl (hd 7 (by kernel_rfl));clear hf;refine Bd rfl fun R hR=>?_;go_simp;exact hR _ _ ⟨h.1.put Dn rfl (by decide) 8 24 _ rfl h.1.1,h.2.plain 8 24 _ (by decide) (by decide) (by decide)⟩
    ·
     intro done ρ W hn hf hd h;have qa:=h.1.get 8 24 _ rfl (hd 8 (by kernel_rfl));have e0:=Ac h.1.1 eb d0;have e1:=Ac h.1.1 eb d1;have e2:=Ac h.1.1 eb d2;have e4:=Ac h.1.1 eb d4;have e5:=Ac h.1.1 eb d5;have e6:=Ac h.1.1 eb d6;clear hf;refine Bd rfl fun R hR=>?_;go_simp;exact hR _ _ ⟨h.1.put Dn rfl (by decide) 9 25 _ rfl h.1.1,h.2.plain 9 25 _ (by decide) (by decide) (by decide)⟩
    ·
     intro done ρ W hn hf hd h;have q0:ρ 0= .slice (some ⟨bb,bo,none⟩) n c:=hf 0 (by kernel_rfl);clear hf;refine Bd rfl fun R hR=>?_;go_simp;exact hR _ _ ⟨h.1.put Dn rfl (by decide) 10 26 _ rfl h.1.1,h.2.plain 10 26 _ (by decide) (by decide) (by decide)⟩
    ·
     intro done ρ W hn hf hd h;have q3:ρ 3= .int .i64 (j:Int):=hf 3 (by kernel_rfl);clear hf;refine Bd rfl fun R hR=>?_;go_simp;exact hR _ _ ⟨h.1.put Dn rfl (by decide) 11 27 _ rfl h.1.1,h.2.plain 11 27 _ (by decide) (by decide) (by decide)⟩
    ·
     intro done ρ W hn hf hd h;have qa:=h.1.get 10 26 _ rfl (hd 10 (by kernel_rfl));have qb:=h.1.get 11 27 _ rfl (hd 11 (by kernel_rfl));clear hf;refine Bd rfl fun R hR=>?_;go_simp;exact hR _ _ ⟨h.1.put Dn rfl (by decide) 12 28 _ rfl h.1.1,h.2.plain 12 28 _ (by decide) (by decide) (by decide)⟩
    ·
     intro done ρ W hn hf hd h;have qa:=h.1.get 12 28 _ rfl (hd 12 (by kernel_rfl));clear hf;refine Bd rfl fun R hR=>?_;go_simp;exact hR _ _ ⟨h.1.put Dn rfl (by decide) 13 29 _ rfl h.1.1,h.2.plain 13 29 _ (by decide) (by decide) (by decide)⟩
    ·
     intro done ρ W hn hf hd h;have qa:=h.1.get 13 29 _ rfl (hd 13 (by kernel_rfl));have e0:=Ac h.1.1 eb d0;have e1:=Ac h.1.1 eb d1;have e2:=Ac h.1.1 eb d2;have e4:=Ac h.1.1 eb d4;have e5:=Ac h.1.1 eb d5;have e6:=Ac h.1.1 eb d6;clear hf;refine Bd rfl fun R hR=>?_;go_simp;exact hR _ _ ⟨h.1.put Dn rfl (by decide) 14 30 _ rfl h.1.1,h.2.plain 14 30 _ (by decide) (by decide) (by decide)⟩
    ·
     intro done ρ W hn hf hd h;have q0:ρ 0= .slice (some ⟨bb,bo,none⟩) n c:=hf 0 (by kernel_rfl);clear hf;refine Bd rfl fun R hR=>?_;go_simp;exact hR _ _ ⟨h.1.put Dn rfl (by decide) 15 31 _ rfl h.1.1,h.2.plain 15 31 _ (by decide) (by decide) (by decide)⟩
    ·
     intro done ρ W hn hf hd h;have q3:ρ 3= .int .i64 (j:Int):=hf 3 (by kernel_rfl);clear hf;refine Bd rfl fun R hR=>?_;go_simp;exact hR _ _ ⟨h.1.put Dn rfl (by decide) 16 32 _ rfl h.1.1,h.2.plain 16 32 _ (by decide) (by decide) (by decide)⟩
    ·
     intro done ρ W hn hf hd h;have qa:=h.1.get 15 31 _ rfl (hd 15 (by kernel_rfl));have qb:=h.1.get 16 32 _ rfl (hd 16 (by kernel_rfl));clear hf;refine Bd rfl fun R hR=>?_;go_simp;exact hR _ _ ⟨h.1.put Dn rfl (by decide) 17 33 _ rfl h.1.1,h.2.plain 17 33 _ (by decide) (by decide) (by decide)⟩
    ·
     intro done ρ W hn hf hd h;have qa:=h.1.get 17 33 _ rfl (hd 17 (by kernel_rfl));clear hf;refine Bd rfl fun R hR=>?_;go_simp;exact hR _ _ ⟨h.1.put Dn rfl (by decide) 18 34 _ rfl h.1.1,h.2.plain 18 34 _ (by decide) (by decide) (by decide)⟩
    ·
     intro done ρ W hn hf hd h;have qa:=h.1.get 18 34 _ rfl (hd 18 (by kernel_rfl));have e0:=Ac h.1.1 eb d0;have e1:=Ac h.1.1 eb d1;have e2:=Ac h.1.1 eb d2;have e4:=Ac h.1.1 eb d4;have e5:=Ac h.1.1 eb d5;have e6:=Ac h.1.1 eb d6;clear hf;refine Bd rfl fun R hR=>?_;go_simp;exact hR _ _ ⟨h.1.put Dn rfl (by decide) 19 35 _ rfl h.1.1,h.2.plain 19 35 _ (by decide) (by decide) (by decide)⟩
    ·
     intro done ρ W hn hf hd h;have q0:ρ 0= .slice (some ⟨bb,bo,none⟩) n c:=hf 0 (by kernel_rfl);clear hf;refine Bd rfl fun R hR=>?_;go_simp;exact hR _ _ ⟨h.1.put Dn rfl (by decide) 20 36 _ rfl h.1.1,h.2.plain 20 36 _ (by decide) (by decide) (by decide)⟩
    ·
     intro done ρ W hn hf hd h;have q3:ρ 3= .int .i64 (j:Int):=hf 3 (by kernel_rfl);clear hf;refine Bd rfl fun R hR=>?_;go_simp;exact hR _ _ ⟨h.1.put Dn rfl (by decide) 21 37 _ rfl h.1.1,h.2.plain 21 37 _ (by decide) (by decide) (by decide)⟩
    ·
     intro done ρ W hn hf hd h;have qa:=h.1.get 20 36 _ rfl (hd 20 (by kernel_rfl));have qb:=h.1.get 21 37 _ rfl (hd 21 (by kernel_rfl));clear hf;refine Bd rfl fun R hR=>?_;go_simp;exact hR _ _ ⟨h.1.put Dn rfl (by decide) 22 38 _ rfl h.1.1,h.2.plain 22 38 _ (by decide) (by decide) (by decide)⟩
    ·
     intro done ρ W hn hf hd h;have qa:=h.1.get 22 38 _ rfl (hd 22 (by kernel_rfl));clear hf;refine Bd rfl fun R hR=>?_;go_simp;exact hR _ _ ⟨h.1.put Dn rfl (by decide) 23 39 _ rfl h.1.1,h.2.plain 23 39 _ (by decide) (by decide) (by decide)⟩
    ·
     intro done ρ W hn hf hd h;have qa:=h.1.get 23 39 _ rfl (hd 23 (by kernel_rfl));have e0:=Ac h.1.1 eb d0;have e1:=Ac h.1.1 eb d1;have e2:=Ac h.1.1 eb d2;have e4:=Ac h.1.1 eb d4;have e5:=Ac h.1.1 eb d5;have e6:=Ac h.1.1 eb d6;clear hf;refine Bd rfl fun R hR=>?_;go_simp;exact hR _ _ ⟨h.1.put Dn rfl (by decide) 24 40 _ rfl h.1.1,h.2.plain 24 40 _ (by decide) (by decide) (by decide)⟩
    ·
     intro done ρ W hn hf hd h;have q20:=h.1.get 4 20 _ rfl (hd 4 (by kernel_rfl));have q25:=h.1.get 9 25 _ rfl (hd 9 (by kernel_rfl));have q30:=h.1.get 14 30 _ rfl (hd 14 (by kernel_rfl));have q35:=h.1.get 19 35 _ rfl (hd 19 (by kernel_rfl));have q40:=h.1.get 24 40 _ rfl (hd 24 (by kernel_rfl));clear hf;refine Bd rfl fun R hR=>?_;go_simp;exact hR _ _ ⟨h.1.put Dn rfl (by decide) 25 41 _ rfl h.1.1,h.2.plain 25 41 _ (by decide) (by decide) (by decide)⟩
    ·
     intro done ρ W hn hf hd h;clear hf;refine .inl ⟨rfl,Bt fun R hR=>?_⟩;obtain⟨w1,au,F1,af,ac⟩:=Df W (.int .u32 0) (.int .u8 0) (.bool false) (.bool false) (.int .i64 0) (.bool false) (.slice none 0 0) (.slice none 0 0);have ay:=h.1.1.size;unfold Ih;go_simp;have hq:=hR (.pointer (some ⟨W.heap.size,0,none⟩)) w1 ⟨h.1.skip Dn rfl 26 4 _ rfl rfl (h.1.1.trans (ac.mono ay)),h.2.alloc hn (by decide) ay F1⟩;exact hq
    ·
     intro done ρ W hn hf hd h;have q41:=h.1.get 25 41 _ rfl (hd 25 (by kernel_rfl));clear hf;have ha:=hd 26 (by kernel_rfl);obtain⟨q,q4,hq,hZ,-⟩:=h.2.2 ha;have HZ:=hZ hn;have F0:=HZ;obtain⟨y0,y1,y2,y3,y4,y5,y6,y7⟩:=EB.cells HZ;refine .inl ⟨rfl,Bt fun R hR=>?_⟩;obtain⟨g0,g1,g2,g3,g4,g5,g6,g7,FZ,BZ⟩:=Afz (.int .u32 x.t) (.int .u8 x.r) (.bool x.rd) (.bool false) (.int .i64 0) (.bool x.kn) (.slice x.sA x.s.length x.sc) (.slice x.gA x.g.length x.gc) F0 h.1.1 hq;unfold Ih;go_simp;exact hR _ _ ⟨h.1.world 27 _ rfl BZ,h.2.store ha (by decide) q4 hq FZ⟩
   ·intro a' w6 cz ay hf h;obtain⟨q,k4,hq,-,EQ⟩:=h.2.2 (by kernel_rfl);have F6:=EQ (by kernel_rfl);have dx:Hid (Below wr.heap.size wr w6):=Aa h.1.1;have h0:Ab a' 0= .slice (some ⟨bb,bo,none⟩) n c:=hf 0 (by kernel_rfl);have h1:Ab a' 1=undef:=hf 1 (by kernel_rfl);have h3:Ab a' 3= .int .i64 (j:Int):=hf 3 (by kernel_rfl);have JD:Ab a' 73=undef:=hf 73 (by kernel_rfl);have JC:Ab a' 74=undef:=hf 74 (by kernel_rfl);have JB:Ab a' 75=undef:=hf 75 (by kernel_rfl);clear EQ;obtain⟨T,D⟩:=a';have hD:D= []:=cz;subst hD;obtain⟨f,hT,df⟩:∃ f:Nat->Value,T=((List.range 76).map f).toArray/\Ab ⟨T, []⟩=f:=⟨_,Bm T 76 ay,rfl⟩;rw [df] at h0 h1 h3 JD JC JB k4;clear df ay hf h cz;simp only [List.range,List.range.loop,List.map] at hT;subst hT;rw [h0,h1,h3,JD,JC,JB,k4];clear h0 h1 h3 JD JC JB k4;have ba:x∈L:=by rw [<-hx];exact List.getElem_mem ap
    have jb:=js.out x ba;have ti:(L.drop j).map Ay.en=x.en :: (L.drop (j+1)).map Ay.en:=by rw [List.drop_eq_getElem_cons ap,hx];rfl
    have m8:=HC;rw [ti] at m8;have nt:=Ad hb dx.out;have iy:=Aa eb;have yc:bb < w6.heap.size:=Nat.lt_of_lt_of_le eb dx.out.size;have hq6:q < w6.heap.size:=(Array.getElem?_eq_some_iff.1 F6).1;have og:=((HR.out.below nt).more nt.size).2 x ba;replace d0:=Ac dx.out eb d0;replace d1:=Ac dx.out eb d1;replace d3:=Ac dx.out eb d3;obtain⟨a0,a1,a2,a3,a4,a5,a6,a7⟩:=EB.cells F6;obtain⟨o,ho⟩:∃ q,decide (Gr x.en)=q:=⟨_,rfl⟩
    have P:=Aa (fun u=>by
     have h2:=Aat x.t x.r x.rd x.kn x.sA x.gA x.s.length x.sc x.g.length x.gc x.s x.g (Bs w6 u) ((og.2.1.below (Af w6 u)).more (Af w6 u).size) jb.2.2.2.2.2.1 jb.2.2.2.2.2.2.2.1 rfl rfl
     rw [show decide (Gr ((x.t,x.r),(x.rd,x.kn),(x.s.map Aq.pt,x.g)))=o from ho] at h2
     exact h2)
    obtain⟨i,hi⟩:∃ q,decide (Tf x)=q:=⟨_,rfl⟩
    have I:=Aa (fun u=>by
     have h2:=Mn x.hA x.h.length x.hc x.h (Bs w6 u) ((og.1.below (Af w6 u)).more (Af w6 u).size) rfl jb.2.2.2.2.1 jb.2.2.2.2.2.2.1
     rw [show decide (D9 (x.h.map Aq.pt))=i from hi] at h2
     exact h2)
    clear d2 d4 d5 d6 F6 hq og nt hB eb
    cases o with
    | false=>
      have HE:=Aa (show decide (Cy (L.map Ay.wp))=false from decide_eq_false (fun h=> by
       have h1:=m8.out.1 (HM.out.1 h).1
       cases p with
       | none=>exact (decide_eq_false_iff_not.1 ho) h1.1
       | some p=>exact (decide_eq_false_iff_not.1 ho) h1.1))
      clear fg hx ba jb ti HC m8 ho hi I Hp;go_wp2_with fail;refine Aj (by kernel_rfl) (by kernel_rfl) ?_
      repeat (
       refine WQ.step (fun K hK=>?_)
       go_simp
       first
        | (refine hK _ ?_;clear hK K)
        | (apply Exists.intro
           refine⟨fun _=>?_,hK _ ?_⟩
           (first
             | (go_at_call 129;with_reducible exact Al (Ag P _))
             | (go_at_call 90;with_reducible exact Al (Ag I _))
             | (go_at_call 130;with_reducible exact Al (Ag Q _)))
           clear hK K))
      refine WQ.nil ?_;intro u;have fw:=Ad (Ad hb dx.out) (Af _ u);go_wp2_with fail;go_ret;exact⟨Ae HE.out.symm,fw⟩
    | true=>
      cases i with
      | false=>
        have HE:=Aa (show decide (Cy (L.map Ay.wp))=false from decide_eq_false (fun h=> (decide_eq_false_iff_not.1 hi) ((HM.out.1 h).2 x ba)));clear fg hx ba jb ti HC m8 ho hi Hp;go_wp2_with fail;refine Aj (by kernel_rfl) (by kernel_rfl) ?_
        repeat (
         refine WQ.step (fun K hK=>?_)
         go_simp
         first
          | (refine hK _ ?_;clear hK K)
          | (apply Exists.intro
             refine⟨fun _=>?_,hK _ ?_⟩
             (first
               | (go_at_call 129;with_reducible exact Al (Ag P _))
               | (go_at_call 90;with_reducible exact Al (Ag I _))
               | (go_at_call 130;with_reducible exact Al (Ag Q _)))
             clear hK K))
        refine WQ.nil ?_;intro u;have fw:=Ad (Ad hb dx.out) (Af _ u);go_wp2_with fail;go_ret;exact⟨Ae HE.out.symm,fw⟩
      | true=>
        have fy:Gr x.en:=decide_eq_true_iff.1 ho;have hhp:Tf x:=decide_eq_true_iff.1 hi
        have Htk:=Aa (show ∀ z∈L.take (j+1),Tf z by
         rw [List.take_succ_eq_append_getElem ap,hx]
         intro z hz
         rcases List.mem_append.1 hz with h | h
         ·exact HT.out z h
         ·rw [List.mem_singleton.1 h];exact hhp)
        have jx:=Aa (show some (x.t,x.r)=if j+1=0 then none else (L[j+1 - 1]?).map fun x=>(x.t,x.r) by rw [if_neg (Nat.succ_ne_zero j),Nat.add_sub_cancel,List.getElem?_eq_getElem ap,hx];rfl);rcases Nat.eq_zero_or_pos j with hj0 | hj0
        ·have zg:decide (0 < j)=false:=decide_eq_false (by omega);have zg1:decide ((0:Int) < j)=false:=decide_eq_false (by omega);have zg2:¬ (0:Int) < j:=by omega
         have zg3:¬ 0 < j:=by omega
         have Hp0:p=none:=by rw [Hp.out,if_pos hj0]
         subst Hp0;have VI:=Aa (m8.out.trans (show De none (x.en :: (L.drop (j+1)).map Ay.en)↔De (some (x.t,x.r)) ((L.drop (j+1)).map Ay.en) from⟨fun h=>h.2,fun h=>⟨fy,h⟩⟩));clear fg hx ba jb ti HC m8 ho hi hhp Hp fy hj0;go_wp2_with fail;refine Aj (by kernel_rfl) (by kernel_rfl) ?_
         repeat (
          refine WQ.step (fun K hK=>?_)
          go_simp
          first
           | (refine hK _ ?_;clear hK K)
           | (apply Exists.intro
              refine⟨fun _=>?_,hK _ ?_⟩
              (first
                | (go_at_call 129;with_reducible exact Al (Ag P _))
                | (go_at_call 90;with_reducible exact Al (Ag I _))
                | (go_at_call 130;with_reducible exact Al (Ag Q _)))
              clear hK K))
         refine WQ.nil ?_;intro u;have fw:=Ad (Ad hb dx.out) (Af _ u);go_wp2_with fail;go_roundw
         case rel=>exact⟨j+1,some (x.t,x.r),by omega,by go_num,jx,VI,Htk,fw⟩
         case measure=>simp [intOf];omega
        ·have zs:(j:Int) - 1=((j - 1:Nat):Int):=by omega
         have zk:((j - 1:Nat):Int) < n:=by omega
         have zk0:(0:Int)<=((j - 1:Nat):Int):=by omega
         have z5:(0:Int) < j:=by omega
         obtain⟨k,hk⟩:∃ k,j - 1=k:=⟨_,rfl⟩;rw [hk] at zs zk zk0;have zw:IntKind.i64.wrap (k:Int)=k:=IntWalk.i64_in _ (by omega);have YA:k < L.length:=by omega
         obtain⟨e0,e1,-,-,-,-,-⟩:=fg k YA;obtain⟨y,hy⟩:∃ y,L[k]=y:=⟨_,rfl⟩;rw [hy] at e0 e1;replace e0:=Ac dx.out iy.out e0;replace e1:=Ac dx.out iy.out e1;have Hp1:p=some (y.t,y.r):=by rw [Hp.out,if_neg (by omega),hk,List.getElem?_eq_getElem YA,hy];rfl
         subst Hp1;have Q:=Aa (fun u=>Uu y.t y.r x.t x.r (Bs w6 u))
         cases xg:lessB y.t y.r x.t x.r with
         | false=>
           rw [xg] at Q
           have HE:=Aa (show decide (Cy (L.map Ay.wp))=false from decide_eq_false (fun h=> by
            have h1:=m8.out.1 (HM.out.1 h).1
            have h2:lessB y.t y.r x.t x.r=true:=h1.2.1
            rw [xg] at h2
            cases h2))
           clear fg hx ba jb ti HC m8 ho hi hhp Hp fy hk hy xg;go_wp2_with fail;refine Aj (by kernel_rfl) (by kernel_rfl) ?_
           repeat (
            refine WQ.step (fun K hK=>?_)
            go_simp
            first
             | (refine hK _ ?_;clear hK K)
             | (apply Exists.intro
                refine⟨fun _=>?_,hK _ ?_⟩
                (first
                  | (go_at_call 129;with_reducible exact Al (Ag P _))
                  | (go_at_call 90;with_reducible exact Al (Ag I _))
                  | (go_at_call 130;with_reducible exact Al (Ag Q _)))
                clear hK K))
           refine WQ.nil ?_;intro u;have fw:=Ad (Ad hb dx.out) (Af _ u);go_wp2_with fail;go_ret;exact⟨Ae HE.out.symm,fw⟩
         | true=>
           rw [xg] at Q;have VI:=Aa (m8.out.trans (show De (some (y.t,y.r)) (x.en :: (L.drop (j+1)).map Ay.en)↔De (some (x.t,x.r)) ((L.drop (j+1)).map Ay.en) from⟨fun h=>h.2.2,fun h=>⟨fy,xg,h⟩⟩));clear fg hx ba jb ti HC m8 ho hi hhp Hp fy hk hy xg;go_wp2_with fail;refine Aj (by kernel_rfl) (by kernel_rfl) ?_
           repeat (
            refine WQ.step (fun K hK=>?_)
            go_simp
            first
             | (refine hK _ ?_;clear hK K)
             | (apply Exists.intro
                refine⟨fun _=>?_,hK _ ?_⟩
                (first
                  | (go_at_call 129;with_reducible exact Al (Ag P _))
                  | (go_at_call 90;with_reducible exact Al (Ag I _))
                  | (go_at_call 130;with_reducible exact Al (Ag Q _)))
                clear hK K))
           refine WQ.nil ?_;intro u;have fw:=Ad (Ad hb dx.out) (Af _ u);go_wp2_with fail;go_roundw
           case rel=>exact⟨j+1,some (x.t,x.r),by omega,by go_num,jx,VI,Htk,fw⟩
           case measure=>simp [intOf];omega
  ·have z0:¬ (j:Int) < n:=by omega
   have HE:=Aa (show decide (Cy (L.map Ay.wp))=true from decide_eq_true (HM.out.2 ⟨HC.out.2 (by rw [List.drop_eq_nil_of_le (by rw [Hn.out];omega)];trivial),by have:=HT.out;rwa [List.take_of_length_le (by rw [Hn.out];omega)] at this⟩));go_wp2_with fail;go_ret;exact⟨Ae HE.out.symm,hb⟩
end Go.Proofs.YtmkpfdcnikgokaaGreat
