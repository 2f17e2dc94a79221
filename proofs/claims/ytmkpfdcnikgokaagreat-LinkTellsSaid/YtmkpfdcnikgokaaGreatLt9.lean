/-
  Texts of this claim, put together: CodeNext, Spans. What each theorem asks stands in its statement.
-/
import Derived.Test.YtmkpfdcnikgokaaGreatLt1
import Derived.Test.YtmkpfdcnikgokaaGreatLt5
import Derived.Test.YtmkpfdcnikgokaaGreatLt8
set_option linter.unusedVariables false
set_option linter.unusedSimpArgs false
set_option maxRecDepth 100000
set_option maxHeartbeats 25600000
namespace Go.Proofs.YtmkpfdcnikgokaaGreat
open Go.RowKit
theorem RB.sub {w:World} {B b o:Nat} {l:List UInt8} (h:RB w B (some ⟨b,o,none⟩) l) (i j:Nat) (hj:j≤l.length):RB w B (some ⟨b,o+i,none⟩) ((l.take j).drop i):=by
 refine⟨by rw [u8s_len,Nat.mul_one],fun hn=>?_⟩
 have hl:0 < l.length:=by rw [List.length_drop,List.length_take] at hn;omega
 obtain⟨b',o',e,hb,hc⟩:=h.2 hl
 cases e
 refine⟨b,o+i,rfl,hb,fun k u hu=>?_⟩
 rw [←u8s_drop,←u8s_take,List.getElem?_drop,List.getElem?_take] at hu
 split at hu
 ·rw [Nat.add_assoc];exact hc _ _ hu
 ·cases hu
/-- Nothing turns but one block, and what is new. -/
def OnlyAt (g:Nat) (w w':World):Prop:=Below g w w'∧∀ k,k≠g→k < w.heap.size→w'.heap[k]?=w.heap[k]?
theorem OnlyAt.refl (g:Nat) (w:World):OnlyAt g w w:=⟨Below.refl _ _,fun _ _ _=>rfl⟩
theorem OnlyAt.trans {g:Nat} {a b c:World} (h:OnlyAt g a b) (k:OnlyAt g b c):OnlyAt g a c:=
 ⟨h.1.trans k.1,fun x hx hl=>(k.2 x hx (Nat.lt_of_lt_of_le hl h.1.size)).trans (h.2 x hx hl)⟩
theorem OnlyAt.below {g:Nat} {a b:World} (h:Below a.heap.size a b) (hg:g≤a.heap.size):OnlyAt g a b:=⟨h.mono hg,fun x _ hl=>h.block x hl⟩
theorem OnlyAt.set (g off:Nat) (w:World) (v:Value):OnlyAt g w (w.setCell ⟨g,off,none⟩ v):=⟨(Below.refl g w).setCell (p:=⟨g,off,none⟩) (Nat.le_refl _) _,fun _ hx _=>heap_setCell_other _ _ _ _ hx⟩
theorem FB.only {w w':World} {g g':Nat} {k t r s z:Value} (h:FB w g k t r s z) (ho:OnlyAt g' w w') (hne:g≠g'):FB w' g k t r s z:=(ho.2 g hne h.lt).trans h
/-- The reader's box. -/
def RDR (w:World) (g:Nat) (A:Option Addr) (n c at':Nat) (bad:Bool):Prop:=w.heap[g]?=some (.cells #[.slice A n c,.int .i64 (at':Int),.bool bad] 178 (0,0))
theorem RDR.lt {w:World} {g n c at':Nat} {A:Option Addr} {bad:Bool} (h:RDR w g A n c at' bad):g < w.heap.size:=(Array.getElem?_eq_some_iff.1 h).1
theorem RDR.cells {w:World} {g n c at':Nat} {A:Option Addr} {bad:Bool} (h:RDR w g A n c at' bad):w.cell? ⟨g,0,none⟩=some (.slice A n c)∧w.cell? ⟨g,1,none⟩=some (.int .i64 (at':Int))∧w.cell? ⟨g,2,none⟩=some (.bool bad):=by
 refine⟨?_,?_,?_⟩ <;> (rw [cell_of_row _ _ _ _ _ _ h];rfl)
theorem RDR.below {w w':World} {g n c at':Nat} {A:Option Addr} {bad:Bool} (h:RDR w g A n c at' bad) (hb:Below w.heap.size w w'):RDR w' g A n c at' bad:=(hb.block g h.lt).trans h
theorem RDR.set1 {w:World} {g n c at':Nat} {A:Option Addr} {bad:Bool} (h:RDR w g A n c at' bad) (a2:Nat):RDR (w.setCell ⟨g,1,none⟩ (.int .i64 (a2:Int))) g A n c a2 bad:=heap_setCell_same _ _ _ _ _ _ h
theorem RDR.set2 {w:World} {g n c at':Nat} {A:Option Addr} {bad:Bool} (h:RDR w g A n c at' bad) (b2:Bool):RDR (w.setCell ⟨g,2,none⟩ (.bool b2)) g A n c at' b2:=heap_setCell_same _ _ _ _ _ _ h
theorem next_bad (A:Option Addr) (n c g at':Nat) (lo hi:Int) (w:World) (h:RDR w g A n c at' true):
 Calls Tryz.prog 135 #[.pointer (some ⟨g,0,none⟩),.int .i64 lo,.int .i64 hi] w fun e w'=>e= .returned (.int .i64 lo)∧w'=w:=by
 obtain⟨c0,c1,c2⟩:=h.cells
 go_enter Tryz.func135,Tryz.ntmps135
 go_wp2_with fail
 go_ret
 exact⟨rfl,rfl⟩
theorem get_past (A:Option Addr) (n c:Nat) (l:List UInt8) (w u:World) (hr:RB w w.heap.size A l) (hn:l.length=n) (hl:n < 1073741824):
 Calls Tryz.prog 99 #[.slice A n c] (past w u) fun e w'=>e= .returned (gval (gget l))∧Below (past w u).heap.size (past w u) w':=by
 subst hn
 refine (get_any A c l (past w u) ((RD.below hr (below_past w u)).more (below_past w u).size) hl).mono ?_
 rintro e w' ⟨he,rfl⟩
 exact⟨he,Below.refl _ _⟩
theorem next_mid (b0 o0:Nat) (b:List UInt8) (n c g a:Nat) (lo hi:Int) (w:World) (h:RDR w g (some ⟨b0,o0,none⟩) n c a false) (hr:RB w w.heap.size (some ⟨b0,o0,none⟩) b) (hn:b.length=n) (hl:n < 1073741824) (ha:a≤n) (hc:n≤c) (hca:c≠a):
 Calls Tryz.prog 135 #[.pointer (some ⟨g,0,none⟩),.int .i64 lo,.int .i64 hi] w fun e w'=>∃ x a' bd,e= .returned (.int .i64 x)∧RDR w' g (some ⟨b0,o0,none⟩) n c a' bd∧OnlyAt g w w'∧a'≤n∧
  (∀ y q,nxt b a lo hi=some (y,q)→x=y∧a'=q∧bd=false)∧(nxt b a lo hi=none→x=lo∧bd=true):=by
 obtain⟨c0,c1,c2⟩:=h.cells
 have hlt:=h.lt
 have hrs:RB w w.heap.size (some ⟨b0,o0+a,none⟩) (b.drop a):=by
  have:=hr.sub a b.length (Nat.le_refl _)
  rwa [List.take_length] at this
 have G:=hide (fun u=>get_past (some ⟨b0,o0+a,none⟩) (n - a) (c - a) (b.drop a) w u hrs (by rw [List.length_drop,hn]) (by omega))
 have hR:=hide h
 have z1:(0:Int)≤a:=by omega
 have z2:(a:Int)≤n:=by omega
 have z3:(n:Int)≤c:=by omega
 have z4:(a:Int)≤c:=by omega
 clear hr hrs h
 cases hg:gget (b.drop a) with
 | none=>
   rw [hg] at G
   have hx:nxt b a lo hi=none:=by unfold nxt;rw [hg]
   have Hx:=hide hx
   have Ha:=hide ha
   unfold gval at G
   clear hg hx hn
   go_enter Tryz.func135,Tryz.ntmps135
   go_wp2_with fail
   refine wp_region_wq (by kernel_rfl) (by kernel_rfl) ?_
   repeat (
    refine WQ.step (fun K hK=>?_)
    go_simp
    first
     | (refine hK _ ?_;clear hK K)
     | (apply Exists.intro
        refine⟨fun _=>?_,hK _ ?_⟩
        (go_at_call 99;with_reducible exact past_call (unhide G _))
        clear hK K))
   refine WQ.nil ?_
   intro u
   have hb1:=below_past w u
   have hR1:=hR.out.below hb1
   have ho1:=OnlyAt.below hb1 (Nat.le_of_lt hlt)
   generalize past w u=W at hb1 hR1 ho1 ⊢
   clear c0 c1 c2 hb1
   obtain⟨c0,c1,c2⟩:=hR1.cells
   have f1:=frozen_of_row W g 1 _ _ hR1
   have f2:=frozen_of_row W g 2 _ _ hR1
   have hR2:=hR1.set1 a
   have ho2:=ho1.trans (OnlyAt.set g 1 W (.int .i64 ((a:Nat):Int)))
   have hR3:=hR2.set2 true
   have ho3:=ho2.trans (OnlyAt.set g 2 _ (.bool true))
   have HR3:=hide hR3
   have HO3:=hide ho3
   clear hR1 ho1 hR2 ho2 hR3 ho3
   go_wp2_with fail
   refine bodyPost_ret (v:= .int .i64 lo) (by simp [results,Tryz.results135,go_sem]) rfl ?_
   exact⟨_,a,true,rfl,HR3.out,HO3.out,Ha.out,fun y q e=>(by rw [Hx.out] at e;cases e),fun _=>⟨rfl,rfl⟩⟩
 | some q=>
   obtain⟨v,s⟩:=q
   obtain⟨v1,v2,-,-⟩:=gget_inv hg
   rw [List.length_drop,hn] at v2
   rw [hg] at G
   unfold gval at G
   have zw:IntKind.i64.wrap ((a:Int)+(s:Int))=(a:Int)+(s:Int):=IntWalk.i64_in _ (by omega)
   have hcast:((a+s:Nat):Int)=(a:Int)+(s:Int):=by omega
   have Ha:=hide (show a+s≤n by omega)
   by_cases h1:(v:Int) < lo
   ·have Hx:=hide (show nxt b a lo hi=none by unfold nxt;rw [hg];exact if_pos (.inl h1))
    clear hg hn
    go_enter Tryz.func135,Tryz.ntmps135
    go_wp2_with fail
    refine wp_region_wq (by kernel_rfl) (by kernel_rfl) ?_
    repeat (
     refine WQ.step (fun K hK=>?_)
     go_simp
     first
      | (refine hK _ ?_;clear hK K)
      | (apply Exists.intro
         refine⟨fun _=>?_,hK _ ?_⟩
         (go_at_call 99;with_reducible exact past_call (unhide G _))
         clear hK K))
    refine WQ.nil ?_
    intro u
    have hb1:=below_past w u
    have hR1:=hR.out.below hb1
    have ho1:=OnlyAt.below hb1 (Nat.le_of_lt hlt)
    generalize past w u=W at hb1 hR1 ho1 ⊢
    clear c0 c1 c2 hb1
    obtain⟨c0,c1,c2⟩:=hR1.cells
    have f1:=frozen_of_row W g 1 _ _ hR1
    have f2:=frozen_of_row W g 2 _ _ hR1
    have hR2:=hR1.set1 (a+s)
    have ho2:=ho1.trans (OnlyAt.set g 1 W (.int .i64 (((a+s):Nat):Int)))
    have hR3:=hR2.set2 true
    have ho3:=ho2.trans (OnlyAt.set g 2 _ (.bool true))
    have HR3:=hide hR3
    have HO3:=hide ho3
    clear hR1 ho1 hR2 ho2 hR3 ho3
    go_wp2_with fail
    refine bodyPost_ret (v:= .int .i64 lo) (by simp [results,Tryz.results135,go_sem]) rfl ?_
    exact⟨_,(a+s),true,rfl,HR3.out,HO3.out,Ha.out,fun y q e=>(by rw [Hx.out] at e;cases e),fun _=>⟨rfl,rfl⟩⟩
   by_cases h2:hi < (v:Int)
   ·have Hx:=hide (show nxt b a lo hi=none by unfold nxt;rw [hg];exact if_pos (.inr h2))
    clear hg hn
    go_enter Tryz.func135,Tryz.ntmps135
    go_wp2_with fail
    refine wp_region_wq (by kernel_rfl) (by kernel_rfl) ?_
    repeat (
     refine WQ.step (fun K hK=>?_)
     go_simp
     first
      | (refine hK _ ?_;clear hK K)
      | (apply Exists.intro
         refine⟨fun _=>?_,hK _ ?_⟩
         (go_at_call 99;with_reducible exact past_call (unhide G _))
         clear hK K))
    refine WQ.nil ?_
    intro u
    have hb1:=below_past w u
    have hR1:=hR.out.below hb1
    have ho1:=OnlyAt.below hb1 (Nat.le_of_lt hlt)
    generalize past w u=W at hb1 hR1 ho1 ⊢
    clear c0 c1 c2 hb1
    obtain⟨c0,c1,c2⟩:=hR1.cells
    have f1:=frozen_of_row W g 1 _ _ hR1
    have f2:=frozen_of_row W g 2 _ _ hR1
    have hR2:=hR1.set1 (a+s)
    have ho2:=ho1.trans (OnlyAt.set g 1 W (.int .i64 (((a+s):Nat):Int)))
    have hR3:=hR2.set2 true
    have ho3:=ho2.trans (OnlyAt.set g 2 _ (.bool true))
    have HR3:=hide hR3
    have HO3:=hide ho3
    clear hR1 ho1 hR2 ho2 hR3 ho3
    go_wp2_with fail
    refine bodyPost_ret (v:= .int .i64 lo) (by simp [results,Tryz.results135,go_sem]) rfl ?_
    exact⟨_,(a+s),true,rfl,HR3.out,HO3.out,Ha.out,fun y q e=>(by rw [Hx.out] at e;cases e),fun _=>⟨rfl,rfl⟩⟩
   have Hx:=hide (show nxt b a lo hi=some ((v:Int),a+s) by unfold nxt;rw [hg];exact if_neg (by omega))
   clear hg hn
   go_enter Tryz.func135,Tryz.ntmps135
   go_wp2_with fail
   refine wp_region_wq (by kernel_rfl) (by kernel_rfl) ?_
   repeat (
    refine WQ.step (fun K hK=>?_)
    go_simp
    first
     | (refine hK _ ?_;clear hK K)
     | (apply Exists.intro
        refine⟨fun _=>?_,hK _ ?_⟩
        (go_at_call 99;with_reducible exact past_call (unhide G _))
        clear hK K))
   refine WQ.nil ?_
   intro u
   have hb1:=below_past w u
   have hR1:=hR.out.below hb1
   have ho1:=OnlyAt.below hb1 (Nat.le_of_lt hlt)
   generalize past w u=W at hb1 hR1 ho1 ⊢
   clear c0 c1 c2 hb1
   obtain⟨c0,c1,c2⟩:=hR1.cells
   have f1:=frozen_of_row W g 1 _ _ hR1
   have f2:=frozen_of_row W g 2 _ _ hR1
   have hR2:=hR1.set1 (a+s)
   have ho2:=ho1.trans (OnlyAt.set g 1 W (.int .i64 (((a+s):Nat):Int)))
   have hR3:=hR2.set2 false
   have ho3:=ho2.trans (OnlyAt.set g 2 _ (.bool false))
   have HR3:=hide hR3
   have HO3:=hide ho3
   clear hR1 ho1 hR2 ho2 hR3 ho3
   have Hdd:=hide (show (decide ((v:Int) < lo) || decide (hi < (v:Int)))=false by simp;omega)
   go_wp2_with fail
   refine bodyPost_ret (v:= .int .i64 (v:Int)) (by simp [results,Tryz.results135,go_sem]) rfl ?_
   exact⟨_,(a+s),false,rfl,by rw [Hdd.out];exact HR3.out,by rw [Hdd.out];exact HO3.out,Ha.out,fun y q e=>(by rw [Hx.out] at e;simp only [Option.some.injEq,Prod.mk.injEq] at e;exact⟨e.1,e.2,rfl⟩),fun e=>(by rw [Hx.out] at e;cases e)⟩
theorem next_end (A:Option Addr) (b:List UInt8) (n g:Nat) (lo hi:Int) (w:World) (h:RDR w g A n n n false) (hn:b.length=n) (hl:n < 1073741824):
 Calls Tryz.prog 135 #[.pointer (some ⟨g,0,none⟩),.int .i64 lo,.int .i64 hi] w fun e w'=>∃ x a' bd,e= .returned (.int .i64 x)∧RDR w' g A n n a' bd∧OnlyAt g w w'∧a'≤n∧
  (∀ y q,nxt b n lo hi=some (y,q)→x=y∧a'=q∧bd=false)∧(nxt b n lo hi=none→x=lo∧bd=true):=by
 obtain⟨c0,c1,c2⟩:=h.cells
 have hlt:=h.lt
 have G:=hide (fun u=>get_past A 0 0 [] w u RD.nil_ rfl (by omega))
 have hR:=hide h
 have z1:(0:Int)≤n:=by omega
 have z2:(n:Int)≤n:=by omega
 have Hx:=hide (show nxt b n lo hi=none by
  unfold nxt
  rw [List.drop_eq_nil_of_le (by omega)]
  rfl)
 have Ha:=hide (Nat.le_refl n)
 have hgn:gget []=none:=rfl
 rw [hgn] at G
 unfold gval at G
 clear h hn hgn
 go_enter Tryz.func135,Tryz.ntmps135
 go_wp2_with fail
 refine wp_region_wq (by kernel_rfl) (by kernel_rfl) ?_
 repeat (
  refine WQ.step (fun K hK=>?_)
  go_simp
  first
   | (refine hK _ ?_;clear hK K)
   | (apply Exists.intro
      refine⟨fun _=>?_,hK _ ?_⟩
      (go_at_call 99;with_reducible exact past_call (unhide G _))
      clear hK K))
 refine WQ.nil ?_
 intro u
 have hb1:=below_past w u
 have hR1:=hR.out.below hb1
 have ho1:=OnlyAt.below hb1 (Nat.le_of_lt hlt)
 generalize past w u=W at hb1 hR1 ho1 ⊢
 clear c0 c1 c2 hb1
 obtain⟨c0,c1,c2⟩:=hR1.cells
 have f1:=frozen_of_row W g 1 _ _ hR1
 have f2:=frozen_of_row W g 2 _ _ hR1
 have hR2:=hR1.set1 n
 have ho2:=ho1.trans (OnlyAt.set g 1 W (.int .i64 ((n:Nat):Int)))
 have hR3:=hR2.set2 true
 have ho3:=ho2.trans (OnlyAt.set g 2 _ (.bool true))
 have HR3:=hide hR3
 have HO3:=hide ho3
 clear hR1 ho1 hR2 ho2 hR3 ho3
 go_wp2_with fail
 refine bodyPost_ret (v:= .int .i64 lo) (by simp [results,Tryz.results135,go_sem]) rfl ?_
 exact⟨_,n,true,rfl,HR3.out,HO3.out,Ha.out,fun y q e=>(by rw [Hx.out] at e;cases e),fun _=>⟨rfl,rfl⟩⟩
theorem next_void (q:Addr) (c g:Nat) (lo hi:Int) (w:World) (h:RDR w g (some q) 0 c 0 false) (hca:¬ c=0):
 Calls Tryz.prog 135 #[.pointer (some ⟨g,0,none⟩),.int .i64 lo,.int .i64 hi] w fun e w'=>∃ x a' bd,e= .returned (.int .i64 x)∧RDR w' g (some q) 0 c a' bd∧OnlyAt g w w'∧a'≤0∧
  (∀ y q,nxt [] 0 lo hi=some (y,q)→x=y∧a'=q∧bd=false)∧(nxt [] 0 lo hi=none→x=lo∧bd=true):=by
 obtain⟨blk,off,sp⟩:=q
 obtain⟨c0,c1,c2⟩:=h.cells
 have hlt:=h.lt
 have G:=hide (fun u=>get_past (some ⟨blk,off,sp⟩) 0 c [] w u RD.nil_ rfl (by omega))
 have hR:=hide h
 have z1:(0:Int)≤c:=by omega
 have Hx:=hide (show nxt [] 0 lo hi=none from rfl)
 have Ha:=hide (Nat.le_refl 0)
 have hgn:gget []=none:=rfl
 rw [hgn] at G
 unfold gval at G
 clear h hgn
 go_enter Tryz.func135,Tryz.ntmps135
 go_wp2_with fail
 refine wp_region_wq (by kernel_rfl) (by kernel_rfl) ?_
 repeat (
  refine WQ.step (fun K hK=>?_)
  go_simp
  first
   | (refine hK _ ?_;clear hK K)
   | (apply Exists.intro
      refine⟨fun _=>?_,hK _ ?_⟩
      (go_at_call 99;with_reducible exact past_call (unhide G _))
      clear hK K))
 refine WQ.nil ?_
 intro u
 have hb1:=below_past w u
 have hR1:=hR.out.below hb1
 have ho1:=OnlyAt.below hb1 (Nat.le_of_lt hlt)
 generalize past w u=W at hb1 hR1 ho1 ⊢
 clear c0 c1 c2 hb1
 obtain⟨c0,c1,c2⟩:=hR1.cells
 have f1:=frozen_of_row W g 1 _ _ hR1
 have f2:=frozen_of_row W g 2 _ _ hR1
 have hR2:=hR1.set1 0
 have ho2:=ho1.trans (OnlyAt.set g 1 W (.int .i64 ((0:Nat):Int)))
 have hR3:=hR2.set2 true
 have ho3:=ho2.trans (OnlyAt.set g 2 _ (.bool true))
 have HR3:=hide hR3
 have HO3:=hide ho3
 clear hR1 ho1 hR2 ho2 hR3 ho3
 go_wp2_with fail
 refine bodyPost_ret (v:= .int .i64 lo) (by simp [results,Tryz.results135,go_sem]) rfl ?_
 exact⟨_,0,true,rfl,HR3.out,HO3.out,Ha.out,fun y q e=>(by rw [Hx.out] at e;cases e),fun _=>⟨rfl,rfl⟩⟩
/-- next, where nothing is wrong yet. -/
theorem next_ok (A:Option Addr) (b:List UInt8) (n c g a:Nat) (lo hi:Int) (w:World) (h:RDR w g A n c a false) (hr:RB w w.heap.size A b) (hn:b.length=n) (hl:n < 1073741824) (ha:a≤n) (hc:n≤c) (hA:A=none→c=0):
 Calls Tryz.prog 135 #[.pointer (some ⟨g,0,none⟩),.int .i64 lo,.int .i64 hi] w fun e w'=>∃ x a' bd,e= .returned (.int .i64 x)∧RDR w' g A n c a' bd∧OnlyAt g w w'∧a'≤n∧
  (∀ y q,nxt b a lo hi=some (y,q)→x=y∧a'=q∧bd=false)∧(nxt b a lo hi=none→x=lo∧bd=true):=by
 by_cases hca:c=a
 ·obtain rfl:n=c:=by omega
  subst hca
  exact next_end A b n g lo hi w h hn hl
 ·by_cases hb:0 < b.length
  ·obtain⟨b0,o0,rfl,-⟩:=RB.cell hr hb
   exact next_mid b0 o0 b n c g a lo hi w h hr hn hl ha hc hca
  ·cases A with
   | none=>have:=hA rfl;omega
   | some q=>
     obtain rfl:n=0:=by omega
     obtain rfl:a=0:=by omega
     obtain rfl:b= []:=List.eq_nil_of_length_eq_zero hn
     exact next_void q c g lo hi w h hca
/-- A span. -/
abbrev Sp:=Int×Int
/-- Spans as cells. -/
def sps (l:List Sp):List Value:=l.flatMap fun x=> [.int .u32 x.1,.int .u32 x.2]
theorem sps_append (a b:List Sp):sps (a++b)=sps a++sps b:=by simp [sps]
theorem sps_get (l:List Sp):∀ (i:Nat) (h:i < l.length),(sps l)[i * 2]?=some (.int .u32 l[i].1)∧(sps l)[i * 2+1]?=some (.int .u32 l[i].2):=by
 induction l with
 | nil=>intro i h;simp at h
 | cons a l ih=>
   intro i h
   have e:sps (a :: l)= .int .u32 a.1 :: .int .u32 a.2 :: sps l:=rfl
   rw [e]
   cases i with
   | zero=>exact⟨rfl,rfl⟩
   | succ i=>
     have:=ih i (by simpa using h)
     rw [show (i+1) * 2=i * 2+2 by omega]
     exact this
theorem sps_one (l:List Sp):∀ u∈sps l,u.oneCell'=true:=by
 intro u hu
 simp only [sps,List.mem_flatMap] at hu
 obtain⟨a,_,h⟩:=hu
 simp at h
 rcases h with rfl | rfl <;> rfl
/-- A slice of spans that is read. -/
def RS (w:World) (B:Nat) (A:Option Addr) (l:List Sp):Prop:=RD w B 2 A l.length (sps l)
theorem RS.cell {w:World} {B:Nat} {A:Option Addr} {l:List Sp} (h:RS w B A l) (hl:0 < l.length):
 ∃ b off,A=some ⟨b,off,none⟩∧b < B∧∀ j (hj:j < l.length),w.cell? ⟨b,off+j * 2,none⟩=some (.int .u32 l[j].1)∧w.cell? ⟨b,off+j * 2+1,none⟩=some (.int .u32 l[j].2):=by
 obtain⟨b,off,e,hb,hc⟩:=h.2 hl
 refine⟨b,off,e,hb,fun j hj=>⟨hc (j * 2) _ (sps_get l j hj).1,?_⟩⟩
 have:=hc (j * 2+1) _ (sps_get l j hj).2
 rwa [←Nat.add_assoc] at this
/-- The parts of a span are of their types. -/
def okS (x:Sp):Prop:=0≤x.1∧x.1 < 4294967296∧0≤x.2∧x.2 < 4294967296
/-- May spans be, from a time on? -/
def chainS:Int→List Sp→Prop
 | _, []=>True
 | least,x :: l=>least≤x.1∧x.1≤x.2∧x.2≤1073741824∧chainS (x.2+2) l
instance decChainS:∀ (least:Int) (l:List Sp),Decidable (chainS least l)
 | _, []=> .isTrue trivial
 | least,x :: l=>by
   have:=decChainS (x.2+2) l
   unfold chainS
   infer_instance
def mayS (l:List Sp):Prop:=l.length≤1024∧chainS 1 l
instance (l:List Sp):Decidable (mayS l):=by unfold mayS;infer_instance
def chkS (l:List Sp):Int:=if mayS l then 0 else 8
/-- How many times spans have. -/
def sumS:List Sp→Int
 | []=>0
 | x :: l=>(x.2 - x.1+1)+sumS l
def cntS (l:List Sp):Int:=if mayS l then sumS l else 0
theorem sumS_snoc (l:List Sp) (x:Sp):sumS (l++ [x])=sumS l+(x.2 - x.1+1):=by
 induction l with
 | nil=>simp [sumS]
 | cons y l ih=>simp only [List.cons_append,sumS,ih];omega
theorem chainS_take:∀ (l:List Sp) (least:Int) (j:Nat),chainS least l→chainS least (l.take j)
 | [],_,_,_=>by simp [chainS]
 | x :: l,least,0,_=>by simp [chainS]
 | x :: l,least,j+1,h=>by
   obtain⟨h1,h2,h3,h4⟩:=h
   exact⟨h1,h2,h3,chainS_take l _ j h4⟩
theorem chainS_at:∀ (l:List Sp) (least:Int) (j:Nat) (h:j < l.length),chainS least l→l[j].1≤l[j].2∧l[j].2≤1073741824∧least≤l[j].1
 | x :: l,least,0,_,hc=>⟨hc.2.1,hc.2.2.1,hc.1⟩
 | x :: l,least,j+1,h,hc=>by
   obtain⟨h1,h2,h3,h4⟩:=hc
   have hj:j < l.length:=by simpa using h
   have:=chainS_at l _ j hj h4
   refine⟨by simpa using this.1,by simpa using this.2.1,?_⟩
   have h5:x.2+2≤l[j].1:=this.2.2
   have e:(x :: l)[j+1].1=l[j].1:=rfl
   rw [e]
   omega
theorem sumS_le:∀ (l:List Sp) (least:Int),1≤least→chainS least l→0≤sumS l∧(l≠ []→sumS l+least≤1073741825)
 | [],_,_,_=>⟨by simp [sumS],fun h=>(h rfl).elim⟩
 | x :: l,least,hl,h=>by
   obtain⟨h1,h2,h3,h4⟩:=h
   obtain⟨g1,g2⟩:=sumS_le l (x.2+2) (by omega) h4
   refine⟨by simp only [sumS];omega,fun _=>?_⟩
   simp only [sumS]
   by_cases hn:l= []
   ·subst hn
    simp only [sumS]
    omega
   ·have:=g2 hn
    omega
/-- A box of two. -/
def PB (w:World) (g:Nat) (a b:Value) (T:TypeId):Prop:=w.heap[g]?=some (.cells #[a,b] T (0,0))
theorem two_pb (w:World) (a b:Value) (T:TypeId):∃ w2,w.alloc (.cells #[a,b] T)=w2∧PB w2 w.heap.size a b T∧w.heap.size < w2.heap.size∧Below w.heap.size w w2:=
 ⟨_,rfl,heap_alloc_new _ _,by simp,boxed _ _⟩
theorem PB.cells {w:World} {g:Nat} {a b:Value} {T:TypeId} (h:PB w g a b T):w.cell? ⟨g,0,none⟩=some a∧w.cell? ⟨g,1,none⟩=some b:=by
 refine⟨?_,?_⟩ <;> (rw [cell_of_row _ _ _ _ _ _ h];rfl)
theorem PB.below {w w':World} {g:Nat} {a b:Value} {T:TypeId} (h:PB w g a b T) (hb:Below w.heap.size w w'):PB w' g a b T:=(hb.block g (Array.getElem?_eq_some_iff.1 h).1).trans h
theorem spcheck_any (A:Option Addr) (n c:Nat) (l:List Sp) (w:World) (hr:RS w w.heap.size A l) (hn:l.length=n) (hok:∀ x∈l,okS x):
 Calls Tryz.prog 171 #[.slice A n c] w fun e w'=>e= .returned (.int .i64 (chkS l))∧Below w.heap.size w w':=by
 by_cases hbig:(1024:Int) < n
 ·have HC:=hide (show chkS l=8 from if_neg (fun h=>by have:=h.1;omega))
  clear hr hn hok
  go_enter Tryz.func171,Tryz.ntmps171
  go_wp2_with fail
  go_ret
  exact⟨by rw [HC.out];rfl,Below.refl _ _⟩
 have Hok:=hide hok
 have Hn:=hide hn
 have HR:=hide hr
 clear hok hn hr
 go_enter Tryz.func171,Tryz.ntmps171
 go_wp2_with fail
 go_loopw [3,11] (fun lv i wr=>∃ (j:Nat) (v:Int),j≤n∧i= .int .i64 (j:Int)∧lv= .int .u32 v∧1≤v∧v≤1073741826∧Hid (chainS 1 l↔chainS v (l.drop j))∧Below w.heap.size w wr) (fun _ i _=>n - (intOf i).toNat)
 case atStart=>exact⟨0,1,by omega,rfl,rfl,by omega,by omega,hide Iff.rfl,Below.refl _ _⟩
 case round=>
  obtain⟨j,v,hj,rfl,rfl,hv1,hv2,HC,hb⟩:=hrel
  by_cases hlt:j < n
  ·have hltL:j < l.length:=by rw [Hn.out];exact hlt
   have z0:(j:Int) < n:=by omega
   have zj:(0:Int)≤j:=by omega
   obtain⟨bb,bo,rfl,hB,hCc⟩:=RS.cell (RD.below HR.out hb) (by omega)
   obtain⟨d0,d1⟩:=hCc j hltL
   obtain⟨x,hx⟩:∃ x,l[j]=x:=⟨_,rfl⟩
   rw [hx] at d0 d1
   have hox:=Hok.out x (by rw [←hx];exact List.getElem_mem hltL)
   have hdr:l.drop j=x :: l.drop (j+1):=by rw [←hx];exact List.drop_eq_getElem_cons hltL
   have HC1:=HC
   rw [hdr] at HC1
   obtain⟨q1,q2,q3,q4⟩:=hox
   obtain⟨x1,hx1⟩:∃ a,x.1=a:=⟨_,rfl⟩
   obtain⟨x2,hx2⟩:∃ a,x.2=a:=⟨_,rfl⟩
   have HC2:Hid (chainS 1 l↔v≤x1∧x1≤x2∧x2≤1073741824∧chainS (x2+2) (l.drop (j+1))):=hide (by rw [←hx1,←hx2];exact HC1.out)
   rw [hx1] at d0 q1 q2
   rw [hx2] at d1 q3 q4
   obtain⟨wx,hwx,FX,hsx,hbx⟩:=two_pb wr (.int .u32 x1) (.int .u32 x2) 129
   obtain⟨y0,y1⟩:=FX.cells
   have hbxx:=fresh hb hbx
   clear hCc hx hdr HC HC1 FX hx1 hx2
   by_cases c1:x1 < v
   ·have HE:=hide (show chkS l=8 from if_neg (fun h=>by have:=(HC2.out.1 h.2).1;omega))
    go_wp2_with fail
    go_ret
    exact⟨by rw [HE.out];rfl,hbxx⟩
   by_cases c2:x2 < x1
   ·have HE:=hide (show chkS l=8 from if_neg (fun h=>by have:=(HC2.out.1 h.2).2.1;omega))
    go_wp2_with fail
    go_ret
    exact⟨by rw [HE.out];rfl,hbxx⟩
   by_cases c3:(1073741824:Int) < x2
   ·have HE:=hide (show chkS l=8 from if_neg (fun h=>by have:=(HC2.out.1 h.2).2.2.1;omega))
    go_wp2_with fail
    go_ret
    exact⟨by rw [HE.out];rfl,hbxx⟩
   ·have zw:IntKind.u32.wrap (x2+2)=x2+2:=IntWalk.u32_in _ (by omega)
    have HC3:=hide (show chainS 1 l↔chainS (x2+2) (l.drop (j+1)) from⟨fun h=>(HC2.out.1 h).2.2.2,fun h=>HC2.out.2 ⟨by omega,by omega,by omega,h⟩⟩)
    go_wp2_with fail
    go_roundw
    case rel=>exact⟨j+1,x2+2,by omega,by go_num,rfl,by omega,by omega,HC3,hbxx⟩
    case measure=>simp [intOf];omega
  ·have z0:¬ (j:Int) < n:=by omega
   have HE:=hide (show chkS l=0 from if_pos ⟨by rw [Hn.out];omega,HC.out.2 (by rw [List.drop_eq_nil_of_le (by rw [Hn.out];omega)];trivial)⟩)
   go_wp2_with fail
   go_ret
   exact⟨by rw [HE.out];rfl,hb⟩
theorem spcount_any (A:Option Addr) (n c:Nat) (l:List Sp) (w:World) (hr:RS w w.heap.size A l) (hn:l.length=n) (hok:∀ x∈l,okS x):
 Calls Tryz.prog 172 #[.slice A n c] w fun e w'=>e= .returned (.int .i64 (cntS l))∧Below w.heap.size w w':=by
 have hP:=hide (spcheck_any A n c l w hr hn hok)
 by_cases hm:mayS l
 rotate_left
 ·rw [show chkS l=8 from if_neg hm] at hP
  have HE:=hide (show cntS l=0 from if_neg hm)
  clear hm hr hn hok
  go_enter Tryz.func172,Tryz.ntmps172
  go_wp2_with fail
  refine hP.out.mono ?_
  rintro e w2 ⟨rfl,hb2⟩
  go_wp2_with fail
  go_ret
  exact⟨by rw [HE.out];rfl,hb2⟩
 rw [show chkS l=0 from if_pos hm] at hP
 have HE:=hide (show cntS l=sumS l from if_pos hm)
 have HM:=hide hm.2
 have hn9:n≤1024:=by rw [←hn];exact hm.1
 have Hn:=hide hn
 have HR:=hide hr
 clear hm hr hn hok
 go_enter Tryz.func172,Tryz.ntmps172
 go_wp2_with fail
 refine hP.out.mono ?_
 rintro e w2 ⟨rfl,hb2⟩
 go_wp2_with fail
 go_loopw [2,10] (fun s i wr=>∃ j:Nat,j≤n∧i= .int .i64 (j:Int)∧s= .int .i64 (sumS (l.take j))∧Below w.heap.size w wr) (fun _ i _=>n - (intOf i).toNat)
 case atStart=>exact⟨0,by omega,rfl,rfl,hb2⟩
 case round=>
  obtain⟨j,hj,rfl,rfl,hb⟩:=hrel
  by_cases hlt:j < n
  ·have hltL:j < l.length:=by rw [Hn.out];exact hlt
   have z0:(j:Int) < n:=by omega
   have zj:(0:Int)≤j:=by omega
   obtain⟨bb,bo,rfl,hB,hCc⟩:=RS.cell (RD.below HR.out hb) (by omega)
   obtain⟨d0,d1⟩:=hCc j hltL
   obtain⟨k1,k2,k3⟩:=chainS_at l 1 j hltL HM.out
   obtain⟨x,hx⟩:∃ x,l[j]=x:=⟨_,rfl⟩
   rw [hx] at d0 d1 k1 k2 k3
   have Ht:=hide (show sumS (l.take (j+1))=sumS (l.take j)+(x.2 - x.1+1) by rw [List.take_succ_eq_append_getElem hltL,hx,sumS_snoc])
   have hs:=sumS_le (l.take j) 1 (by omega) (chainS_take l 1 j HM.out)
   have hs2:sumS (l.take j)≤1073741825:=by
    by_cases h:l.take j= []
    ·rw [h];simp [sumS]
    ·have:=hs.2 h;omega
   have hs1:=hs.1
   obtain⟨TT,hTT⟩:∃ t,t=sumS (l.take j):=⟨_,rfl⟩
   rw [←hTT] at hs1 hs2 Ht ⊢
   obtain⟨x1,hx1⟩:∃ a,x.1=a:=⟨_,rfl⟩
   obtain⟨x2,hx2⟩:∃ a,x.2=a:=⟨_,rfl⟩
   rw [hx1] at d0 k1 k3 Ht
   rw [hx2] at d1 k1 k2 Ht
   obtain⟨wx,hwx,FX,hsx,hbx⟩:=two_pb wr (.int .u32 x1) (.int .u32 x2) 129
   obtain⟨y0,y1⟩:=FX.cells
   have hbxx:=fresh hb hbx
   have zw1:IntKind.i64.wrap x1=x1:=IntWalk.i64_in _ (by omega)
   have zw2:IntKind.i64.wrap x2=x2:=IntWalk.i64_in _ (by omega)
   have zw3:IntKind.i64.wrap (x2 - x1)=x2 - x1:=IntWalk.i64_in _ (by omega)
   have zw4:IntKind.i64.wrap (x2 - x1+1)=x2 - x1+1:=IntWalk.i64_in _ (by omega)
   have zw5:IntKind.i64.wrap (TT+(x2 - x1+1))=TT+(x2 - x1+1):=IntWalk.i64_in _ (by omega)
   clear hCc hx FX hx1 hx2 hTT hs
   go_wp2_with fail
   go_roundw
   case rel=>exact⟨j+1,by omega,by go_num,by rw [Ht.out],hbxx⟩
   case measure=>simp [intOf];omega
  ·have z0:¬ (j:Int) < n:=by omega
   rw [List.take_of_length_le (by rw [Hn.out];omega)]
   go_wp2_with fail
   go_ret
   exact⟨by rw [HE.out];rfl,hb⟩
end Go.Proofs.YtmkpfdcnikgokaaGreat
