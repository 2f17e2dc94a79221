/-
  Texts of this claim, put together: MailSame. What each theorem asks stands in its statement.
-/
import Derived.Test.YtmkpfdcnikgokaaGreatLt2
import Derived.Test.YtmkpfdcnikgokaaGreatLt17
set_option linter.unusedVariables false
set_option linter.unusedSimpArgs false
set_option maxRecDepth 100000
set_option maxHeartbeats 25600000
namespace Go.Proofs.YtmkpfdcnikgokaaGreat
open Go.RowKit
/-- Kinds of claims: a value; the entries of wishes. -/
inductive Km where
 | val (v:Value)
 | ent (L:List WsL)
def Km.say:Km→Clm
 | .val v=>fun u _=>u=v
 | .ent L=>fun u w=>∃ A c,u= .slice A L.length c∧RE w w.heap.size A L
theorem kms_mono (ks:List Km):∀ V∈ks.map Km.say,∀ v w w',V v w→Below w.heap.size w w'→V v w':=by
 intro V hV v w w' h hb
 obtain⟨k,-,rfl⟩:=List.mem_map.1 hV
 cases k with
 | val u=>exact h
 | ent L=>
   obtain⟨A,c,e,hr⟩:=h
   exact⟨A,c,e,(hr.below hb).more hb.size⟩
theorem msame_a (k t r ix k' t' r' ix':Int) (iA oA sA iA' oA' sA':Option Addr) (ni ic no oc ns sc ni' ic' no' oc' ns' sc':Nat) (w:World) (hk:¬ k=k'):
 Calls Tryz.prog 29 #[mlv k t r ix (.slice iA ni ic) (.slice oA no oc) (.slice sA ns sc),mlv k' t' r' ix' (.slice iA' ni' ic') (.slice oA' no' oc') (.slice sA' ns' sc')] w fun e w'=>e= .returned (.bool false)∧Below w.heap.size w w':=by
 obtain⟨w1,hw1,F1,hs1,hb1⟩:=mail_box w (.int .u8 k) (.int .u32 t) (.int .u8 r) (.int .i64 ix) (.slice iA ni ic) (.slice oA no oc) (.slice sA ns sc)
 obtain⟨w2,hw2,F2,hs2,hb2⟩:=mail_box w1 (.int .u8 k') (.int .u32 t') (.int .u8 r') (.int .i64 ix') (.slice iA' ni' ic') (.slice oA' no' oc') (.slice sA' ns' sc')
 have hb12:=fresh hb1 hb2
 have hl1:w.heap.size < w2.heap.size:=Nat.lt_of_lt_of_le hs1 hb2.size
 have hl2:w1.heap.size < w2.heap.size:=hs2
 have G2:=F1.below hb2
 obtain⟨p0,p1,p2,p3,p4,p5,p6⟩:=F2.cells
 obtain⟨m0,m1,m2,m3,m4,m5,m6⟩:=G2.cells
 have be:(k == k')=false:=beq_eq_false_iff_ne.2 hk
 clear F1 F2 G2
 go_enter Tryz.func29,Tryz.ntmps29
 go_wp2_with fail
 refine wp_region_wq (by kernel_rfl) (by kernel_rfl) ?_
 repeat (
  refine WQ.step (fun K hK=>?_)
  go_simp
  first
   | (refine hK _ ?_;clear hK K)
   | (apply Exists.intro
      refine⟨fun _=>?_,hK _ ?_⟩
      skip
      clear hK K))
 refine WQ.nil ?_
 intro u
 go_wp2_with fail
 go_ret
 exact⟨rfl,hb12.trans ((below_past w2 u).mono hb12.size)⟩
theorem msame_b (k t r ix t' r' ix':Int) (iA oA sA iA' oA' sA':Option Addr) (ni ic no oc ns sc ni' ic' no' oc' ns' sc':Nat) (w:World) (hk:¬ t=t'):
 Calls Tryz.prog 29 #[mlv k t r ix (.slice iA ni ic) (.slice oA no oc) (.slice sA ns sc),mlv k t' r' ix' (.slice iA' ni' ic') (.slice oA' no' oc') (.slice sA' ns' sc')] w fun e w'=>e= .returned (.bool false)∧Below w.heap.size w w':=by
 obtain⟨w1,hw1,F1,hs1,hb1⟩:=mail_box w (.int .u8 k) (.int .u32 t) (.int .u8 r) (.int .i64 ix) (.slice iA ni ic) (.slice oA no oc) (.slice sA ns sc)
 obtain⟨w2,hw2,F2,hs2,hb2⟩:=mail_box w1 (.int .u8 k) (.int .u32 t') (.int .u8 r') (.int .i64 ix') (.slice iA' ni' ic') (.slice oA' no' oc') (.slice sA' ns' sc')
 have hb12:=fresh hb1 hb2
 have hl1:w.heap.size < w2.heap.size:=Nat.lt_of_lt_of_le hs1 hb2.size
 have hl2:w1.heap.size < w2.heap.size:=hs2
 have G2:=F1.below hb2
 obtain⟨p0,p1,p2,p3,p4,p5,p6⟩:=F2.cells
 obtain⟨m0,m1,m2,m3,m4,m5,m6⟩:=G2.cells
 have be:(t == t')=false:=beq_eq_false_iff_ne.2 hk
 clear F1 F2 G2
 go_enter Tryz.func29,Tryz.ntmps29
 go_wp2_with fail
 refine wp_region_wq (by kernel_rfl) (by kernel_rfl) ?_
 repeat (
  refine WQ.step (fun K hK=>?_)
  go_simp
  first
   | (refine hK _ ?_;clear hK K)
   | (apply Exists.intro
      refine⟨fun _=>?_,hK _ ?_⟩
      skip
      clear hK K))
 refine WQ.nil ?_
 intro u
 go_wp2_with fail
 go_ret
 exact⟨rfl,hb12.trans ((below_past w2 u).mono hb12.size)⟩
theorem msame_c (k t r ix r' ix':Int) (iA oA sA iA' oA' sA':Option Addr) (ni ic no oc ns sc ni' ic' no' oc' ns' sc':Nat) (w:World) (hk:¬ r=r'):
 Calls Tryz.prog 29 #[mlv k t r ix (.slice iA ni ic) (.slice oA no oc) (.slice sA ns sc),mlv k t r' ix' (.slice iA' ni' ic') (.slice oA' no' oc') (.slice sA' ns' sc')] w fun e w'=>e= .returned (.bool false)∧Below w.heap.size w w':=by
 obtain⟨w1,hw1,F1,hs1,hb1⟩:=mail_box w (.int .u8 k) (.int .u32 t) (.int .u8 r) (.int .i64 ix) (.slice iA ni ic) (.slice oA no oc) (.slice sA ns sc)
 obtain⟨w2,hw2,F2,hs2,hb2⟩:=mail_box w1 (.int .u8 k) (.int .u32 t) (.int .u8 r') (.int .i64 ix') (.slice iA' ni' ic') (.slice oA' no' oc') (.slice sA' ns' sc')
 have hb12:=fresh hb1 hb2
 have hl1:w.heap.size < w2.heap.size:=Nat.lt_of_lt_of_le hs1 hb2.size
 have hl2:w1.heap.size < w2.heap.size:=hs2
 have G2:=F1.below hb2
 obtain⟨p0,p1,p2,p3,p4,p5,p6⟩:=F2.cells
 obtain⟨m0,m1,m2,m3,m4,m5,m6⟩:=G2.cells
 have be:(r == r')=false:=beq_eq_false_iff_ne.2 hk
 clear F1 F2 G2
 go_enter Tryz.func29,Tryz.ntmps29
 go_wp2_with fail
 refine wp_region_wq (by kernel_rfl) (by kernel_rfl) ?_
 repeat (
  refine WQ.step (fun K hK=>?_)
  go_simp
  first
   | (refine hK _ ?_;clear hK K)
   | (apply Exists.intro
      refine⟨fun _=>?_,hK _ ?_⟩
      skip
      clear hK K))
 refine WQ.nil ?_
 intro u
 go_wp2_with fail
 go_ret
 exact⟨rfl,hb12.trans ((below_past w2 u).mono hb12.size)⟩
theorem msame_d (k t r ix ix':Int) (iA oA sA iA' oA' sA':Option Addr) (ni ic no oc ns sc ni' ic' no' oc' ns' sc':Nat) (w:World) (hk:¬ ix=ix'):
 Calls Tryz.prog 29 #[mlv k t r ix (.slice iA ni ic) (.slice oA no oc) (.slice sA ns sc),mlv k t r ix' (.slice iA' ni' ic') (.slice oA' no' oc') (.slice sA' ns' sc')] w fun e w'=>e= .returned (.bool false)∧Below w.heap.size w w':=by
 obtain⟨w1,hw1,F1,hs1,hb1⟩:=mail_box w (.int .u8 k) (.int .u32 t) (.int .u8 r) (.int .i64 ix) (.slice iA ni ic) (.slice oA no oc) (.slice sA ns sc)
 obtain⟨w2,hw2,F2,hs2,hb2⟩:=mail_box w1 (.int .u8 k) (.int .u32 t) (.int .u8 r) (.int .i64 ix') (.slice iA' ni' ic') (.slice oA' no' oc') (.slice sA' ns' sc')
 have hb12:=fresh hb1 hb2
 have hl1:w.heap.size < w2.heap.size:=Nat.lt_of_lt_of_le hs1 hb2.size
 have hl2:w1.heap.size < w2.heap.size:=hs2
 have G2:=F1.below hb2
 obtain⟨p0,p1,p2,p3,p4,p5,p6⟩:=F2.cells
 obtain⟨m0,m1,m2,m3,m4,m5,m6⟩:=G2.cells
 have be:(ix == ix')=false:=beq_eq_false_iff_ne.2 hk
 clear F1 F2 G2
 go_enter Tryz.func29,Tryz.ntmps29
 go_wp2_with fail
 refine wp_region_wq (by kernel_rfl) (by kernel_rfl) ?_
 repeat (
  refine WQ.step (fun K hK=>?_)
  go_simp
  first
   | (refine hK _ ?_;clear hK K)
   | (apply Exists.intro
      refine⟨fun _=>?_,hK _ ?_⟩
      skip
      clear hK K))
 refine WQ.nil ?_
 intro u
 go_wp2_with fail
 go_ret
 exact⟨rfl,hb12.trans ((below_past w2 u).mono hb12.size)⟩
theorem msame_e (k t r ix:Int) (iA oA sA iA' oA' sA':Option Addr) (ni ic no oc ns sc ni' ic' no' oc' ns' sc':Nat) (w:World) (hP:∀ W,Below w.heap.size w W→Calls Tryz.prog 73 #[.slice iA ni ic,.slice iA' ni' ic'] W fun e w'=>e= .returned (.bool false)∧Below W.heap.size W w'):
 Calls Tryz.prog 29 #[mlv k t r ix (.slice iA ni ic) (.slice oA no oc) (.slice sA ns sc),mlv k t r ix (.slice iA' ni' ic') (.slice oA' no' oc') (.slice sA' ns' sc')] w fun e w'=>e= .returned (.bool false)∧Below w.heap.size w w':=by
 obtain⟨w1,hw1,F1,hs1,hb1⟩:=mail_box w (.int .u8 k) (.int .u32 t) (.int .u8 r) (.int .i64 ix) (.slice iA ni ic) (.slice oA no oc) (.slice sA ns sc)
 obtain⟨w2,hw2,F2,hs2,hb2⟩:=mail_box w1 (.int .u8 k) (.int .u32 t) (.int .u8 r) (.int .i64 ix) (.slice iA' ni' ic') (.slice oA' no' oc') (.slice sA' ns' sc')
 have hb12:=fresh hb1 hb2
 have hl1:w.heap.size < w2.heap.size:=Nat.lt_of_lt_of_le hs1 hb2.size
 have hl2:w1.heap.size < w2.heap.size:=hs2
 have G2:=F1.below hb2
 obtain⟨p0,p1,p2,p3,p4,p5,p6⟩:=F2.cells
 obtain⟨m0,m1,m2,m3,m4,m5,m6⟩:=G2.cells
 have P:=hide (fun u=>hP (past w2 u) (hb12.trans ((below_past w2 u).mono hb12.size)))
 clear hP
 clear F1 F2 G2
 go_enter Tryz.func29,Tryz.ntmps29
 go_wp2_with fail
 refine wp_region_wq (by kernel_rfl) (by kernel_rfl) ?_
 repeat (
  refine WQ.step (fun K hK=>?_)
  go_simp
  first
   | (refine hK _ ?_;clear hK K)
   | (apply Exists.intro
      refine⟨fun _=>?_,hK _ ?_⟩
      (first
        | (go_at_call 73;with_reducible exact past_call (unhide P _)))
      clear hK K))
 refine WQ.nil ?_
 intro u
 go_wp2_with fail
 go_ret
 exact⟨rfl,hb12.trans ((below_past w2 u).mono hb12.size)⟩
theorem msame_f (k t r ix:Int) (iA oA sA iA' oA' sA':Option Addr) (ni ic no oc ns sc ni' ic' no' oc' ns' sc':Nat) (w:World) (hP:∀ W,Below w.heap.size w W→Calls Tryz.prog 73 #[.slice iA ni ic,.slice iA' ni' ic'] W fun e w'=>e= .returned (.bool true)∧Below W.heap.size W w') (hQ:∀ W,Below w.heap.size w W→Calls Tryz.prog 74 #[.slice oA no oc,.slice oA' no' oc',.func (.func 75) #[] #[]] W fun e w'=>e= .returned (.bool false)∧Below W.heap.size W w'):
 Calls Tryz.prog 29 #[mlv k t r ix (.slice iA ni ic) (.slice oA no oc) (.slice sA ns sc),mlv k t r ix (.slice iA' ni' ic') (.slice oA' no' oc') (.slice sA' ns' sc')] w fun e w'=>e= .returned (.bool false)∧Below w.heap.size w w':=by
 obtain⟨w1,hw1,F1,hs1,hb1⟩:=mail_box w (.int .u8 k) (.int .u32 t) (.int .u8 r) (.int .i64 ix) (.slice iA ni ic) (.slice oA no oc) (.slice sA ns sc)
 obtain⟨w2,hw2,F2,hs2,hb2⟩:=mail_box w1 (.int .u8 k) (.int .u32 t) (.int .u8 r) (.int .i64 ix) (.slice iA' ni' ic') (.slice oA' no' oc') (.slice sA' ns' sc')
 have hb12:=fresh hb1 hb2
 have hl1:w.heap.size < w2.heap.size:=Nat.lt_of_lt_of_le hs1 hb2.size
 have hl2:w1.heap.size < w2.heap.size:=hs2
 have G2:=F1.below hb2
 obtain⟨p0,p1,p2,p3,p4,p5,p6⟩:=F2.cells
 obtain⟨m0,m1,m2,m3,m4,m5,m6⟩:=G2.cells
 have P:=hide (fun u=>hP (past w2 u) (hb12.trans ((below_past w2 u).mono hb12.size)))
 clear hP
 have Q:=hide (fun u=>hQ (past w2 u) (hb12.trans ((below_past w2 u).mono hb12.size)))
 clear hQ
 clear F1 F2 G2
 go_enter Tryz.func29,Tryz.ntmps29
 go_wp2_with fail
 refine wp_region_wq (by kernel_rfl) (by kernel_rfl) ?_
 repeat (
  refine WQ.step (fun K hK=>?_)
  go_simp
  first
   | (refine hK _ ?_;clear hK K)
   | (apply Exists.intro
      refine⟨fun _=>?_,hK _ ?_⟩
      (first
        | (go_at_call 73;with_reducible exact past_call (unhide P _))
        | (go_at_call 74;with_reducible exact past_call (unhide Q _)))
      clear hK K))
 refine WQ.nil ?_
 intro u
 go_wp2_with fail
 go_ret
 exact⟨rfl,hb12.trans ((below_past w2 u).mono hb12.size)⟩
theorem msame_g (k t r ix:Int) (iA oA sA iA' oA' sA':Option Addr) (ni ic no oc ns sc ni' ic' no' oc' ns' sc':Nat) (L L':List WsL) (b7:Bool) (w:World) (hP:∀ W,Below w.heap.size w W→Calls Tryz.prog 73 #[.slice iA ni ic,.slice iA' ni' ic'] W fun e w'=>e= .returned (.bool true)∧Below W.heap.size W w') (hQ:∀ W,Below w.heap.size w W→Calls Tryz.prog 74 #[.slice oA no oc,.slice oA' no' oc',.func (.func 75) #[] #[]] W fun e w'=>e= .returned (.bool true)∧Below W.heap.size W w') (hE:∀ W,Below w.heap.size w W→Calls Tryz.prog 77 #[.slice sA ns sc] W fun e w'=>∃ A c,e= .returned (.slice A (List.length (α:=WsL) L) c)∧RE w' w'.heap.size A L∧Below W.heap.size W w') (hF:∀ W,Below w.heap.size w W→Calls Tryz.prog 77 #[.slice sA' ns' sc'] W fun e w'=>∃ A c,e= .returned (.slice A (List.length (α:=WsL) L') c)∧RE w' w'.heap.size A L'∧Below W.heap.size W w') (h6:∀ W (B B':Option Addr) (d d':Nat),RE W W.heap.size B L→RE W W.heap.size B' L'→Calls Tryz.prog 76 #[.slice B (List.length (α:=WsL) L) d,.slice B' (List.length (α:=WsL) L') d'] W fun e w'=>e= .returned (.bool true)∧Below W.heap.size W w') (h7:∀ W,Below w.heap.size w W→Calls Tryz.prog 78 #[.slice sA ns sc,.slice sA' ns' sc',.func (.func 79) #[] #[]] W fun e w'=>e= .returned (.bool b7)∧Below W.heap.size W w'):
 Calls Tryz.prog 29 #[mlv k t r ix (.slice iA ni ic) (.slice oA no oc) (.slice sA ns sc),mlv k t r ix (.slice iA' ni' ic') (.slice oA' no' oc') (.slice sA' ns' sc')] w fun e w'=>e= .returned (.bool b7)∧Below w.heap.size w w':=by
 obtain⟨w1,hw1,F1,hs1,hb1⟩:=mail_box w (.int .u8 k) (.int .u32 t) (.int .u8 r) (.int .i64 ix) (.slice iA ni ic) (.slice oA no oc) (.slice sA ns sc)
 obtain⟨w2,hw2,F2,hs2,hb2⟩:=mail_box w1 (.int .u8 k) (.int .u32 t) (.int .u8 r) (.int .i64 ix) (.slice iA' ni' ic') (.slice oA' no' oc') (.slice sA' ns' sc')
 have hb12:=fresh hb1 hb2
 have hl1:w.heap.size < w2.heap.size:=Nat.lt_of_lt_of_le hs1 hb2.size
 have hl2:w1.heap.size < w2.heap.size:=hs2
 have G2:=F1.below hb2
 obtain⟨p0,p1,p2,p3,p4,p5,p6⟩:=F2.cells
 obtain⟨m0,m1,m2,m3,m4,m5,m6⟩:=G2.cells
 replace hP:=hide hP
 replace hQ:=hide hQ
 replace hE:=hide hE
 replace hF:=hide hF
 replace h6:=hide h6
 replace h7:=hide h7
 clear F1 F2 G2
 go_enter Tryz.func29,Tryz.ntmps29
 go_wp2_with fail
 clear hw1 hw2
 refine wp_region_claims ([.val (.pointer (some ⟨w.heap.size,0,none⟩)),.val (.int .u8 k),.val (.pointer (some ⟨w1.heap.size,0,none⟩)),.val (.int .u8 k),.val (.bool true),.val (.bool true),.val (.pointer (some ⟨w.heap.size,1,none⟩)),.val (.agg #[.int .u32 t,.int .u8 r]),.val (.pointer (some ⟨w1.heap.size,1,none⟩)),.val (.agg #[.int .u32 t,.int .u8 r]),.val (.bool true),.val (.bool true),.val (.bool true),.val (.pointer (some ⟨w.heap.size,3,none⟩)),.val (.int .i64 ix),.val (.pointer (some ⟨w1.heap.size,3,none⟩)),.val (.int .i64 ix),.val (.bool true),.val (.bool true),.val (.bool true),.val (.pointer (some ⟨w.heap.size,4,none⟩)),.val (.slice iA ni ic),.val (.pointer (some ⟨w1.heap.size,4,none⟩)),.val (.slice iA' ni' ic'),.val (.bool true),.val (.bool true),.val (.bool true),.val (.pointer (some ⟨w.heap.size,5,none⟩)),.val (.slice oA no oc),.val (.pointer (some ⟨w1.heap.size,5,none⟩)),.val (.slice oA' no' oc'),.val (.bool true),.val (.bool true),.val (.bool true),.val (.pointer (some ⟨w.heap.size,6,none⟩)),.val (.slice sA ns sc),.ent L,.val (.pointer (some ⟨w1.heap.size,6,none⟩)),.val (.slice sA' ns' sc'),.ent L',.val (.bool true),.val (.bool true),.val (.bool true),.val (.pointer (some ⟨w.heap.size,6,none⟩)),.val (.slice sA ns sc),.val (.pointer (some ⟨w1.heap.size,6,none⟩)),.val (.slice sA' ns' sc'),.val (.bool b7),.val (.bool b7),.val (.bool b7)].map Km.say) (by kernel_rfl) 54 (by rfl) (by kernel_rfl) (kms_mono _) ?_ ?_
 ·refine⟨?_,?_,?_,?_,?_,?_,?_,?_,?_,?_,?_,?_,?_,?_,?_,?_,?_,?_,?_,?_,?_,?_,?_,?_,?_,?_,?_,?_,?_,?_,?_,?_,?_,?_,?_,?_,?_,?_,?_,?_,?_,?_,?_,?_,?_,?_,?_,?_,?_,?_,trivial⟩
  ·
   intro ρ w' hb hf hd
   have h2:ρ 2=(.pointer (some ⟨w.heap.size,0,none⟩)):=hf 2 (by kernel_rfl)
   clear hf hd
   refine .inl ⟨rfl,opOK_step fun R hR=>?_⟩
   unfold opOK
   go_simp
   exact hR _ _ ⟨Below.refl _ _,rfl⟩
  ·
   intro ρ w' hb hf hd
   have h5:ρ 5=(.pointer (some ⟨w.heap.size,0,none⟩)):=hd 0 (by kernel_rfl)
   clear hf hd
   refine .inl ⟨rfl,opOK_step fun R hR=>?_⟩
   have q0:=keep_cell hb hl1 m0
   unfold opOK
   go_simp
   exact hR _ _ ⟨Below.refl _ _,rfl⟩
  ·
   intro ρ w' hb hf hd
   have h3:ρ 3=(.pointer (some ⟨w1.heap.size,0,none⟩)):=hf 3 (by kernel_rfl)
   clear hf hd
   refine .inl ⟨rfl,opOK_step fun R hR=>?_⟩
   unfold opOK
   go_simp
   exact hR _ _ ⟨Below.refl _ _,rfl⟩
  ·
   intro ρ w' hb hf hd
   have h7:ρ 7=(.pointer (some ⟨w1.heap.size,0,none⟩)):=hd 2 (by kernel_rfl)
   clear hf hd
   refine .inl ⟨rfl,opOK_step fun R hR=>?_⟩
   have q0:=keep_cell hb hl2 p0
   unfold opOK
   go_simp
   exact hR _ _ ⟨Below.refl _ _,rfl⟩
  ·
   intro ρ w' hb hf hd
   have h6:ρ 6=(.int .u8 k):=hd 1 (by kernel_rfl)
   have h8:ρ 8=(.int .u8 k):=hd 3 (by kernel_rfl)
   clear hf hd
   refine .inl ⟨rfl,opOK_step fun R hR=>?_⟩
   unfold opOK
   go_simp
   exact hR _ _ ⟨Below.refl _ _,rfl⟩
  ·
   intro ρ w' hb hf hd
   have h9:ρ 9=(.bool true):=hd 4 (by kernel_rfl)
   clear hf hd
   refine .inl ⟨rfl,opOK_step fun R hR=>?_⟩
   unfold opOK
   go_simp
   exact hR _ _ ⟨Below.refl _ _,rfl⟩
  ·
   intro ρ w' hb hf hd
   have h2:ρ 2=(.pointer (some ⟨w.heap.size,0,none⟩)):=hf 2 (by kernel_rfl)
   have h10:ρ 10=(.bool true):=hd 5 (by kernel_rfl)
   clear hf hd
   refine .inl ⟨ask_of rfl rfl h10,opOK_step fun R hR=>?_⟩
   unfold opOK
   go_simp
   exact hR _ _ ⟨Below.refl _ _,rfl⟩
  ·
   intro ρ w' hb hf hd
   have h10:ρ 10=(.bool true):=hd 5 (by kernel_rfl)
   have h11:ρ 11=(.pointer (some ⟨w.heap.size,1,none⟩)):=hd 6 (by kernel_rfl)
   clear hf hd
   refine .inl ⟨ask_of rfl rfl h10,opOK_step fun R hR=>?_⟩
   have q1:=keep_cell hb hl1 m1
   have q2:=keep_cell hb hl1 m2
   unfold opOK
   go_simp
   exact hR _ _ ⟨Below.refl _ _,rfl⟩
  ·
   intro ρ w' hb hf hd
   have h3:ρ 3=(.pointer (some ⟨w1.heap.size,0,none⟩)):=hf 3 (by kernel_rfl)
   have h10:ρ 10=(.bool true):=hd 5 (by kernel_rfl)
   clear hf hd
   refine .inl ⟨ask_of rfl rfl h10,opOK_step fun R hR=>?_⟩
   unfold opOK
   go_simp
   exact hR _ _ ⟨Below.refl _ _,rfl⟩
  ·
   intro ρ w' hb hf hd
   have h10:ρ 10=(.bool true):=hd 5 (by kernel_rfl)
   have h13:ρ 13=(.pointer (some ⟨w1.heap.size,1,none⟩)):=hd 8 (by kernel_rfl)
   clear hf hd
   refine .inl ⟨ask_of rfl rfl h10,opOK_step fun R hR=>?_⟩
   have q1:=keep_cell hb hl2 p1
   have q2:=keep_cell hb hl2 p2
   unfold opOK
   go_simp
   exact hR _ _ ⟨Below.refl _ _,rfl⟩
  ·
   intro ρ w' hb hf hd
   have h10:ρ 10=(.bool true):=hd 5 (by kernel_rfl)
   have h12:ρ 12=(.agg #[.int .u32 t,.int .u8 r]):=hd 7 (by kernel_rfl)
   have h14:ρ 14=(.agg #[.int .u32 t,.int .u8 r]):=hd 9 (by kernel_rfl)
   clear hf hd
   refine .inl ⟨ask_of rfl rfl h10,opOK_step fun R hR=>?_⟩
   unfold opOK
   go_simp
   exact hR _ _ ⟨Below.refl _ _,rfl⟩
  ·
   intro ρ w' hb hf hd
   have h10:ρ 10=(.bool true):=hd 5 (by kernel_rfl)
   have h15:ρ 15=(.bool true):=hd 10 (by kernel_rfl)
   clear hf hd
   refine .inl ⟨rfl,opOK_step fun R hR=>?_⟩
   unfold opOK
   go_simp
   exact hR _ _ ⟨Below.refl _ _,rfl⟩
  ·
   intro ρ w' hb hf hd
   have h16:ρ 16=(.bool true):=hd 11 (by kernel_rfl)
   clear hf hd
   refine .inl ⟨rfl,opOK_step fun R hR=>?_⟩
   unfold opOK
   go_simp
   exact hR _ _ ⟨Below.refl _ _,rfl⟩
  ·
   intro ρ w' hb hf hd
   have h2:ρ 2=(.pointer (some ⟨w.heap.size,0,none⟩)):=hf 2 (by kernel_rfl)
   have h17:ρ 17=(.bool true):=hd 12 (by kernel_rfl)
   clear hf hd
   refine .inl ⟨ask_of rfl rfl h17,opOK_step fun R hR=>?_⟩
   unfold opOK
   go_simp
   exact hR _ _ ⟨Below.refl _ _,rfl⟩
  ·
   intro ρ w' hb hf hd
   have h17:ρ 17=(.bool true):=hd 12 (by kernel_rfl)
   have h18:ρ 18=(.pointer (some ⟨w.heap.size,3,none⟩)):=hd 13 (by kernel_rfl)
   clear hf hd
   refine .inl ⟨ask_of rfl rfl h17,opOK_step fun R hR=>?_⟩
   have q3:=keep_cell hb hl1 m3
   unfold opOK
   go_simp
   exact hR _ _ ⟨Below.refl _ _,rfl⟩
  ·
   intro ρ w' hb hf hd
   have h3:ρ 3=(.pointer (some ⟨w1.heap.size,0,none⟩)):=hf 3 (by kernel_rfl)
   have h17:ρ 17=(.bool true):=hd 12 (by kernel_rfl)
   clear hf hd
   refine .inl ⟨ask_of rfl rfl h17,opOK_step fun R hR=>?_⟩
   unfold opOK
   go_simp
   exact hR _ _ ⟨Below.refl _ _,rfl⟩
  ·
   intro ρ w' hb hf hd
   have h17:ρ 17=(.bool true):=hd 12 (by kernel_rfl)
   have h20:ρ 20=(.pointer (some ⟨w1.heap.size,3,none⟩)):=hd 15 (by kernel_rfl)
   clear hf hd
   refine .inl ⟨ask_of rfl rfl h17,opOK_step fun R hR=>?_⟩
   have q3:=keep_cell hb hl2 p3
   unfold opOK
   go_simp
   exact hR _ _ ⟨Below.refl _ _,rfl⟩
  ·
   intro ρ w' hb hf hd
   have h17:ρ 17=(.bool true):=hd 12 (by kernel_rfl)
   have h19:ρ 19=(.int .i64 ix):=hd 14 (by kernel_rfl)
   have h21:ρ 21=(.int .i64 ix):=hd 16 (by kernel_rfl)
   clear hf hd
   refine .inl ⟨ask_of rfl rfl h17,opOK_step fun R hR=>?_⟩
   unfold opOK
   go_simp
   exact hR _ _ ⟨Below.refl _ _,rfl⟩
  ·
   intro ρ w' hb hf hd
   have h17:ρ 17=(.bool true):=hd 12 (by kernel_rfl)
   have h22:ρ 22=(.bool true):=hd 17 (by kernel_rfl)
   clear hf hd
   refine .inl ⟨rfl,opOK_step fun R hR=>?_⟩
   unfold opOK
   go_simp
   exact hR _ _ ⟨Below.refl _ _,rfl⟩
  ·
   intro ρ w' hb hf hd
   have h23:ρ 23=(.bool true):=hd 18 (by kernel_rfl)
   clear hf hd
   refine .inl ⟨rfl,opOK_step fun R hR=>?_⟩
   unfold opOK
   go_simp
   exact hR _ _ ⟨Below.refl _ _,rfl⟩
  ·
   intro ρ w' hb hf hd
   have h2:ρ 2=(.pointer (some ⟨w.heap.size,0,none⟩)):=hf 2 (by kernel_rfl)
   have h24:ρ 24=(.bool true):=hd 19 (by kernel_rfl)
   clear hf hd
   refine .inl ⟨ask_of rfl rfl h24,opOK_step fun R hR=>?_⟩
   unfold opOK
   go_simp
   exact hR _ _ ⟨Below.refl _ _,rfl⟩
  ·
   intro ρ w' hb hf hd
   have h24:ρ 24=(.bool true):=hd 19 (by kernel_rfl)
   have h25:ρ 25=(.pointer (some ⟨w.heap.size,4,none⟩)):=hd 20 (by kernel_rfl)
   clear hf hd
   refine .inl ⟨ask_of rfl rfl h24,opOK_step fun R hR=>?_⟩
   have q4:=keep_cell hb hl1 m4
   unfold opOK
   go_simp
   exact hR _ _ ⟨Below.refl _ _,rfl⟩
  ·
   intro ρ w' hb hf hd
   have h3:ρ 3=(.pointer (some ⟨w1.heap.size,0,none⟩)):=hf 3 (by kernel_rfl)
   have h24:ρ 24=(.bool true):=hd 19 (by kernel_rfl)
   clear hf hd
   refine .inl ⟨ask_of rfl rfl h24,opOK_step fun R hR=>?_⟩
   unfold opOK
   go_simp
   exact hR _ _ ⟨Below.refl _ _,rfl⟩
  ·
   intro ρ w' hb hf hd
   have h24:ρ 24=(.bool true):=hd 19 (by kernel_rfl)
   have h27:ρ 27=(.pointer (some ⟨w1.heap.size,4,none⟩)):=hd 22 (by kernel_rfl)
   clear hf hd
   refine .inl ⟨ask_of rfl rfl h24,opOK_step fun R hR=>?_⟩
   have q4:=keep_cell hb hl2 p4
   unfold opOK
   go_simp
   exact hR _ _ ⟨Below.refl _ _,rfl⟩
  ·
   intro ρ w' hb hf hd
   have h24:ρ 24=(.bool true):=hd 19 (by kernel_rfl)
   have h26:ρ 26=(.slice iA ni ic):=hd 21 (by kernel_rfl)
   have h28:ρ 28=(.slice iA' ni' ic'):=hd 23 (by kernel_rfl)
   clear hf hd
   refine .inl ⟨ask_of rfl rfl h24,opOK_step fun R hR=>?_⟩
   unfold opOK
   go_simp
   exact (hP.out w' (hb12.trans (hb.mono hb12.size))).mono fun e w3 ⟨he,hb3⟩=>⟨_,he,hR _ _ ⟨hb3,rfl⟩⟩
  ·
   intro ρ w' hb hf hd
   have h24:ρ 24=(.bool true):=hd 19 (by kernel_rfl)
   have h29:ρ 29=(.bool true):=hd 24 (by kernel_rfl)
   clear hf hd
   refine .inl ⟨rfl,opOK_step fun R hR=>?_⟩
   unfold opOK
   go_simp
   exact hR _ _ ⟨Below.refl _ _,rfl⟩
  ·
   intro ρ w' hb hf hd
   have h30:ρ 30=(.bool true):=hd 25 (by kernel_rfl)
   clear hf hd
   refine .inl ⟨rfl,opOK_step fun R hR=>?_⟩
   unfold opOK
   go_simp
   exact hR _ _ ⟨Below.refl _ _,rfl⟩
  ·
   intro ρ w' hb hf hd
   have h2:ρ 2=(.pointer (some ⟨w.heap.size,0,none⟩)):=hf 2 (by kernel_rfl)
   have h31:ρ 31=(.bool true):=hd 26 (by kernel_rfl)
   clear hf hd
   refine .inl ⟨ask_of rfl rfl h31,opOK_step fun R hR=>?_⟩
   unfold opOK
   go_simp
   exact hR _ _ ⟨Below.refl _ _,rfl⟩
  ·
   intro ρ w' hb hf hd
   have h31:ρ 31=(.bool true):=hd 26 (by kernel_rfl)
   have h32:ρ 32=(.pointer (some ⟨w.heap.size,5,none⟩)):=hd 27 (by kernel_rfl)
   clear hf hd
   refine .inl ⟨ask_of rfl rfl h31,opOK_step fun R hR=>?_⟩
   have q5:=keep_cell hb hl1 m5
   unfold opOK
   go_simp
   exact hR _ _ ⟨Below.refl _ _,rfl⟩
  ·
   intro ρ w' hb hf hd
   have h3:ρ 3=(.pointer (some ⟨w1.heap.size,0,none⟩)):=hf 3 (by kernel_rfl)
   have h31:ρ 31=(.bool true):=hd 26 (by kernel_rfl)
   clear hf hd
   refine .inl ⟨ask_of rfl rfl h31,opOK_step fun R hR=>?_⟩
   unfold opOK
   go_simp
   exact hR _ _ ⟨Below.refl _ _,rfl⟩
  ·
   intro ρ w' hb hf hd
   have h31:ρ 31=(.bool true):=hd 26 (by kernel_rfl)
   have h34:ρ 34=(.pointer (some ⟨w1.heap.size,5,none⟩)):=hd 29 (by kernel_rfl)
   clear hf hd
   refine .inl ⟨ask_of rfl rfl h31,opOK_step fun R hR=>?_⟩
   have q5:=keep_cell hb hl2 p5
   unfold opOK
   go_simp
   exact hR _ _ ⟨Below.refl _ _,rfl⟩
  ·
   intro ρ w' hb hf hd
   have h31:ρ 31=(.bool true):=hd 26 (by kernel_rfl)
   have h33:ρ 33=(.slice oA no oc):=hd 28 (by kernel_rfl)
   have h35:ρ 35=(.slice oA' no' oc'):=hd 30 (by kernel_rfl)
   clear hf hd
   refine .inl ⟨ask_of rfl rfl h31,opOK_step fun R hR=>?_⟩
   unfold opOK
   go_simp
   exact (hQ.out w' (hb12.trans (hb.mono hb12.size))).mono fun e w3 ⟨he,hb3⟩=>⟨_,he,hR _ _ ⟨hb3,rfl⟩⟩
  ·
   intro ρ w' hb hf hd
   have h31:ρ 31=(.bool true):=hd 26 (by kernel_rfl)
   have h36:ρ 36=(.bool true):=hd 31 (by kernel_rfl)
   clear hf hd
   refine .inl ⟨rfl,opOK_step fun R hR=>?_⟩
   unfold opOK
   go_simp
   exact hR _ _ ⟨Below.refl _ _,rfl⟩
  ·
   intro ρ w' hb hf hd
   have h37:ρ 37=(.bool true):=hd 32 (by kernel_rfl)
   clear hf hd
   refine .inl ⟨rfl,opOK_step fun R hR=>?_⟩
   unfold opOK
   go_simp
   exact hR _ _ ⟨Below.refl _ _,rfl⟩
  ·
   intro ρ w' hb hf hd
   have h2:ρ 2=(.pointer (some ⟨w.heap.size,0,none⟩)):=hf 2 (by kernel_rfl)
   have h38:ρ 38=(.bool true):=hd 33 (by kernel_rfl)
   clear hf hd
   refine .inl ⟨ask_of rfl rfl h38,opOK_step fun R hR=>?_⟩
   unfold opOK
   go_simp
   exact hR _ _ ⟨Below.refl _ _,rfl⟩
  ·
   intro ρ w' hb hf hd
   have h38:ρ 38=(.bool true):=hd 33 (by kernel_rfl)
   have h39:ρ 39=(.pointer (some ⟨w.heap.size,6,none⟩)):=hd 34 (by kernel_rfl)
   clear hf hd
   refine .inl ⟨ask_of rfl rfl h38,opOK_step fun R hR=>?_⟩
   have q6:=keep_cell hb hl1 m6
   unfold opOK
   go_simp
   exact hR _ _ ⟨Below.refl _ _,rfl⟩
  ·
   intro ρ w' hb hf hd
   have h38:ρ 38=(.bool true):=hd 33 (by kernel_rfl)
   have h40:ρ 40=(.slice sA ns sc):=hd 35 (by kernel_rfl)
   clear hf hd
   refine .inl ⟨ask_of rfl rfl h38,opOK_step fun R hR=>?_⟩
   unfold opOK
   go_simp
   exact (hE.out w' (hb12.trans (hb.mono hb12.size))).mono fun e w3 ⟨A9,c9,he,hr,hb3⟩=>⟨_,he,hR _ _ ⟨hb3,A9,c9,rfl,hr⟩⟩
  ·
   intro ρ w' hb hf hd
   have h3:ρ 3=(.pointer (some ⟨w1.heap.size,0,none⟩)):=hf 3 (by kernel_rfl)
   have h38:ρ 38=(.bool true):=hd 33 (by kernel_rfl)
   clear hf hd
   refine .inl ⟨ask_of rfl rfl h38,opOK_step fun R hR=>?_⟩
   unfold opOK
   go_simp
   exact hR _ _ ⟨Below.refl _ _,rfl⟩
  ·
   intro ρ w' hb hf hd
   have h38:ρ 38=(.bool true):=hd 33 (by kernel_rfl)
   have h42:ρ 42=(.pointer (some ⟨w1.heap.size,6,none⟩)):=hd 37 (by kernel_rfl)
   clear hf hd
   refine .inl ⟨ask_of rfl rfl h38,opOK_step fun R hR=>?_⟩
   have q6:=keep_cell hb hl2 p6
   unfold opOK
   go_simp
   exact hR _ _ ⟨Below.refl _ _,rfl⟩
  ·
   intro ρ w' hb hf hd
   have h38:ρ 38=(.bool true):=hd 33 (by kernel_rfl)
   have h43:ρ 43=(.slice sA' ns' sc'):=hd 38 (by kernel_rfl)
   clear hf hd
   refine .inl ⟨ask_of rfl rfl h38,opOK_step fun R hR=>?_⟩
   unfold opOK
   go_simp
   exact (hF.out w' (hb12.trans (hb.mono hb12.size))).mono fun e w3 ⟨A9,c9,he,hr,hb3⟩=>⟨_,he,hR _ _ ⟨hb3,A9,c9,rfl,hr⟩⟩
  ·
   intro ρ w' hb hf hd
   have h38:ρ 38=(.bool true):=hd 33 (by kernel_rfl)
   have h41:(Km.ent L).say (ρ 41) w':=hd 36 (by kernel_rfl)
   have h44:(Km.ent L').say (ρ 44) w':=hd 39 (by kernel_rfl)
   clear hf hd
   refine .inl ⟨ask_of rfl rfl h38,opOK_step fun R hR=>?_⟩
   obtain⟨A8,c8,k41,r8⟩:=h41
   obtain⟨A9,c9,k44,r9⟩:=h44
   unfold opOK
   go_simp
   exact (h6.out w' A8 A9 c8 c9 r8 r9).mono fun e w3 ⟨he,hb3⟩=>⟨_,he,hR _ _ ⟨hb3,rfl⟩⟩
  ·
   intro ρ w' hb hf hd
   have h38:ρ 38=(.bool true):=hd 33 (by kernel_rfl)
   have h45:ρ 45=(.bool true):=hd 40 (by kernel_rfl)
   clear hf hd
   refine .inl ⟨rfl,opOK_step fun R hR=>?_⟩
   unfold opOK
   go_simp
   exact hR _ _ ⟨Below.refl _ _,rfl⟩
  ·
   intro ρ w' hb hf hd
   have h46:ρ 46=(.bool true):=hd 41 (by kernel_rfl)
   clear hf hd
   refine .inl ⟨rfl,opOK_step fun R hR=>?_⟩
   unfold opOK
   go_simp
   exact hR _ _ ⟨Below.refl _ _,rfl⟩
  ·
   intro ρ w' hb hf hd
   have h2:ρ 2=(.pointer (some ⟨w.heap.size,0,none⟩)):=hf 2 (by kernel_rfl)
   have h47:ρ 47=(.bool true):=hd 42 (by kernel_rfl)
   clear hf hd
   refine .inl ⟨ask_of rfl rfl h47,opOK_step fun R hR=>?_⟩
   unfold opOK
   go_simp
   exact hR _ _ ⟨Below.refl _ _,rfl⟩
  ·
   intro ρ w' hb hf hd
   have h47:ρ 47=(.bool true):=hd 42 (by kernel_rfl)
   have h48:ρ 48=(.pointer (some ⟨w.heap.size,6,none⟩)):=hd 43 (by kernel_rfl)
   clear hf hd
   refine .inl ⟨ask_of rfl rfl h47,opOK_step fun R hR=>?_⟩
   have q6:=keep_cell hb hl1 m6
   unfold opOK
   go_simp
   exact hR _ _ ⟨Below.refl _ _,rfl⟩
  ·
   intro ρ w' hb hf hd
   have h3:ρ 3=(.pointer (some ⟨w1.heap.size,0,none⟩)):=hf 3 (by kernel_rfl)
   have h47:ρ 47=(.bool true):=hd 42 (by kernel_rfl)
   clear hf hd
   refine .inl ⟨ask_of rfl rfl h47,opOK_step fun R hR=>?_⟩
   unfold opOK
   go_simp
   exact hR _ _ ⟨Below.refl _ _,rfl⟩
  ·
   intro ρ w' hb hf hd
   have h47:ρ 47=(.bool true):=hd 42 (by kernel_rfl)
   have h50:ρ 50=(.pointer (some ⟨w1.heap.size,6,none⟩)):=hd 45 (by kernel_rfl)
   clear hf hd
   refine .inl ⟨ask_of rfl rfl h47,opOK_step fun R hR=>?_⟩
   have q6:=keep_cell hb hl2 p6
   unfold opOK
   go_simp
   exact hR _ _ ⟨Below.refl _ _,rfl⟩
  ·
   intro ρ w' hb hf hd
   have h47:ρ 47=(.bool true):=hd 42 (by kernel_rfl)
   have h49:ρ 49=(.slice sA ns sc):=hd 44 (by kernel_rfl)
   have h51:ρ 51=(.slice sA' ns' sc'):=hd 46 (by kernel_rfl)
   clear hf hd
   refine .inl ⟨ask_of rfl rfl h47,opOK_step fun R hR=>?_⟩
   unfold opOK
   go_simp
   exact (h7.out w' (hb12.trans (hb.mono hb12.size))).mono fun e w3 ⟨he,hb3⟩=>⟨_,he,hR _ _ ⟨hb3,rfl⟩⟩
  ·
   intro ρ w' hb hf hd
   have h47:ρ 47=(.bool true):=hd 42 (by kernel_rfl)
   have h52:ρ 52=(.bool b7):=hd 47 (by kernel_rfl)
   clear hf hd
   refine .inl ⟨rfl,opOK_step fun R hR=>?_⟩
   unfold opOK
   go_simp
   exact hR _ _ ⟨Below.refl _ _,rfl⟩
  ·
   intro ρ w' hb hf hd
   have h53:ρ 53=(.bool b7):=hd 48 (by kernel_rfl)
   clear hf hd
   refine .inl ⟨rfl,opOK_step fun R hR=>?_⟩
   unfold opOK
   go_simp
   exact hR _ _ ⟨Below.refl _ _,rfl⟩
 ·intro a' w5 hb5 hdf hsz hf hd
  have h4:slotsOf a' 4= .bool b7:=hd 49 (by decide)
  obtain⟨T,D⟩:=a'
  have hD:D= []:=hdf
  subst hD
  obtain⟨f,hT,hff⟩:∃ f:Nat→Value,T=((List.range 54).map f).toArray∧slotsOf ⟨T, []⟩=f:=⟨_,arr_list T 54 hsz,rfl⟩
  rw [hff] at h4
  clear hff hsz hf hd hdf
  simp only [List.range,List.range.loop,List.map] at hT
  subst hT
  rw [h4]
  clear h4
  go_wp2_with fail
  go_ret
  exact⟨rfl,hb12.trans (hb5.mono hb12.size)⟩
theorem msame_h (k t r ix:Int) (iA oA sA iA' oA' sA':Option Addr) (ni ic no oc ns sc ni' ic' no' oc' ns' sc':Nat) (L L':List WsL) (w:World) (hP:∀ W,Below w.heap.size w W→Calls Tryz.prog 73 #[.slice iA ni ic,.slice iA' ni' ic'] W fun e w'=>e= .returned (.bool true)∧Below W.heap.size W w') (hQ:∀ W,Below w.heap.size w W→Calls Tryz.prog 74 #[.slice oA no oc,.slice oA' no' oc',.func (.func 75) #[] #[]] W fun e w'=>e= .returned (.bool true)∧Below W.heap.size W w') (hE:∀ W,Below w.heap.size w W→Calls Tryz.prog 77 #[.slice sA ns sc] W fun e w'=>∃ A c,e= .returned (.slice A (List.length (α:=WsL) L) c)∧RE w' w'.heap.size A L∧Below W.heap.size W w') (hF:∀ W,Below w.heap.size w W→Calls Tryz.prog 77 #[.slice sA' ns' sc'] W fun e w'=>∃ A c,e= .returned (.slice A (List.length (α:=WsL) L') c)∧RE w' w'.heap.size A L'∧Below W.heap.size W w') (h6:∀ W (B B':Option Addr) (d d':Nat),RE W W.heap.size B L→RE W W.heap.size B' L'→Calls Tryz.prog 76 #[.slice B (List.length (α:=WsL) L) d,.slice B' (List.length (α:=WsL) L') d'] W fun e w'=>e= .returned (.bool false)∧Below W.heap.size W w'):
 Calls Tryz.prog 29 #[mlv k t r ix (.slice iA ni ic) (.slice oA no oc) (.slice sA ns sc),mlv k t r ix (.slice iA' ni' ic') (.slice oA' no' oc') (.slice sA' ns' sc')] w fun e w'=>e= .returned (.bool false)∧Below w.heap.size w w':=by
 obtain⟨w1,hw1,F1,hs1,hb1⟩:=mail_box w (.int .u8 k) (.int .u32 t) (.int .u8 r) (.int .i64 ix) (.slice iA ni ic) (.slice oA no oc) (.slice sA ns sc)
 obtain⟨w2,hw2,F2,hs2,hb2⟩:=mail_box w1 (.int .u8 k) (.int .u32 t) (.int .u8 r) (.int .i64 ix) (.slice iA' ni' ic') (.slice oA' no' oc') (.slice sA' ns' sc')
 have hb12:=fresh hb1 hb2
 have hl1:w.heap.size < w2.heap.size:=Nat.lt_of_lt_of_le hs1 hb2.size
 have hl2:w1.heap.size < w2.heap.size:=hs2
 have G2:=F1.below hb2
 obtain⟨p0,p1,p2,p3,p4,p5,p6⟩:=F2.cells
 obtain⟨m0,m1,m2,m3,m4,m5,m6⟩:=G2.cells
 replace hP:=hide hP
 replace hQ:=hide hQ
 replace hE:=hide hE
 replace hF:=hide hF
 replace h6:=hide h6
 clear F1 F2 G2
 go_enter Tryz.func29,Tryz.ntmps29
 go_wp2_with fail
 clear hw1 hw2
 refine wp_region_claims ([.val (.pointer (some ⟨w.heap.size,0,none⟩)),.val (.int .u8 k),.val (.pointer (some ⟨w1.heap.size,0,none⟩)),.val (.int .u8 k),.val (.bool true),.val (.bool true),.val (.pointer (some ⟨w.heap.size,1,none⟩)),.val (.agg #[.int .u32 t,.int .u8 r]),.val (.pointer (some ⟨w1.heap.size,1,none⟩)),.val (.agg #[.int .u32 t,.int .u8 r]),.val (.bool true),.val (.bool true),.val (.bool true),.val (.pointer (some ⟨w.heap.size,3,none⟩)),.val (.int .i64 ix),.val (.pointer (some ⟨w1.heap.size,3,none⟩)),.val (.int .i64 ix),.val (.bool true),.val (.bool true),.val (.bool true),.val (.pointer (some ⟨w.heap.size,4,none⟩)),.val (.slice iA ni ic),.val (.pointer (some ⟨w1.heap.size,4,none⟩)),.val (.slice iA' ni' ic'),.val (.bool true),.val (.bool true),.val (.bool true),.val (.pointer (some ⟨w.heap.size,5,none⟩)),.val (.slice oA no oc),.val (.pointer (some ⟨w1.heap.size,5,none⟩)),.val (.slice oA' no' oc'),.val (.bool true),.val (.bool true),.val (.bool true),.val (.pointer (some ⟨w.heap.size,6,none⟩)),.val (.slice sA ns sc),.ent L,.val (.pointer (some ⟨w1.heap.size,6,none⟩)),.val (.slice sA' ns' sc'),.ent L',.val (.bool false),.val (.bool false),.val (.bool false),.val undef,.val undef,.val undef,.val undef,.val undef,.val (.bool false),.val (.bool false)].map Km.say) (by kernel_rfl) 54 (by rfl) (by kernel_rfl) (kms_mono _) ?_ ?_
 ·refine⟨?_,?_,?_,?_,?_,?_,?_,?_,?_,?_,?_,?_,?_,?_,?_,?_,?_,?_,?_,?_,?_,?_,?_,?_,?_,?_,?_,?_,?_,?_,?_,?_,?_,?_,?_,?_,?_,?_,?_,?_,?_,?_,?_,?_,?_,?_,?_,?_,?_,?_,trivial⟩
  ·
   intro ρ w' hb hf hd
   have h2:ρ 2=(.pointer (some ⟨w.heap.size,0,none⟩)):=hf 2 (by kernel_rfl)
   clear hf hd
   refine .inl ⟨rfl,opOK_step fun R hR=>?_⟩
   unfold opOK
   go_simp
   exact hR _ _ ⟨Below.refl _ _,rfl⟩
  ·
   intro ρ w' hb hf hd
   have h5:ρ 5=(.pointer (some ⟨w.heap.size,0,none⟩)):=hd 0 (by kernel_rfl)
   clear hf hd
   refine .inl ⟨rfl,opOK_step fun R hR=>?_⟩
   have q0:=keep_cell hb hl1 m0
   unfold opOK
   go_simp
   exact hR _ _ ⟨Below.refl _ _,rfl⟩
  ·
   intro ρ w' hb hf hd
   have h3:ρ 3=(.pointer (some ⟨w1.heap.size,0,none⟩)):=hf 3 (by kernel_rfl)
   clear hf hd
   refine .inl ⟨rfl,opOK_step fun R hR=>?_⟩
   unfold opOK
   go_simp
   exact hR _ _ ⟨Below.refl _ _,rfl⟩
  ·
   intro ρ w' hb hf hd
   have h7:ρ 7=(.pointer (some ⟨w1.heap.size,0,none⟩)):=hd 2 (by kernel_rfl)
   clear hf hd
   refine .inl ⟨rfl,opOK_step fun R hR=>?_⟩
   have q0:=keep_cell hb hl2 p0
   unfold opOK
   go_simp
   exact hR _ _ ⟨Below.refl _ _,rfl⟩
  ·
   intro ρ w' hb hf hd
   have h6:ρ 6=(.int .u8 k):=hd 1 (by kernel_rfl)
   have h8:ρ 8=(.int .u8 k):=hd 3 (by kernel_rfl)
   clear hf hd
   refine .inl ⟨rfl,opOK_step fun R hR=>?_⟩
   unfold opOK
   go_simp
   exact hR _ _ ⟨Below.refl _ _,rfl⟩
  ·
   intro ρ w' hb hf hd
   have h9:ρ 9=(.bool true):=hd 4 (by kernel_rfl)
   clear hf hd
   refine .inl ⟨rfl,opOK_step fun R hR=>?_⟩
   unfold opOK
   go_simp
   exact hR _ _ ⟨Below.refl _ _,rfl⟩
  ·
   intro ρ w' hb hf hd
   have h2:ρ 2=(.pointer (some ⟨w.heap.size,0,none⟩)):=hf 2 (by kernel_rfl)
   have h10:ρ 10=(.bool true):=hd 5 (by kernel_rfl)
   clear hf hd
   refine .inl ⟨ask_of rfl rfl h10,opOK_step fun R hR=>?_⟩
   unfold opOK
   go_simp
   exact hR _ _ ⟨Below.refl _ _,rfl⟩
  ·
   intro ρ w' hb hf hd
   have h10:ρ 10=(.bool true):=hd 5 (by kernel_rfl)
   have h11:ρ 11=(.pointer (some ⟨w.heap.size,1,none⟩)):=hd 6 (by kernel_rfl)
   clear hf hd
   refine .inl ⟨ask_of rfl rfl h10,opOK_step fun R hR=>?_⟩
   have q1:=keep_cell hb hl1 m1
   have q2:=keep_cell hb hl1 m2
   unfold opOK
   go_simp
   exact hR _ _ ⟨Below.refl _ _,rfl⟩
  ·
   intro ρ w' hb hf hd
   have h3:ρ 3=(.pointer (some ⟨w1.heap.size,0,none⟩)):=hf 3 (by kernel_rfl)
   have h10:ρ 10=(.bool true):=hd 5 (by kernel_rfl)
   clear hf hd
   refine .inl ⟨ask_of rfl rfl h10,opOK_step fun R hR=>?_⟩
   unfold opOK
   go_simp
   exact hR _ _ ⟨Below.refl _ _,rfl⟩
  ·
   intro ρ w' hb hf hd
   have h10:ρ 10=(.bool true):=hd 5 (by kernel_rfl)
   have h13:ρ 13=(.pointer (some ⟨w1.heap.size,1,none⟩)):=hd 8 (by kernel_rfl)
   clear hf hd
   refine .inl ⟨ask_of rfl rfl h10,opOK_step fun R hR=>?_⟩
   have q1:=keep_cell hb hl2 p1
   have q2:=keep_cell hb hl2 p2
   unfold opOK
   go_simp
   exact hR _ _ ⟨Below.refl _ _,rfl⟩
  ·
   intro ρ w' hb hf hd
   have h10:ρ 10=(.bool true):=hd 5 (by kernel_rfl)
   have h12:ρ 12=(.agg #[.int .u32 t,.int .u8 r]):=hd 7 (by kernel_rfl)
   have h14:ρ 14=(.agg #[.int .u32 t,.int .u8 r]):=hd 9 (by kernel_rfl)
   clear hf hd
   refine .inl ⟨ask_of rfl rfl h10,opOK_step fun R hR=>?_⟩
   unfold opOK
   go_simp
   exact hR _ _ ⟨Below.refl _ _,rfl⟩
  ·
   intro ρ w' hb hf hd
   have h10:ρ 10=(.bool true):=hd 5 (by kernel_rfl)
   have h15:ρ 15=(.bool true):=hd 10 (by kernel_rfl)
   clear hf hd
   refine .inl ⟨rfl,opOK_step fun R hR=>?_⟩
   unfold opOK
   go_simp
   exact hR _ _ ⟨Below.refl _ _,rfl⟩
  ·
   intro ρ w' hb hf hd
   have h16:ρ 16=(.bool true):=hd 11 (by kernel_rfl)
   clear hf hd
   refine .inl ⟨rfl,opOK_step fun R hR=>?_⟩
   unfold opOK
   go_simp
   exact hR _ _ ⟨Below.refl _ _,rfl⟩
  ·
   intro ρ w' hb hf hd
   have h2:ρ 2=(.pointer (some ⟨w.heap.size,0,none⟩)):=hf 2 (by kernel_rfl)
   have h17:ρ 17=(.bool true):=hd 12 (by kernel_rfl)
   clear hf hd
   refine .inl ⟨ask_of rfl rfl h17,opOK_step fun R hR=>?_⟩
   unfold opOK
   go_simp
   exact hR _ _ ⟨Below.refl _ _,rfl⟩
  ·
   intro ρ w' hb hf hd
   have h17:ρ 17=(.bool true):=hd 12 (by kernel_rfl)
   have h18:ρ 18=(.pointer (some ⟨w.heap.size,3,none⟩)):=hd 13 (by kernel_rfl)
   clear hf hd
   refine .inl ⟨ask_of rfl rfl h17,opOK_step fun R hR=>?_⟩
   have q3:=keep_cell hb hl1 m3
   unfold opOK
   go_simp
   exact hR _ _ ⟨Below.refl _ _,rfl⟩
  ·
   intro ρ w' hb hf hd
   have h3:ρ 3=(.pointer (some ⟨w1.heap.size,0,none⟩)):=hf 3 (by kernel_rfl)
   have h17:ρ 17=(.bool true):=hd 12 (by kernel_rfl)
   clear hf hd
   refine .inl ⟨ask_of rfl rfl h17,opOK_step fun R hR=>?_⟩
   unfold opOK
   go_simp
   exact hR _ _ ⟨Below.refl _ _,rfl⟩
  ·
   intro ρ w' hb hf hd
   have h17:ρ 17=(.bool true):=hd 12 (by kernel_rfl)
   have h20:ρ 20=(.pointer (some ⟨w1.heap.size,3,none⟩)):=hd 15 (by kernel_rfl)
   clear hf hd
   refine .inl ⟨ask_of rfl rfl h17,opOK_step fun R hR=>?_⟩
   have q3:=keep_cell hb hl2 p3
   unfold opOK
   go_simp
   exact hR _ _ ⟨Below.refl _ _,rfl⟩
  ·
   intro ρ w' hb hf hd
   have h17:ρ 17=(.bool true):=hd 12 (by kernel_rfl)
   have h19:ρ 19=(.int .i64 ix):=hd 14 (by kernel_rfl)
   have h21:ρ 21=(.int .i64 ix):=hd 16 (by kernel_rfl)
   clear hf hd
   refine .inl ⟨ask_of rfl rfl h17,opOK_step fun R hR=>?_⟩
   unfold opOK
   go_simp
   exact hR _ _ ⟨Below.refl _ _,rfl⟩
  ·
   intro ρ w' hb hf hd
   have h17:ρ 17=(.bool true):=hd 12 (by kernel_rfl)
   have h22:ρ 22=(.bool true):=hd 17 (by kernel_rfl)
   clear hf hd
   refine .inl ⟨rfl,opOK_step fun R hR=>?_⟩
   unfold opOK
   go_simp
   exact hR _ _ ⟨Below.refl _ _,rfl⟩
  ·
   intro ρ w' hb hf hd
   have h23:ρ 23=(.bool true):=hd 18 (by kernel_rfl)
   clear hf hd
   refine .inl ⟨rfl,opOK_step fun R hR=>?_⟩
   unfold opOK
   go_simp
   exact hR _ _ ⟨Below.refl _ _,rfl⟩
  ·
   intro ρ w' hb hf hd
   have h2:ρ 2=(.pointer (some ⟨w.heap.size,0,none⟩)):=hf 2 (by kernel_rfl)
   have h24:ρ 24=(.bool true):=hd 19 (by kernel_rfl)
   clear hf hd
   refine .inl ⟨ask_of rfl rfl h24,opOK_step fun R hR=>?_⟩
   unfold opOK
   go_simp
   exact hR _ _ ⟨Below.refl _ _,rfl⟩
  ·
   intro ρ w' hb hf hd
   have h24:ρ 24=(.bool true):=hd 19 (by kernel_rfl)
   have h25:ρ 25=(.pointer (some ⟨w.heap.size,4,none⟩)):=hd 20 (by kernel_rfl)
   clear hf hd
   refine .inl ⟨ask_of rfl rfl h24,opOK_step fun R hR=>?_⟩
   have q4:=keep_cell hb hl1 m4
   unfold opOK
   go_simp
   exact hR _ _ ⟨Below.refl _ _,rfl⟩
  ·
   intro ρ w' hb hf hd
   have h3:ρ 3=(.pointer (some ⟨w1.heap.size,0,none⟩)):=hf 3 (by kernel_rfl)
   have h24:ρ 24=(.bool true):=hd 19 (by kernel_rfl)
   clear hf hd
   refine .inl ⟨ask_of rfl rfl h24,opOK_step fun R hR=>?_⟩
   unfold opOK
   go_simp
   exact hR _ _ ⟨Below.refl _ _,rfl⟩
  ·
   intro ρ w' hb hf hd
   have h24:ρ 24=(.bool true):=hd 19 (by kernel_rfl)
   have h27:ρ 27=(.pointer (some ⟨w1.heap.size,4,none⟩)):=hd 22 (by kernel_rfl)
   clear hf hd
   refine .inl ⟨ask_of rfl rfl h24,opOK_step fun R hR=>?_⟩
   have q4:=keep_cell hb hl2 p4
   unfold opOK
   go_simp
   exact hR _ _ ⟨Below.refl _ _,rfl⟩
  ·
   intro ρ w' hb hf hd
   have h24:ρ 24=(.bool true):=hd 19 (by kernel_rfl)
   have h26:ρ 26=(.slice iA ni ic):=hd 21 (by kernel_rfl)
   have h28:ρ 28=(.slice iA' ni' ic'):=hd 23 (by kernel_rfl)
   clear hf hd
   refine .inl ⟨ask_of rfl rfl h24,opOK_step fun R hR=>?_⟩
   unfold opOK
   go_simp
   exact (hP.out w' (hb12.trans (hb.mono hb12.size))).mono fun e w3 ⟨he,hb3⟩=>⟨_,he,hR _ _ ⟨hb3,rfl⟩⟩
  ·
   intro ρ w' hb hf hd
   have h24:ρ 24=(.bool true):=hd 19 (by kernel_rfl)
   have h29:ρ 29=(.bool true):=hd 24 (by kernel_rfl)
   clear hf hd
   refine .inl ⟨rfl,opOK_step fun R hR=>?_⟩
   unfold opOK
   go_simp
   exact hR _ _ ⟨Below.refl _ _,rfl⟩
  ·
   intro ρ w' hb hf hd
   have h30:ρ 30=(.bool true):=hd 25 (by kernel_rfl)
   clear hf hd
   refine .inl ⟨rfl,opOK_step fun R hR=>?_⟩
   unfold opOK
   go_simp
   exact hR _ _ ⟨Below.refl _ _,rfl⟩
  ·
   intro ρ w' hb hf hd
   have h2:ρ 2=(.pointer (some ⟨w.heap.size,0,none⟩)):=hf 2 (by kernel_rfl)
   have h31:ρ 31=(.bool true):=hd 26 (by kernel_rfl)
   clear hf hd
   refine .inl ⟨ask_of rfl rfl h31,opOK_step fun R hR=>?_⟩
   unfold opOK
   go_simp
   exact hR _ _ ⟨Below.refl _ _,rfl⟩
  ·
   intro ρ w' hb hf hd
   have h31:ρ 31=(.bool true):=hd 26 (by kernel_rfl)
   have h32:ρ 32=(.pointer (some ⟨w.heap.size,5,none⟩)):=hd 27 (by kernel_rfl)
   clear hf hd
   refine .inl ⟨ask_of rfl rfl h31,opOK_step fun R hR=>?_⟩
   have q5:=keep_cell hb hl1 m5
   unfold opOK
   go_simp
   exact hR _ _ ⟨Below.refl _ _,rfl⟩
  ·
   intro ρ w' hb hf hd
   have h3:ρ 3=(.pointer (some ⟨w1.heap.size,0,none⟩)):=hf 3 (by kernel_rfl)
   have h31:ρ 31=(.bool true):=hd 26 (by kernel_rfl)
   clear hf hd
   refine .inl ⟨ask_of rfl rfl h31,opOK_step fun R hR=>?_⟩
   unfold opOK
   go_simp
   exact hR _ _ ⟨Below.refl _ _,rfl⟩
  ·
   intro ρ w' hb hf hd
   have h31:ρ 31=(.bool true):=hd 26 (by kernel_rfl)
   have h34:ρ 34=(.pointer (some ⟨w1.heap.size,5,none⟩)):=hd 29 (by kernel_rfl)
   clear hf hd
   refine .inl ⟨ask_of rfl rfl h31,opOK_step fun R hR=>?_⟩
   have q5:=keep_cell hb hl2 p5
   unfold opOK
   go_simp
   exact hR _ _ ⟨Below.refl _ _,rfl⟩
  ·
   intro ρ w' hb hf hd
   have h31:ρ 31=(.bool true):=hd 26 (by kernel_rfl)
   have h33:ρ 33=(.slice oA no oc):=hd 28 (by kernel_rfl)
   have h35:ρ 35=(.slice oA' no' oc'):=hd 30 (by kernel_rfl)
   clear hf hd
   refine .inl ⟨ask_of rfl rfl h31,opOK_step fun R hR=>?_⟩
   unfold opOK
   go_simp
   exact (hQ.out w' (hb12.trans (hb.mono hb12.size))).mono fun e w3 ⟨he,hb3⟩=>⟨_,he,hR _ _ ⟨hb3,rfl⟩⟩
  ·
   intro ρ w' hb hf hd
   have h31:ρ 31=(.bool true):=hd 26 (by kernel_rfl)
   have h36:ρ 36=(.bool true):=hd 31 (by kernel_rfl)
   clear hf hd
   refine .inl ⟨rfl,opOK_step fun R hR=>?_⟩
   unfold opOK
   go_simp
   exact hR _ _ ⟨Below.refl _ _,rfl⟩
  ·
   intro ρ w' hb hf hd
   have h37:ρ 37=(.bool true):=hd 32 (by kernel_rfl)
   clear hf hd
   refine .inl ⟨rfl,opOK_step fun R hR=>?_⟩
   unfold opOK
   go_simp
   exact hR _ _ ⟨Below.refl _ _,rfl⟩
  ·
   intro ρ w' hb hf hd
   have h2:ρ 2=(.pointer (some ⟨w.heap.size,0,none⟩)):=hf 2 (by kernel_rfl)
   have h38:ρ 38=(.bool true):=hd 33 (by kernel_rfl)
   clear hf hd
   refine .inl ⟨ask_of rfl rfl h38,opOK_step fun R hR=>?_⟩
   unfold opOK
   go_simp
   exact hR _ _ ⟨Below.refl _ _,rfl⟩
  ·
   intro ρ w' hb hf hd
   have h38:ρ 38=(.bool true):=hd 33 (by kernel_rfl)
   have h39:ρ 39=(.pointer (some ⟨w.heap.size,6,none⟩)):=hd 34 (by kernel_rfl)
   clear hf hd
   refine .inl ⟨ask_of rfl rfl h38,opOK_step fun R hR=>?_⟩
   have q6:=keep_cell hb hl1 m6
   unfold opOK
   go_simp
   exact hR _ _ ⟨Below.refl _ _,rfl⟩
  ·
   intro ρ w' hb hf hd
   have h38:ρ 38=(.bool true):=hd 33 (by kernel_rfl)
   have h40:ρ 40=(.slice sA ns sc):=hd 35 (by kernel_rfl)
   clear hf hd
   refine .inl ⟨ask_of rfl rfl h38,opOK_step fun R hR=>?_⟩
   unfold opOK
   go_simp
   exact (hE.out w' (hb12.trans (hb.mono hb12.size))).mono fun e w3 ⟨A9,c9,he,hr,hb3⟩=>⟨_,he,hR _ _ ⟨hb3,A9,c9,rfl,hr⟩⟩
  ·
   intro ρ w' hb hf hd
   have h3:ρ 3=(.pointer (some ⟨w1.heap.size,0,none⟩)):=hf 3 (by kernel_rfl)
   have h38:ρ 38=(.bool true):=hd 33 (by kernel_rfl)
   clear hf hd
   refine .inl ⟨ask_of rfl rfl h38,opOK_step fun R hR=>?_⟩
   unfold opOK
   go_simp
   exact hR _ _ ⟨Below.refl _ _,rfl⟩
  ·
   intro ρ w' hb hf hd
   have h38:ρ 38=(.bool true):=hd 33 (by kernel_rfl)
   have h42:ρ 42=(.pointer (some ⟨w1.heap.size,6,none⟩)):=hd 37 (by kernel_rfl)
   clear hf hd
   refine .inl ⟨ask_of rfl rfl h38,opOK_step fun R hR=>?_⟩
   have q6:=keep_cell hb hl2 p6
   unfold opOK
   go_simp
   exact hR _ _ ⟨Below.refl _ _,rfl⟩
  ·
   intro ρ w' hb hf hd
   have h38:ρ 38=(.bool true):=hd 33 (by kernel_rfl)
   have h43:ρ 43=(.slice sA' ns' sc'):=hd 38 (by kernel_rfl)
   clear hf hd
   refine .inl ⟨ask_of rfl rfl h38,opOK_step fun R hR=>?_⟩
   unfold opOK
   go_simp
   exact (hF.out w' (hb12.trans (hb.mono hb12.size))).mono fun e w3 ⟨A9,c9,he,hr,hb3⟩=>⟨_,he,hR _ _ ⟨hb3,A9,c9,rfl,hr⟩⟩
  ·
   intro ρ w' hb hf hd
   have h38:ρ 38=(.bool true):=hd 33 (by kernel_rfl)
   have h41:(Km.ent L).say (ρ 41) w':=hd 36 (by kernel_rfl)
   have h44:(Km.ent L').say (ρ 44) w':=hd 39 (by kernel_rfl)
   clear hf hd
   refine .inl ⟨ask_of rfl rfl h38,opOK_step fun R hR=>?_⟩
   obtain⟨A8,c8,k41,r8⟩:=h41
   obtain⟨A9,c9,k44,r9⟩:=h44
   unfold opOK
   go_simp
   exact (h6.out w' A8 A9 c8 c9 r8 r9).mono fun e w3 ⟨he,hb3⟩=>⟨_,he,hR _ _ ⟨hb3,rfl⟩⟩
  ·
   intro ρ w' hb hf hd
   have h38:ρ 38=(.bool true):=hd 33 (by kernel_rfl)
   have h45:ρ 45=(.bool false):=hd 40 (by kernel_rfl)
   clear hf hd
   refine .inl ⟨rfl,opOK_step fun R hR=>?_⟩
   unfold opOK
   go_simp
   exact hR _ _ ⟨Below.refl _ _,rfl⟩
  ·
   intro ρ w' hb hf hd
   have h46:ρ 46=(.bool false):=hd 41 (by kernel_rfl)
   clear hf hd
   refine .inl ⟨rfl,opOK_step fun R hR=>?_⟩
   unfold opOK
   go_simp
   exact hR _ _ ⟨Below.refl _ _,rfl⟩
  ·
   intro ρ w' hb hf hd
   have h2:ρ 2=(.pointer (some ⟨w.heap.size,0,none⟩)):=hf 2 (by kernel_rfl)
   have h47:ρ 47=(.bool false):=hd 42 (by kernel_rfl)
   clear hf hd
   exact .inr ⟨ask_not rfl rfl h47,rfl⟩
  ·
   intro ρ w' hb hf hd
   have h47:ρ 47=(.bool false):=hd 42 (by kernel_rfl)
   have h48:ρ 48=undef:=hd 43 (by kernel_rfl)
   clear hf hd
   exact .inr ⟨ask_not rfl rfl h47,rfl⟩
  ·
   intro ρ w' hb hf hd
   have h3:ρ 3=(.pointer (some ⟨w1.heap.size,0,none⟩)):=hf 3 (by kernel_rfl)
   have h47:ρ 47=(.bool false):=hd 42 (by kernel_rfl)
   clear hf hd
   exact .inr ⟨ask_not rfl rfl h47,rfl⟩
  ·
   intro ρ w' hb hf hd
   have h47:ρ 47=(.bool false):=hd 42 (by kernel_rfl)
   have h50:ρ 50=undef:=hd 45 (by kernel_rfl)
   clear hf hd
   exact .inr ⟨ask_not rfl rfl h47,rfl⟩
  ·
   intro ρ w' hb hf hd
   have h47:ρ 47=(.bool false):=hd 42 (by kernel_rfl)
   have h49:ρ 49=undef:=hd 44 (by kernel_rfl)
   have h51:ρ 51=undef:=hd 46 (by kernel_rfl)
   clear hf hd
   exact .inr ⟨ask_not rfl rfl h47,rfl⟩
  ·
   intro ρ w' hb hf hd
   have h47:ρ 47=(.bool false):=hd 42 (by kernel_rfl)
   have h52:ρ 52=undef:=hd 47 (by kernel_rfl)
   clear hf hd
   refine .inl ⟨rfl,opOK_step fun R hR=>?_⟩
   unfold opOK
   go_simp
   exact hR _ _ ⟨Below.refl _ _,rfl⟩
  ·
   intro ρ w' hb hf hd
   have h53:ρ 53=(.bool false):=hd 48 (by kernel_rfl)
   clear hf hd
   refine .inl ⟨rfl,opOK_step fun R hR=>?_⟩
   unfold opOK
   go_simp
   exact hR _ _ ⟨Below.refl _ _,rfl⟩
 ·intro a' w5 hb5 hdf hsz hf hd
  have h4:slotsOf a' 4= .bool false:=hd 49 (by decide)
  obtain⟨T,D⟩:=a'
  have hD:D= []:=hdf
  subst hD
  obtain⟨f,hT,hff⟩:∃ f:Nat→Value,T=((List.range 54).map f).toArray∧slotsOf ⟨T, []⟩=f:=⟨_,arr_list T 54 hsz,rfl⟩
  rw [hff] at h4
  clear hff hsz hf hd hdf
  simp only [List.range,List.range.loop,List.map] at hT
  subst hT
  rw [h4]
  clear h4
  go_wp2_with fail
  go_ret
  exact⟨rfl,hb12.trans (hb5.mono hb12.size)⟩
end Go.Proofs.YtmkpfdcnikgokaaGreat
