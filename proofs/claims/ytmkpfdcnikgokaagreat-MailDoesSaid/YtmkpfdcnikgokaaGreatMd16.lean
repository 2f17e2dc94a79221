/-
  Texts of this claim, put together: MailSame. What each theorem asks stands in its statement.
-/
import Derived.Test.YtmkpfdcnikgokaaGreatMd15
set_option linter.unusedVariables false
set_option linter.unusedSimpArgs false
set_option maxRecDepth 100000
set_option maxHeartbeats 25600000
namespace Go.Proofs.YtmkpfdcnikgokaaGreat
open Go.RowKit
inductive Km where
 | val (v:Value)
 | ent (L:List Ay)
def Km.say:Km->P9
 | .val v=>fun u _=>u=v
 | .ent L=>fun u w=>∃ A c,u= .slice A L.length c/\RE w w.heap.size A L
theorem T6 (ks:List Km):∀ V∈ks.map Km.say,∀ v w w',V v w->Below w.heap.size w w'->V v w':=by
 intro V hV v w w' h hb;obtain⟨k,-,rfl⟩:=List.mem_map.1 hV
 cases k with
 | val u=>exact h
 | ent L=>
   obtain⟨A,c,e,hr⟩:=h;exact⟨A,c,e,(hr.below hb).more hb.size⟩
theorem Acy (k t r ix k' t' r' vs:Int) (iA oA sA ef ji dz:Option Addr) (ni ic no oc ns sc xd ee xt jh xc ec:Nat) (w:World) (hk:¬ (k=k'/\t=t'/\r=r'/\ix=vs)):
 Calls Tryz.prog 29 #[Ci k t r ix (.slice iA ni ic) (.slice oA no oc) (.slice sA ns sc),Ci k' t' r' vs (.slice ef xd ee) (.slice ji xt jh) (.slice dz xc ec)] w fun e w'=>e= .returned (.bool false)/\Below w.heap.size w w':=by
 obtain⟨w1,au,F1,af,ac⟩:=Am w (.int .u8 k) (.int .u32 t) (.int .u8 r) (.int .i64 ix) (.slice iA ni ic) (.slice oA no oc) (.slice sA ns sc);obtain⟨w2,fc,F2,cd,ae⟩:=Am w1 (.int .u8 k') (.int .u32 t') (.int .u8 r') (.int .i64 vs) (.slice ef xd ee) (.slice ji xt jh) (.slice dz xc ec);have cg:=Ad ac ae;have j6:w.heap.size < w2.heap.size:=Nat.lt_of_lt_of_le af ae.size;have gm:w1.heap.size < w2.heap.size:=cd;have G2:=F1.below ae;obtain⟨p0,p1,p2,p3,p4,p5,p6⟩:=F2.cells;obtain⟨m0,m1,m2,m3,m4,m5,m6⟩:=G2.cells;have hd:k≠k'\/k=k'/\t≠t'\/k=k'/\t=t'/\r≠r'\/k=k'/\t=t'/\r=r'/\ix≠vs:=by omega
 clear hk;rcases hd with h | ⟨rfl,h⟩ | ⟨rfl,rfl,h⟩ | ⟨rfl,rfl,rfl,h⟩
 all_goals
  have be:=beq_eq_false_iff_ne.2 h;clear F1 F2 G2;go_enter Tryz.func29,Tryz.ntmps29;go_wp2_with fail;refine Aj (by kernel_rfl) (by kernel_rfl) ?_
  repeat (
   refine WQ.step (fun K hK=>?_)
   go_simp
   first
    | (refine hK _ ?_;clear hK K)
    | (apply Exists.intro
       refine⟨fun _=>?_,hK _ ?_⟩
       skip
       clear hK K))
  refine WQ.nil ?_;intro u;go_wp2_with fail;go_ret;exact⟨rfl,cg.trans ((Af w2 u).mono cg.size)⟩
theorem Acx (k t r ix:Int) (iA oA sA ef ji dz:Option Addr) (ni ic no oc ns sc xd ee xt jh xc ec:Nat) (w:World) (hP:∀ W,Below w.heap.size w W->Calls Tryz.prog 73 #[.slice iA ni ic,.slice ef xd ee] W fun e w'=>e= .returned (.bool false)/\Below W.heap.size W w'):
 Calls Tryz.prog 29 #[Ci k t r ix (.slice iA ni ic) (.slice oA no oc) (.slice sA ns sc),Ci k t r ix (.slice ef xd ee) (.slice ji xt jh) (.slice dz xc ec)] w fun e w'=>e= .returned (.bool false)/\Below w.heap.size w w':=by
 obtain⟨w1,au,F1,af,ac⟩:=Am w (.int .u8 k) (.int .u32 t) (.int .u8 r) (.int .i64 ix) (.slice iA ni ic) (.slice oA no oc) (.slice sA ns sc);obtain⟨w2,fc,F2,cd,ae⟩:=Am w1 (.int .u8 k) (.int .u32 t) (.int .u8 r) (.int .i64 ix) (.slice ef xd ee) (.slice ji xt jh) (.slice dz xc ec);have cg:=Ad ac ae;have j6:w.heap.size < w2.heap.size:=Nat.lt_of_lt_of_le af ae.size;have gm:w1.heap.size < w2.heap.size:=cd;have G2:=F1.below ae;obtain⟨p0,p1,p2,p3,p4,p5,p6⟩:=F2.cells;obtain⟨m0,m1,m2,m3,m4,m5,m6⟩:=G2.cells;have P:=Aa (fun u=>hP (Bs w2 u) (cg.trans ((Af w2 u).mono cg.size)));clear hP;clear F1 F2 G2;go_enter Tryz.func29,Tryz.ntmps29;go_wp2_with fail;refine Aj (by kernel_rfl) (by kernel_rfl) ?_
 repeat (
  refine WQ.step (fun K hK=>?_)
  go_simp
  first
   | (refine hK _ ?_;clear hK K)
   | (apply Exists.intro
      refine⟨fun _=>?_,hK _ ?_⟩
      (first
        | (go_at_call 73;with_reducible exact Al (Ag P _)))
      clear hK K))
 refine WQ.nil ?_;intro u;go_wp2_with fail;go_ret;exact⟨rfl,cg.trans ((Af w2 u).mono cg.size)⟩
theorem Acw (k t r ix:Int) (iA oA sA ef ji dz:Option Addr) (ni ic no oc ns sc xd ee xt jh xc ec:Nat) (w:World) (hP:∀ W,Below w.heap.size w W->Calls Tryz.prog 73 #[.slice iA ni ic,.slice ef xd ee] W fun e w'=>e= .returned (.bool true)/\Below W.heap.size W w') (hQ:∀ W,Below w.heap.size w W->Calls Tryz.prog 74 #[.slice oA no oc,.slice ji xt jh,.func (.func 75) #[] #[]] W fun e w'=>e= .returned (.bool false)/\Below W.heap.size W w'):
 Calls Tryz.prog 29 #[Ci k t r ix (.slice iA ni ic) (.slice oA no oc) (.slice sA ns sc),Ci k t r ix (.slice ef xd ee) (.slice ji xt jh) (.slice dz xc ec)] w fun e w'=>e= .returned (.bool false)/\Below w.heap.size w w':=by
 obtain⟨w1,au,F1,af,ac⟩:=Am w (.int .u8 k) (.int .u32 t) (.int .u8 r) (.int .i64 ix) (.slice iA ni ic) (.slice oA no oc) (.slice sA ns sc);obtain⟨w2,fc,F2,cd,ae⟩:=Am w1 (.int .u8 k) (.int .u32 t) (.int .u8 r) (.int .i64 ix) (.slice ef xd ee) (.slice ji xt jh) (.slice dz xc ec);have cg:=Ad ac ae;have j6:w.heap.size < w2.heap.size:=Nat.lt_of_lt_of_le af ae.size;have gm:w1.heap.size < w2.heap.size:=cd;have G2:=F1.below ae;obtain⟨p0,p1,p2,p3,p4,p5,p6⟩:=F2.cells;obtain⟨m0,m1,m2,m3,m4,m5,m6⟩:=G2.cells;have P:=Aa (fun u=>hP (Bs w2 u) (cg.trans ((Af w2 u).mono cg.size)));clear hP;have Q:=Aa (fun u=>hQ (Bs w2 u) (cg.trans ((Af w2 u).mono cg.size)));clear hQ;clear F1 F2 G2;go_enter Tryz.func29,Tryz.ntmps29;go_wp2_with fail;refine Aj (by kernel_rfl) (by kernel_rfl) ?_
 repeat (
  refine WQ.step (fun K hK=>?_)
  go_simp
  first
   | (refine hK _ ?_;clear hK K)
   | (apply Exists.intro
      refine⟨fun _=>?_,hK _ ?_⟩
      (first
        | (go_at_call 73;with_reducible exact Al (Ag P _))
        | (go_at_call 74;with_reducible exact Al (Ag Q _)))
      clear hK K))
 refine WQ.nil ?_;intro u;go_wp2_with fail;go_ret;exact⟨rfl,cg.trans ((Af w2 u).mono cg.size)⟩
theorem Acv (k t r ix:Int) (iA oA sA ef ji dz:Option Addr) (ni ic no oc ns sc xd ee xt jh xc ec:Nat) (L L':List Ay) (b7:Bool) (w:World) (hP:∀ W,Below w.heap.size w W->Calls Tryz.prog 73 #[.slice iA ni ic,.slice ef xd ee] W fun e w'=>e= .returned (.bool true)/\Below W.heap.size W w') (hQ:∀ W,Below w.heap.size w W->Calls Tryz.prog 74 #[.slice oA no oc,.slice ji xt jh,.func (.func 75) #[] #[]] W fun e w'=>e= .returned (.bool true)/\Below W.heap.size W w') (hE:∀ W,Below w.heap.size w W->Calls Tryz.prog 77 #[.slice sA ns sc] W fun e w'=>∃ A c,e= .returned (.slice A (List.length (α:=Ay) L) c)/\RE w' w'.heap.size A L/\Below W.heap.size W w') (hF:∀ W,Below w.heap.size w W->Calls Tryz.prog 77 #[.slice dz xc ec] W fun e w'=>∃ A c,e= .returned (.slice A (List.length (α:=Ay) L') c)/\RE w' w'.heap.size A L'/\Below W.heap.size W w') (h6:∀ W (B B':Option Addr) (d d':Nat),RE W W.heap.size B L->RE W W.heap.size B' L'->Calls Tryz.prog 76 #[.slice B (List.length (α:=Ay) L) d,.slice B' (List.length (α:=Ay) L') d'] W fun e w'=>e= .returned (.bool true)/\Below W.heap.size W w') (h7:∀ W,Below w.heap.size w W->Calls Tryz.prog 78 #[.slice sA ns sc,.slice dz xc ec,.func (.func 79) #[] #[]] W fun e w'=>e= .returned (.bool b7)/\Below W.heap.size W w'):
 Calls Tryz.prog 29 #[Ci k t r ix (.slice iA ni ic) (.slice oA no oc) (.slice sA ns sc),Ci k t r ix (.slice ef xd ee) (.slice ji xt jh) (.slice dz xc ec)] w fun e w'=>e= .returned (.bool b7)/\Below w.heap.size w w':=by
 obtain⟨w1,au,F1,af,ac⟩:=Am w (.int .u8 k) (.int .u32 t) (.int .u8 r) (.int .i64 ix) (.slice iA ni ic) (.slice oA no oc) (.slice sA ns sc);obtain⟨w2,fc,F2,cd,ae⟩:=Am w1 (.int .u8 k) (.int .u32 t) (.int .u8 r) (.int .i64 ix) (.slice ef xd ee) (.slice ji xt jh) (.slice dz xc ec);have cg:=Ad ac ae;have j6:w.heap.size < w2.heap.size:=Nat.lt_of_lt_of_le af ae.size;have gm:w1.heap.size < w2.heap.size:=cd;have G2:=F1.below ae;obtain⟨p0,p1,p2,p3,p4,p5,p6⟩:=F2.cells;obtain⟨m0,m1,m2,m3,m4,m5,m6⟩:=G2.cells;replace hP:=Aa hP;replace hQ:=Aa hQ;replace hE:=Aa hE;replace hF:=Aa hF;replace h6:=Aa h6;replace h7:=Aa h7;clear F1 F2 G2;go_enter Tryz.func29,Tryz.ntmps29;go_wp2_with fail;clear au fc;refine Cn ([.val (.pointer (some ⟨w.heap.size,0,none⟩)),.val (.int .u8 k),.val (.pointer (some ⟨w1.heap.size,0,none⟩)),.val (.int .u8 k),.val (.bool true),.val (.bool true),.val (.pointer (some ⟨w.heap.size,1,none⟩)),.val (.agg #[.int .u32 t,.int .u8 r]),.val (.pointer (some ⟨w1.heap.size,1,none⟩)),.val (.agg #[.int .u32 t,.int .u8 r]),.val (.bool true),.val (.bool true),.val (.bool true),.val (.pointer (some ⟨w.heap.size,3,none⟩)),.val (.int .i64 ix),.val (.pointer (some ⟨w1.heap.size,3,none⟩)),.val (.int .i64 ix),.val (.bool true),.val (.bool true),.val (.bool true),.val (.pointer (some ⟨w.heap.size,4,none⟩)),.val (.slice iA ni ic),.val (.pointer (some ⟨w1.heap.size,4,none⟩)),.val (.slice ef xd ee),.val (.bool true),.val (.bool true),.val (.bool true),.val (.pointer (some ⟨w.heap.size,5,none⟩)),.val (.slice oA no oc),.val (.pointer (some ⟨w1.heap.size,5,none⟩)),.val (.slice ji xt jh),.val (.bool true),.val (.bool true),.val (.bool true),.val (.pointer (some ⟨w.heap.size,6,none⟩)),.val (.slice sA ns sc),.ent L,.val (.pointer (some ⟨w1.heap.size,6,none⟩)),.val (.slice dz xc ec),.ent L',.val (.bool true),.val (.bool true),.val (.bool true),.val (.pointer (some ⟨w.heap.size,6,none⟩)),.val (.slice sA ns sc),.val (.pointer (some ⟨w1.heap.size,6,none⟩)),.val (.slice dz xc ec),.val (.bool b7),.val (.bool b7),.val (.bool b7)].map Km.say) (by kernel_rfl) 54 (by rfl) (by kernel_rfl) (T6 _) ?_ ?_
 ·repeat' (first | exact trivial | refine And.intro ?_ ?_ | fail)
  all_goals
   intro ρ w' hb hf hd;have f2:ρ 2= .pointer (some ⟨w.heap.size,0,none⟩):=hf 2 (by kernel_rfl);have f3:ρ 3= .pointer (some ⟨w1.heap.size,0,none⟩):=hf 3 (by kernel_rfl);replace hd:=Lw hd
   repeat (obtain⟨e,hd⟩:=hd;first | change ρ _=_ at e | (obtain⟨_,_,e,_⟩:=e;change ρ _=_ at e) | fail)
   clear hf;have Hq:=cg.trans (hb.mono cg.size);have qs:=And.intro (Ac hb j6 m0) (And.intro (Ac hb j6 m1) (And.intro (Ac hb j6 m2) (And.intro (Ac hb j6 m3) (And.intro (Ac hb j6 m4) (And.intro (Ac hb j6 m5) (Ac hb j6 m6))))));have ps:=And.intro (Ac hb gm p0) (And.intro (Ac hb gm p1) (And.intro (Ac hb gm p2) (And.intro (Ac hb gm p3) (And.intro (Ac hb gm p4) (And.intro (Ac hb gm p5) (Ac hb gm p6))))))
   first
    | exact .inr ⟨Ml rfl rfl (by assumption),rfl⟩
    | (first | refine .inl ⟨rfl,Bt fun R hR=>?_⟩ | refine .inl ⟨Du rfl rfl (by assumption),Bt fun R hR=>?_⟩
       unfold Ih
       go_simp
       first
        | exact hR _ _ ⟨Below.refl _ _,rfl⟩
        | ((with_reducible refine (Ag hP w' Hq).mono ?_);exact fun e w3 ⟨he,ag⟩=>⟨_,he,hR _ _ ⟨ag,rfl⟩⟩)
        | ((with_reducible refine (Ag hQ w' Hq).mono ?_);exact fun e w3 ⟨he,ag⟩=>⟨_,he,hR _ _ ⟨ag,rfl⟩⟩)
        | ((with_reducible refine (Ag hE w' Hq).mono ?_);exact fun e w3 ⟨A9,c9,he,hr,ag⟩=>⟨_,he,hR _ _ ⟨ag,A9,c9,rfl,hr⟩⟩)
        | ((with_reducible refine (Ag hF w' Hq).mono ?_);exact fun e w3 ⟨A9,c9,he,hr,ag⟩=>⟨_,he,hR _ _ ⟨ag,A9,c9,rfl,hr⟩⟩)
        | ((with_reducible refine (Ag h7 w' Hq).mono ?_);exact fun e w3 ⟨he,ag⟩=>⟨_,he,hR _ _ ⟨ag,rfl⟩⟩)
        | ((with_reducible refine Calls.mono (Ag h6 w' _ _ _ _ ?_ ?_) ?_) <;> first | assumption | exact fun e w3 ⟨he,ag⟩=>⟨_,he,hR _ _ ⟨ag,rfl⟩⟩))
 ·intro a' w5 bq cz ay hf hd;have h4:Ab a' 4= .bool b7:=hd 49 (by decide);obtain⟨T,D⟩:=a';have hD:D= []:=cz;subst hD;obtain⟨f,hT,df⟩:∃ f:Nat->Value,T=((List.range 54).map f).toArray/\Ab ⟨T, []⟩=f:=⟨_,Bm T 54 ay,rfl⟩;rw [df] at h4;clear df ay hf hd cz;simp only [List.range,List.range.loop,List.map] at hT;subst hT;rw [h4];clear h4;go_wp2_with fail;go_ret;exact⟨rfl,cg.trans (bq.mono cg.size)⟩
theorem Acu (k t r ix:Int) (iA oA sA ef ji dz:Option Addr) (ni ic no oc ns sc xd ee xt jh xc ec:Nat) (L L':List Ay) (w:World) (hP:∀ W,Below w.heap.size w W->Calls Tryz.prog 73 #[.slice iA ni ic,.slice ef xd ee] W fun e w'=>e= .returned (.bool true)/\Below W.heap.size W w') (hQ:∀ W,Below w.heap.size w W->Calls Tryz.prog 74 #[.slice oA no oc,.slice ji xt jh,.func (.func 75) #[] #[]] W fun e w'=>e= .returned (.bool true)/\Below W.heap.size W w') (hE:∀ W,Below w.heap.size w W->Calls Tryz.prog 77 #[.slice sA ns sc] W fun e w'=>∃ A c,e= .returned (.slice A (List.length (α:=Ay) L) c)/\RE w' w'.heap.size A L/\Below W.heap.size W w') (hF:∀ W,Below w.heap.size w W->Calls Tryz.prog 77 #[.slice dz xc ec] W fun e w'=>∃ A c,e= .returned (.slice A (List.length (α:=Ay) L') c)/\RE w' w'.heap.size A L'/\Below W.heap.size W w') (h6:∀ W (B B':Option Addr) (d d':Nat),RE W W.heap.size B L->RE W W.heap.size B' L'->Calls Tryz.prog 76 #[.slice B (List.length (α:=Ay) L) d,.slice B' (List.length (α:=Ay) L') d'] W fun e w'=>e= .returned (.bool false)/\Below W.heap.size W w'):
 Calls Tryz.prog 29 #[Ci k t r ix (.slice iA ni ic) (.slice oA no oc) (.slice sA ns sc),Ci k t r ix (.slice ef xd ee) (.slice ji xt jh) (.slice dz xc ec)] w fun e w'=>e= .returned (.bool false)/\Below w.heap.size w w':=by
 obtain⟨w1,au,F1,af,ac⟩:=Am w (.int .u8 k) (.int .u32 t) (.int .u8 r) (.int .i64 ix) (.slice iA ni ic) (.slice oA no oc) (.slice sA ns sc);obtain⟨w2,fc,F2,cd,ae⟩:=Am w1 (.int .u8 k) (.int .u32 t) (.int .u8 r) (.int .i64 ix) (.slice ef xd ee) (.slice ji xt jh) (.slice dz xc ec);have cg:=Ad ac ae;have j6:w.heap.size < w2.heap.size:=Nat.lt_of_lt_of_le af ae.size;have gm:w1.heap.size < w2.heap.size:=cd;have G2:=F1.below ae;obtain⟨p0,p1,p2,p3,p4,p5,p6⟩:=F2.cells;obtain⟨m0,m1,m2,m3,m4,m5,m6⟩:=G2.cells;replace hP:=Aa hP;replace hQ:=Aa hQ;replace hE:=Aa hE;replace hF:=Aa hF;replace h6:=Aa h6;clear F1 F2 G2;go_enter Tryz.func29,Tryz.ntmps29;go_wp2_with fail;clear au fc;refine Cn ([.val (.pointer (some ⟨w.heap.size,0,none⟩)),.val (.int .u8 k),.val (.pointer (some ⟨w1.heap.size,0,none⟩)),.val (.int .u8 k),.val (.bool true),.val (.bool true),.val (.pointer (some ⟨w.heap.size,1,none⟩)),.val (.agg #[.int .u32 t,.int .u8 r]),.val (.pointer (some ⟨w1.heap.size,1,none⟩)),.val (.agg #[.int .u32 t,.int .u8 r]),.val (.bool true),.val (.bool true),.val (.bool true),.val (.pointer (some ⟨w.heap.size,3,none⟩)),.val (.int .i64 ix),.val (.pointer (some ⟨w1.heap.size,3,none⟩)),.val (.int .i64 ix),.val (.bool true),.val (.bool true),.val (.bool true),.val (.pointer (some ⟨w.heap.size,4,none⟩)),.val (.slice iA ni ic),.val (.pointer (some ⟨w1.heap.size,4,none⟩)),.val (.slice ef xd ee),.val (.bool true),.val (.bool true),.val (.bool true),.val (.pointer (some ⟨w.heap.size,5,none⟩)),.val (.slice oA no oc),.val (.pointer (some ⟨w1.heap.size,5,none⟩)),.val (.slice ji xt jh),.val (.bool true),.val (.bool true),.val (.bool true),.val (.pointer (some ⟨w.heap.size,6,none⟩)),.val (.slice sA ns sc),.ent L,.val (.pointer (some ⟨w1.heap.size,6,none⟩)),.val (.slice dz xc ec),.ent L',.val (.bool false),.val (.bool false),.val (.bool false),.val undef,.val undef,.val undef,.val undef,.val undef,.val (.bool false),.val (.bool false)].map Km.say) (by kernel_rfl) 54 (by rfl) (by kernel_rfl) (T6 _) ?_ ?_
 ·repeat' (first | exact trivial | refine And.intro ?_ ?_ | fail)
  all_goals
   intro ρ w' hb hf hd;have f2:ρ 2= .pointer (some ⟨w.heap.size,0,none⟩):=hf 2 (by kernel_rfl);have f3:ρ 3= .pointer (some ⟨w1.heap.size,0,none⟩):=hf 3 (by kernel_rfl);replace hd:=Lw hd
   repeat (obtain⟨e,hd⟩:=hd;first | change ρ _=_ at e | (obtain⟨_,_,e,_⟩:=e;change ρ _=_ at e) | fail)
   clear hf;have Hq:=cg.trans (hb.mono cg.size);have qs:=And.intro (Ac hb j6 m0) (And.intro (Ac hb j6 m1) (And.intro (Ac hb j6 m2) (And.intro (Ac hb j6 m3) (And.intro (Ac hb j6 m4) (And.intro (Ac hb j6 m5) (Ac hb j6 m6))))));have ps:=And.intro (Ac hb gm p0) (And.intro (Ac hb gm p1) (And.intro (Ac hb gm p2) (And.intro (Ac hb gm p3) (And.intro (Ac hb gm p4) (And.intro (Ac hb gm p5) (Ac hb gm p6))))))
   first
    | exact .inr ⟨Ml rfl rfl (by assumption),rfl⟩
    | (first | refine .inl ⟨rfl,Bt fun R hR=>?_⟩ | refine .inl ⟨Du rfl rfl (by assumption),Bt fun R hR=>?_⟩
       unfold Ih
       go_simp
       first
        | exact hR _ _ ⟨Below.refl _ _,rfl⟩
        | ((with_reducible refine (Ag hP w' Hq).mono ?_);exact fun e w3 ⟨he,ag⟩=>⟨_,he,hR _ _ ⟨ag,rfl⟩⟩)
        | ((with_reducible refine (Ag hQ w' Hq).mono ?_);exact fun e w3 ⟨he,ag⟩=>⟨_,he,hR _ _ ⟨ag,rfl⟩⟩)
        | ((with_reducible refine (Ag hE w' Hq).mono ?_);exact fun e w3 ⟨A9,c9,he,hr,ag⟩=>⟨_,he,hR _ _ ⟨ag,A9,c9,rfl,hr⟩⟩)
        | ((with_reducible refine (Ag hF w' Hq).mono ?_);exact fun e w3 ⟨A9,c9,he,hr,ag⟩=>⟨_,he,hR _ _ ⟨ag,A9,c9,rfl,hr⟩⟩)
        | ((with_reducible refine Calls.mono (Ag h6 w' _ _ _ _ ?_ ?_) ?_) <;> first | assumption | exact fun e w3 ⟨he,ag⟩=>⟨_,he,hR _ _ ⟨ag,rfl⟩⟩))
 ·intro a' w5 bq cz ay hf hd;have h4:Ab a' 4= .bool false:=hd 49 (by decide);obtain⟨T,D⟩:=a';have hD:D= []:=cz;subst hD;obtain⟨f,hT,df⟩:∃ f:Nat->Value,T=((List.range 54).map f).toArray/\Ab ⟨T, []⟩=f:=⟨_,Bm T 54 ay,rfl⟩;rw [df] at h4;clear df ay hf hd cz;simp only [List.range,List.range.loop,List.map] at hT;subst hT;rw [h4];clear h4;go_wp2_with fail;go_ret;exact⟨rfl,cg.trans (bq.mono cg.size)⟩
end Go.Proofs.YtmkpfdcnikgokaaGreat
