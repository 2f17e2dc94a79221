/-
  Texts of this claim, put together: MailSame. What each theorem asks stands in its statement.
-/
import Derived.Test.YtmkpfdcnikgokaaMc16
import Derived.Test.YtmkpfdcnikgokaaMc26
set_option linter.unusedVariables false
set_option linter.unusedSimpArgs false
namespace Go.Proofs.Ytmkpfdcnikgokaa
open Go.RowKit
/-- Kinds of claims: a value; the entries of wishes. -/
inductive Km where
  | val (v : Value)
  | ent (L : List WsL)
def Km.say : Km → Clm
  | .val v => fun u _ => u = v
  | .ent L => fun u w => ∃ A c, u = .slice A L.length c ∧ RE w w.heap.size A L
theorem kms_mono (ks : List Km) : ∀ V ∈ ks.map Km.say, ∀ v w w', V v w → Below w.heap.size w w' → V v w' := by
  intro V hV v w w' h hb
  obtain ⟨k, -, rfl⟩ := List.mem_map.1 hV
  cases k with
  | val u => exact h
  | ent L =>
    obtain ⟨A, c, e, hr⟩ := h
    exact ⟨A, c, e, (hr.below hb).more hb.size⟩
set_option maxHeartbeats 3200000 in
set_option maxRecDepth 100000 in
theorem msame_a (k t r ix k' t' r' ix' : Int) (iA oA sA iA' oA' sA' : Option Addr) (ni ic no oc ns sc ni' ic' no' oc' ns' sc' : Nat) (w : World) (hk : ¬ k = k') :
    Calls Try.prog 45 #[mlv k t r ix (.slice iA ni ic) (.slice oA no oc) (.slice sA ns sc), mlv k' t' r' ix' (.slice iA' ni' ic') (.slice oA' no' oc') (.slice sA' ns' sc')] w fun e w' => e = .returned (.bool false) ∧ Below w.heap.size w w' := by
  obtain ⟨w1, hw1, F1, hs1, hb1⟩ := mail_box w (.int .u8 k) (.int .u32 t) (.int .u8 r) (.int .i64 ix) (.slice iA ni ic) (.slice oA no oc) (.slice sA ns sc)
  obtain ⟨w2, hw2, F2, hs2, hb2⟩ := mail_box w1 (.int .u8 k') (.int .u32 t') (.int .u8 r') (.int .i64 ix') (.slice iA' ni' ic') (.slice oA' no' oc') (.slice sA' ns' sc')
  have hb12 := fresh hb1 hb2
  have hl1 : w.heap.size < w2.heap.size := Nat.lt_of_lt_of_le hs1 hb2.size
  have hl2 : w1.heap.size < w2.heap.size := hs2
  have G2 := F1.below hb2
  obtain ⟨p0, p1, p2, p3, p4, p5, p6⟩ := F2.cells
  obtain ⟨m0, m1, m2, m3, m4, m5, m6⟩ := G2.cells
  have be : (k == k') = false := beq_eq_false_iff_ne.2 hk
  clear F1 F2 G2
  go_enter Try.func45, Try.ntmps45
  go_wp2_with fail
  refine wp_region_wq (by kernel_rfl) (by kernel_rfl) ?_
  repeat (
    refine WQ.step (fun K hK => ?_)
    go_simp
    first
      | (refine hK _ ?_; clear hK K)
      | (apply Exists.intro
         refine ⟨fun _ => ?_, hK _ ?_⟩
         skip
         clear hK K))
  refine WQ.nil ?_
  intro u
  go_wp2_with fail
  go_ret
  exact ⟨rfl, hb12.trans ((below_past w2 u).mono hb12.size)⟩
set_option maxHeartbeats 3200000 in
set_option maxRecDepth 100000 in
theorem msame_b (k t r ix t' r' ix' : Int) (iA oA sA iA' oA' sA' : Option Addr) (ni ic no oc ns sc ni' ic' no' oc' ns' sc' : Nat) (w : World) (hk : ¬ t = t') :
    Calls Try.prog 45 #[mlv k t r ix (.slice iA ni ic) (.slice oA no oc) (.slice sA ns sc), mlv k t' r' ix' (.slice iA' ni' ic') (.slice oA' no' oc') (.slice sA' ns' sc')] w fun e w' => e = .returned (.bool false) ∧ Below w.heap.size w w' := by
  obtain ⟨w1, hw1, F1, hs1, hb1⟩ := mail_box w (.int .u8 k) (.int .u32 t) (.int .u8 r) (.int .i64 ix) (.slice iA ni ic) (.slice oA no oc) (.slice sA ns sc)
  obtain ⟨w2, hw2, F2, hs2, hb2⟩ := mail_box w1 (.int .u8 k) (.int .u32 t') (.int .u8 r') (.int .i64 ix') (.slice iA' ni' ic') (.slice oA' no' oc') (.slice sA' ns' sc')
  have hb12 := fresh hb1 hb2
  have hl1 : w.heap.size < w2.heap.size := Nat.lt_of_lt_of_le hs1 hb2.size
  have hl2 : w1.heap.size < w2.heap.size := hs2
  have G2 := F1.below hb2
  obtain ⟨p0, p1, p2, p3, p4, p5, p6⟩ := F2.cells
  obtain ⟨m0, m1, m2, m3, m4, m5, m6⟩ := G2.cells
  have be : (t == t') = false := beq_eq_false_iff_ne.2 hk
  clear F1 F2 G2
  go_enter Try.func45, Try.ntmps45
  go_wp2_with fail
  refine wp_region_wq (by kernel_rfl) (by kernel_rfl) ?_
  repeat (
    refine WQ.step (fun K hK => ?_)
    go_simp
    first
      | (refine hK _ ?_; clear hK K)
      | (apply Exists.intro
         refine ⟨fun _ => ?_, hK _ ?_⟩
         skip
         clear hK K))
  refine WQ.nil ?_
  intro u
  go_wp2_with fail
  go_ret
  exact ⟨rfl, hb12.trans ((below_past w2 u).mono hb12.size)⟩
set_option maxHeartbeats 3200000 in
set_option maxRecDepth 100000 in
theorem msame_c (k t r ix r' ix' : Int) (iA oA sA iA' oA' sA' : Option Addr) (ni ic no oc ns sc ni' ic' no' oc' ns' sc' : Nat) (w : World) (hk : ¬ r = r') :
    Calls Try.prog 45 #[mlv k t r ix (.slice iA ni ic) (.slice oA no oc) (.slice sA ns sc), mlv k t r' ix' (.slice iA' ni' ic') (.slice oA' no' oc') (.slice sA' ns' sc')] w fun e w' => e = .returned (.bool false) ∧ Below w.heap.size w w' := by
  obtain ⟨w1, hw1, F1, hs1, hb1⟩ := mail_box w (.int .u8 k) (.int .u32 t) (.int .u8 r) (.int .i64 ix) (.slice iA ni ic) (.slice oA no oc) (.slice sA ns sc)
  obtain ⟨w2, hw2, F2, hs2, hb2⟩ := mail_box w1 (.int .u8 k) (.int .u32 t) (.int .u8 r') (.int .i64 ix') (.slice iA' ni' ic') (.slice oA' no' oc') (.slice sA' ns' sc')
  have hb12 := fresh hb1 hb2
  have hl1 : w.heap.size < w2.heap.size := Nat.lt_of_lt_of_le hs1 hb2.size
  have hl2 : w1.heap.size < w2.heap.size := hs2
  have G2 := F1.below hb2
  obtain ⟨p0, p1, p2, p3, p4, p5, p6⟩ := F2.cells
  obtain ⟨m0, m1, m2, m3, m4, m5, m6⟩ := G2.cells
  have be : (r == r') = false := beq_eq_false_iff_ne.2 hk
  clear F1 F2 G2
  go_enter Try.func45, Try.ntmps45
  go_wp2_with fail
  refine wp_region_wq (by kernel_rfl) (by kernel_rfl) ?_
  repeat (
    refine WQ.step (fun K hK => ?_)
    go_simp
    first
      | (refine hK _ ?_; clear hK K)
      | (apply Exists.intro
         refine ⟨fun _ => ?_, hK _ ?_⟩
         skip
         clear hK K))
  refine WQ.nil ?_
  intro u
  go_wp2_with fail
  go_ret
  exact ⟨rfl, hb12.trans ((below_past w2 u).mono hb12.size)⟩
set_option maxHeartbeats 3200000 in
set_option maxRecDepth 100000 in
theorem msame_d (k t r ix ix' : Int) (iA oA sA iA' oA' sA' : Option Addr) (ni ic no oc ns sc ni' ic' no' oc' ns' sc' : Nat) (w : World) (hk : ¬ ix = ix') :
    Calls Try.prog 45 #[mlv k t r ix (.slice iA ni ic) (.slice oA no oc) (.slice sA ns sc), mlv k t r ix' (.slice iA' ni' ic') (.slice oA' no' oc') (.slice sA' ns' sc')] w fun e w' => e = .returned (.bool false) ∧ Below w.heap.size w w' := by
  obtain ⟨w1, hw1, F1, hs1, hb1⟩ := mail_box w (.int .u8 k) (.int .u32 t) (.int .u8 r) (.int .i64 ix) (.slice iA ni ic) (.slice oA no oc) (.slice sA ns sc)
  obtain ⟨w2, hw2, F2, hs2, hb2⟩ := mail_box w1 (.int .u8 k) (.int .u32 t) (.int .u8 r) (.int .i64 ix') (.slice iA' ni' ic') (.slice oA' no' oc') (.slice sA' ns' sc')
  have hb12 := fresh hb1 hb2
  have hl1 : w.heap.size < w2.heap.size := Nat.lt_of_lt_of_le hs1 hb2.size
  have hl2 : w1.heap.size < w2.heap.size := hs2
  have G2 := F1.below hb2
  obtain ⟨p0, p1, p2, p3, p4, p5, p6⟩ := F2.cells
  obtain ⟨m0, m1, m2, m3, m4, m5, m6⟩ := G2.cells
  have be : (ix == ix') = false := beq_eq_false_iff_ne.2 hk
  clear F1 F2 G2
  go_enter Try.func45, Try.ntmps45
  go_wp2_with fail
  refine wp_region_wq (by kernel_rfl) (by kernel_rfl) ?_
  repeat (
    refine WQ.step (fun K hK => ?_)
    go_simp
    first
      | (refine hK _ ?_; clear hK K)
      | (apply Exists.intro
         refine ⟨fun _ => ?_, hK _ ?_⟩
         skip
         clear hK K))
  refine WQ.nil ?_
  intro u
  go_wp2_with fail
  go_ret
  exact ⟨rfl, hb12.trans ((below_past w2 u).mono hb12.size)⟩
set_option maxHeartbeats 3200000 in
set_option maxRecDepth 100000 in
theorem msame_e (k t r ix : Int) (iA oA sA iA' oA' sA' : Option Addr) (ni ic no oc ns sc ni' ic' no' oc' ns' sc' : Nat) (w : World) (hP : ∀ W, Below w.heap.size w W → Calls Try.prog 69 #[.slice iA ni ic, .slice iA' ni' ic'] W fun e w' => e = .returned (.bool false) ∧ Below W.heap.size W w') :
    Calls Try.prog 45 #[mlv k t r ix (.slice iA ni ic) (.slice oA no oc) (.slice sA ns sc), mlv k t r ix (.slice iA' ni' ic') (.slice oA' no' oc') (.slice sA' ns' sc')] w fun e w' => e = .returned (.bool false) ∧ Below w.heap.size w w' := by
  obtain ⟨w1, hw1, F1, hs1, hb1⟩ := mail_box w (.int .u8 k) (.int .u32 t) (.int .u8 r) (.int .i64 ix) (.slice iA ni ic) (.slice oA no oc) (.slice sA ns sc)
  obtain ⟨w2, hw2, F2, hs2, hb2⟩ := mail_box w1 (.int .u8 k) (.int .u32 t) (.int .u8 r) (.int .i64 ix) (.slice iA' ni' ic') (.slice oA' no' oc') (.slice sA' ns' sc')
  have hb12 := fresh hb1 hb2
  have hl1 : w.heap.size < w2.heap.size := Nat.lt_of_lt_of_le hs1 hb2.size
  have hl2 : w1.heap.size < w2.heap.size := hs2
  have G2 := F1.below hb2
  obtain ⟨p0, p1, p2, p3, p4, p5, p6⟩ := F2.cells
  obtain ⟨m0, m1, m2, m3, m4, m5, m6⟩ := G2.cells
  have P := hide (fun u => hP (past w2 u) (hb12.trans ((below_past w2 u).mono hb12.size)))
  clear hP
  clear F1 F2 G2
  go_enter Try.func45, Try.ntmps45
  go_wp2_with fail
  refine wp_region_wq (by kernel_rfl) (by kernel_rfl) ?_
  repeat (
    refine WQ.step (fun K hK => ?_)
    go_simp
    first
      | (refine hK _ ?_; clear hK K)
      | (apply Exists.intro
         refine ⟨fun _ => ?_, hK _ ?_⟩
         (first
           | (go_at_call 69; with_reducible exact past_call (unhide P _)))
         clear hK K))
  refine WQ.nil ?_
  intro u
  go_wp2_with fail
  go_ret
  exact ⟨rfl, hb12.trans ((below_past w2 u).mono hb12.size)⟩
set_option maxHeartbeats 3200000 in
set_option maxRecDepth 100000 in
theorem msame_f (k t r ix : Int) (iA oA sA iA' oA' sA' : Option Addr) (ni ic no oc ns sc ni' ic' no' oc' ns' sc' : Nat) (w : World) (hP : ∀ W, Below w.heap.size w W → Calls Try.prog 69 #[.slice iA ni ic, .slice iA' ni' ic'] W fun e w' => e = .returned (.bool true) ∧ Below W.heap.size W w') (hQ : ∀ W, Below w.heap.size w W → Calls Try.prog 70 #[.slice oA no oc, .slice oA' no' oc', .func (.func 71) #[] #[]] W fun e w' => e = .returned (.bool false) ∧ Below W.heap.size W w') :
    Calls Try.prog 45 #[mlv k t r ix (.slice iA ni ic) (.slice oA no oc) (.slice sA ns sc), mlv k t r ix (.slice iA' ni' ic') (.slice oA' no' oc') (.slice sA' ns' sc')] w fun e w' => e = .returned (.bool false) ∧ Below w.heap.size w w' := by
  obtain ⟨w1, hw1, F1, hs1, hb1⟩ := mail_box w (.int .u8 k) (.int .u32 t) (.int .u8 r) (.int .i64 ix) (.slice iA ni ic) (.slice oA no oc) (.slice sA ns sc)
  obtain ⟨w2, hw2, F2, hs2, hb2⟩ := mail_box w1 (.int .u8 k) (.int .u32 t) (.int .u8 r) (.int .i64 ix) (.slice iA' ni' ic') (.slice oA' no' oc') (.slice sA' ns' sc')
  have hb12 := fresh hb1 hb2
  have hl1 : w.heap.size < w2.heap.size := Nat.lt_of_lt_of_le hs1 hb2.size
  have hl2 : w1.heap.size < w2.heap.size := hs2
  have G2 := F1.below hb2
  obtain ⟨p0, p1, p2, p3, p4, p5, p6⟩ := F2.cells
  obtain ⟨m0, m1, m2, m3, m4, m5, m6⟩ := G2.cells
  have P := hide (fun u => hP (past w2 u) (hb12.trans ((below_past w2 u).mono hb12.size)))
  clear hP
  have Q := hide (fun u => hQ (past w2 u) (hb12.trans ((below_past w2 u).mono hb12.size)))
  clear hQ
  clear F1 F2 G2
  go_enter Try.func45, Try.ntmps45
  go_wp2_with fail
  refine wp_region_wq (by kernel_rfl) (by kernel_rfl) ?_
  repeat (
    refine WQ.step (fun K hK => ?_)
    go_simp
    first
      | (refine hK _ ?_; clear hK K)
      | (apply Exists.intro
         refine ⟨fun _ => ?_, hK _ ?_⟩
         (first
           | (go_at_call 69; with_reducible exact past_call (unhide P _))
           | (go_at_call 70; with_reducible exact past_call (unhide Q _)))
         clear hK K))
  refine WQ.nil ?_
  intro u
  go_wp2_with fail
  go_ret
  exact ⟨rfl, hb12.trans ((below_past w2 u).mono hb12.size)⟩
set_option maxHeartbeats 6400000 in
set_option maxRecDepth 100000 in
theorem msame_g (k t r ix : Int) (iA oA sA iA' oA' sA' : Option Addr) (ni ic no oc ns sc ni' ic' no' oc' ns' sc' : Nat) (L L' : List WsL) (b7 : Bool) (w : World) (hP : ∀ W, Below w.heap.size w W → Calls Try.prog 69 #[.slice iA ni ic, .slice iA' ni' ic'] W fun e w' => e = .returned (.bool true) ∧ Below W.heap.size W w') (hQ : ∀ W, Below w.heap.size w W → Calls Try.prog 70 #[.slice oA no oc, .slice oA' no' oc', .func (.func 71) #[] #[]] W fun e w' => e = .returned (.bool true) ∧ Below W.heap.size W w') (hE : ∀ W, Below w.heap.size w W → Calls Try.prog 73 #[.slice sA ns sc] W fun e w' => ∃ A c, e = .returned (.slice A (List.length (α := WsL) L) c) ∧ RE w' w'.heap.size A L ∧ Below W.heap.size W w') (hF : ∀ W, Below w.heap.size w W → Calls Try.prog 73 #[.slice sA' ns' sc'] W fun e w' => ∃ A c, e = .returned (.slice A (List.length (α := WsL) L') c) ∧ RE w' w'.heap.size A L' ∧ Below W.heap.size W w') (h6 : ∀ W (B B' : Option Addr) (d d' : Nat), RE W W.heap.size B L → RE W W.heap.size B' L' → Calls Try.prog 72 #[.slice B (List.length (α := WsL) L) d, .slice B' (List.length (α := WsL) L') d'] W fun e w' => e = .returned (.bool true) ∧ Below W.heap.size W w') (h7 : ∀ W, Below w.heap.size w W → Calls Try.prog 74 #[.slice sA ns sc, .slice sA' ns' sc', .func (.func 75) #[] #[]] W fun e w' => e = .returned (.bool b7) ∧ Below W.heap.size W w') :
    Calls Try.prog 45 #[mlv k t r ix (.slice iA ni ic) (.slice oA no oc) (.slice sA ns sc), mlv k t r ix (.slice iA' ni' ic') (.slice oA' no' oc') (.slice sA' ns' sc')] w fun e w' => e = .returned (.bool b7) ∧ Below w.heap.size w w' := by
  obtain ⟨w1, hw1, F1, hs1, hb1⟩ := mail_box w (.int .u8 k) (.int .u32 t) (.int .u8 r) (.int .i64 ix) (.slice iA ni ic) (.slice oA no oc) (.slice sA ns sc)
  obtain ⟨w2, hw2, F2, hs2, hb2⟩ := mail_box w1 (.int .u8 k) (.int .u32 t) (.int .u8 r) (.int .i64 ix) (.slice iA' ni' ic') (.slice oA' no' oc') (.slice sA' ns' sc')
  have hb12 := fresh hb1 hb2
  have hl1 : w.heap.size < w2.heap.size := Nat.lt_of_lt_of_le hs1 hb2.size
  have hl2 : w1.heap.size < w2.heap.size := hs2
  have G2 := F1.below hb2
  obtain ⟨p0, p1, p2, p3, p4, p5, p6⟩ := F2.cells
  obtain ⟨m0, m1, m2, m3, m4, m5, m6⟩ := G2.cells
  replace hP := hide hP
  replace hQ := hide hQ
  replace hE := hide hE
  replace hF := hide hF
  replace h6 := hide h6
  replace h7 := hide h7
  clear F1 F2 G2
  go_enter Try.func45, Try.ntmps45
  go_wp2_with fail
  clear hw1 hw2
  refine wp_region_claims ([.val (.pointer (some ⟨w.heap.size, 0, none⟩)), .val (.int .u8 k), .val (.pointer (some ⟨w1.heap.size, 0, none⟩)), .val (.int .u8 k), .val (.bool true), .val (.bool true), .val (.pointer (some ⟨w.heap.size, 1, none⟩)), .val (.agg #[.int .u32 t, .int .u8 r]), .val (.pointer (some ⟨w1.heap.size, 1, none⟩)), .val (.agg #[.int .u32 t, .int .u8 r]), .val (.bool true), .val (.bool true), .val (.bool true), .val (.pointer (some ⟨w.heap.size, 3, none⟩)), .val (.int .i64 ix), .val (.pointer (some ⟨w1.heap.size, 3, none⟩)), .val (.int .i64 ix), .val (.bool true), .val (.bool true), .val (.bool true), .val (.pointer (some ⟨w.heap.size, 4, none⟩)), .val (.slice iA ni ic), .val (.pointer (some ⟨w1.heap.size, 4, none⟩)), .val (.slice iA' ni' ic'), .val (.bool true), .val (.bool true), .val (.bool true), .val (.pointer (some ⟨w.heap.size, 5, none⟩)), .val (.slice oA no oc), .val (.pointer (some ⟨w1.heap.size, 5, none⟩)), .val (.slice oA' no' oc'), .val (.bool true), .val (.bool true), .val (.bool true), .val (.pointer (some ⟨w.heap.size, 6, none⟩)), .val (.slice sA ns sc), .ent L, .val (.pointer (some ⟨w1.heap.size, 6, none⟩)), .val (.slice sA' ns' sc'), .ent L', .val (.bool true), .val (.bool true), .val (.bool true), .val (.pointer (some ⟨w.heap.size, 6, none⟩)), .val (.slice sA ns sc), .val (.pointer (some ⟨w1.heap.size, 6, none⟩)), .val (.slice sA' ns' sc'), .val (.bool b7), .val (.bool b7), .val (.bool b7)].map Km.say) (by kernel_rfl) 54 (by rfl) (by kernel_rfl) (kms_mono _) ?_ ?_
  · refine ⟨?_, ?_, ?_, ?_, ?_, ?_, ?_, ?_, ?_, ?_, ?_, ?_, ?_, ?_, ?_, ?_, ?_, ?_, ?_, ?_, ?_, ?_, ?_, ?_, ?_, ?_, ?_, ?_, ?_, ?_, ?_, ?_, ?_, ?_, ?_, ?_, ?_, ?_, ?_, ?_, ?_, ?_, ?_, ?_, ?_, ?_, ?_, ?_, ?_, ?_, trivial⟩
    · -- 0: slot 5
      intro ρ w' hb hf hd
      have h2 := hf 2 (by kernel_rfl)
      change ρ 2 = (.pointer (some ⟨w.heap.size, 0, none⟩)) at h2
      clear hf hd
      refine .inl ⟨rfl, opOK_step fun R hR => ?_⟩
      unfold opOK
      go_simp
      exact hR _ _ ⟨Below.refl _ _, rfl⟩
    · -- 1: slot 6
      intro ρ w' hb hf hd
      have h5 : (Km.val (.pointer (some ⟨w.heap.size, 0, none⟩))).say (ρ 5) w' := hd 0 (by kernel_rfl)
      change ρ 5 = (.pointer (some ⟨w.heap.size, 0, none⟩)) at h5
      clear hf hd
      refine .inl ⟨rfl, opOK_step fun R hR => ?_⟩
      have q0 := keep_cell hb hl1 m0
      unfold opOK
      go_simp
      exact hR _ _ ⟨Below.refl _ _, rfl⟩
    · -- 2: slot 7
      intro ρ w' hb hf hd
      have h3 := hf 3 (by kernel_rfl)
      change ρ 3 = (.pointer (some ⟨w1.heap.size, 0, none⟩)) at h3
      clear hf hd
      refine .inl ⟨rfl, opOK_step fun R hR => ?_⟩
      unfold opOK
      go_simp
      exact hR _ _ ⟨Below.refl _ _, rfl⟩
    · -- 3: slot 8
      intro ρ w' hb hf hd
      have h7 : (Km.val (.pointer (some ⟨w1.heap.size, 0, none⟩))).say (ρ 7) w' := hd 2 (by kernel_rfl)
      change ρ 7 = (.pointer (some ⟨w1.heap.size, 0, none⟩)) at h7
      clear hf hd
      refine .inl ⟨rfl, opOK_step fun R hR => ?_⟩
      have q0 := keep_cell hb hl2 p0
      unfold opOK
      go_simp
      exact hR _ _ ⟨Below.refl _ _, rfl⟩
    · -- 4: slot 9
      intro ρ w' hb hf hd
      have h6 : (Km.val (.int .u8 k)).say (ρ 6) w' := hd 1 (by kernel_rfl)
      have h8 : (Km.val (.int .u8 k)).say (ρ 8) w' := hd 3 (by kernel_rfl)
      change ρ 6 = (.int .u8 k) at h6
      change ρ 8 = (.int .u8 k) at h8
      clear hf hd
      refine .inl ⟨rfl, opOK_step fun R hR => ?_⟩
      unfold opOK
      go_simp
      exact hR _ _ ⟨Below.refl _ _, rfl⟩
    · -- 5: slot 10
      intro ρ w' hb hf hd
      have h9 : (Km.val (.bool true)).say (ρ 9) w' := hd 4 (by kernel_rfl)
      change ρ 9 = (.bool true) at h9
      clear hf hd
      refine .inl ⟨rfl, opOK_step fun R hR => ?_⟩
      unfold opOK
      go_simp
      exact hR _ _ ⟨Below.refl _ _, rfl⟩
    · -- 6: slot 11
      intro ρ w' hb hf hd
      have h2 := hf 2 (by kernel_rfl)
      have h10 : (Km.val (.bool true)).say (ρ 10) w' := hd 5 (by kernel_rfl)
      change ρ 2 = (.pointer (some ⟨w.heap.size, 0, none⟩)) at h2
      change ρ 10 = (.bool true) at h10
      clear hf hd
      refine .inl ⟨ask_of rfl rfl h10, opOK_step fun R hR => ?_⟩
      unfold opOK
      go_simp
      exact hR _ _ ⟨Below.refl _ _, rfl⟩
    · -- 7: slot 12
      intro ρ w' hb hf hd
      have h10 : (Km.val (.bool true)).say (ρ 10) w' := hd 5 (by kernel_rfl)
      have h11 : (Km.val (.pointer (some ⟨w.heap.size, 1, none⟩))).say (ρ 11) w' := hd 6 (by kernel_rfl)
      change ρ 10 = (.bool true) at h10
      change ρ 11 = (.pointer (some ⟨w.heap.size, 1, none⟩)) at h11
      clear hf hd
      refine .inl ⟨ask_of rfl rfl h10, opOK_step fun R hR => ?_⟩
      have q1 := keep_cell hb hl1 m1
      have q2 := keep_cell hb hl1 m2
      unfold opOK
      go_simp
      exact hR _ _ ⟨Below.refl _ _, rfl⟩
    · -- 8: slot 13
      intro ρ w' hb hf hd
      have h3 := hf 3 (by kernel_rfl)
      have h10 : (Km.val (.bool true)).say (ρ 10) w' := hd 5 (by kernel_rfl)
      change ρ 3 = (.pointer (some ⟨w1.heap.size, 0, none⟩)) at h3
      change ρ 10 = (.bool true) at h10
      clear hf hd
      refine .inl ⟨ask_of rfl rfl h10, opOK_step fun R hR => ?_⟩
      unfold opOK
      go_simp
      exact hR _ _ ⟨Below.refl _ _, rfl⟩
    · -- 9: slot 14
      intro ρ w' hb hf hd
      have h10 : (Km.val (.bool true)).say (ρ 10) w' := hd 5 (by kernel_rfl)
      have h13 : (Km.val (.pointer (some ⟨w1.heap.size, 1, none⟩))).say (ρ 13) w' := hd 8 (by kernel_rfl)
      change ρ 10 = (.bool true) at h10
      change ρ 13 = (.pointer (some ⟨w1.heap.size, 1, none⟩)) at h13
      clear hf hd
      refine .inl ⟨ask_of rfl rfl h10, opOK_step fun R hR => ?_⟩
      have q1 := keep_cell hb hl2 p1
      have q2 := keep_cell hb hl2 p2
      unfold opOK
      go_simp
      exact hR _ _ ⟨Below.refl _ _, rfl⟩
    · -- 10: slot 15
      intro ρ w' hb hf hd
      have h10 : (Km.val (.bool true)).say (ρ 10) w' := hd 5 (by kernel_rfl)
      have h12 : (Km.val (.agg #[.int .u32 t, .int .u8 r])).say (ρ 12) w' := hd 7 (by kernel_rfl)
      have h14 : (Km.val (.agg #[.int .u32 t, .int .u8 r])).say (ρ 14) w' := hd 9 (by kernel_rfl)
      change ρ 10 = (.bool true) at h10
      change ρ 12 = (.agg #[.int .u32 t, .int .u8 r]) at h12
      change ρ 14 = (.agg #[.int .u32 t, .int .u8 r]) at h14
      clear hf hd
      refine .inl ⟨ask_of rfl rfl h10, opOK_step fun R hR => ?_⟩
      unfold opOK
      go_simp
      exact hR _ _ ⟨Below.refl _ _, rfl⟩
    · -- 11: slot 16
      intro ρ w' hb hf hd
      have h10 : (Km.val (.bool true)).say (ρ 10) w' := hd 5 (by kernel_rfl)
      have h15 : (Km.val (.bool true)).say (ρ 15) w' := hd 10 (by kernel_rfl)
      change ρ 10 = (.bool true) at h10
      change ρ 15 = (.bool true) at h15
      clear hf hd
      refine .inl ⟨rfl, opOK_step fun R hR => ?_⟩
      unfold opOK
      go_simp
      exact hR _ _ ⟨Below.refl _ _, rfl⟩
    · -- 12: slot 17
      intro ρ w' hb hf hd
      have h16 : (Km.val (.bool true)).say (ρ 16) w' := hd 11 (by kernel_rfl)
      change ρ 16 = (.bool true) at h16
      clear hf hd
      refine .inl ⟨rfl, opOK_step fun R hR => ?_⟩
      unfold opOK
      go_simp
      exact hR _ _ ⟨Below.refl _ _, rfl⟩
    · -- 13: slot 18
      intro ρ w' hb hf hd
      have h2 := hf 2 (by kernel_rfl)
      have h17 : (Km.val (.bool true)).say (ρ 17) w' := hd 12 (by kernel_rfl)
      change ρ 2 = (.pointer (some ⟨w.heap.size, 0, none⟩)) at h2
      change ρ 17 = (.bool true) at h17
      clear hf hd
      refine .inl ⟨ask_of rfl rfl h17, opOK_step fun R hR => ?_⟩
      unfold opOK
      go_simp
      exact hR _ _ ⟨Below.refl _ _, rfl⟩
    · -- 14: slot 19
      intro ρ w' hb hf hd
      have h17 : (Km.val (.bool true)).say (ρ 17) w' := hd 12 (by kernel_rfl)
      have h18 : (Km.val (.pointer (some ⟨w.heap.size, 3, none⟩))).say (ρ 18) w' := hd 13 (by kernel_rfl)
      change ρ 17 = (.bool true) at h17
      change ρ 18 = (.pointer (some ⟨w.heap.size, 3, none⟩)) at h18
      clear hf hd
      refine .inl ⟨ask_of rfl rfl h17, opOK_step fun R hR => ?_⟩
      have q3 := keep_cell hb hl1 m3
      unfold opOK
      go_simp
      exact hR _ _ ⟨Below.refl _ _, rfl⟩
    · -- 15: slot 20
      intro ρ w' hb hf hd
      have h3 := hf 3 (by kernel_rfl)
      have h17 : (Km.val (.bool true)).say (ρ 17) w' := hd 12 (by kernel_rfl)
      change ρ 3 = (.pointer (some ⟨w1.heap.size, 0, none⟩)) at h3
      change ρ 17 = (.bool true) at h17
      clear hf hd
      refine .inl ⟨ask_of rfl rfl h17, opOK_step fun R hR => ?_⟩
      unfold opOK
      go_simp
      exact hR _ _ ⟨Below.refl _ _, rfl⟩
    · -- 16: slot 21
      intro ρ w' hb hf hd
      have h17 : (Km.val (.bool true)).say (ρ 17) w' := hd 12 (by kernel_rfl)
      have h20 : (Km.val (.pointer (some ⟨w1.heap.size, 3, none⟩))).say (ρ 20) w' := hd 15 (by kernel_rfl)
      change ρ 17 = (.bool true) at h17
      change ρ 20 = (.pointer (some ⟨w1.heap.size, 3, none⟩)) at h20
      clear hf hd
      refine .inl ⟨ask_of rfl rfl h17, opOK_step fun R hR => ?_⟩
      have q3 := keep_cell hb hl2 p3
      unfold opOK
      go_simp
      exact hR _ _ ⟨Below.refl _ _, rfl⟩
    · -- 17: slot 22
      intro ρ w' hb hf hd
      have h17 : (Km.val (.bool true)).say (ρ 17) w' := hd 12 (by kernel_rfl)
      have h19 : (Km.val (.int .i64 ix)).say (ρ 19) w' := hd 14 (by kernel_rfl)
      have h21 : (Km.val (.int .i64 ix)).say (ρ 21) w' := hd 16 (by kernel_rfl)
      change ρ 17 = (.bool true) at h17
      change ρ 19 = (.int .i64 ix) at h19
      change ρ 21 = (.int .i64 ix) at h21
      clear hf hd
      refine .inl ⟨ask_of rfl rfl h17, opOK_step fun R hR => ?_⟩
      unfold opOK
      go_simp
      exact hR _ _ ⟨Below.refl _ _, rfl⟩
    · -- 18: slot 23
      intro ρ w' hb hf hd
      have h17 : (Km.val (.bool true)).say (ρ 17) w' := hd 12 (by kernel_rfl)
      have h22 : (Km.val (.bool true)).say (ρ 22) w' := hd 17 (by kernel_rfl)
      change ρ 17 = (.bool true) at h17
      change ρ 22 = (.bool true) at h22
      clear hf hd
      refine .inl ⟨rfl, opOK_step fun R hR => ?_⟩
      unfold opOK
      go_simp
      exact hR _ _ ⟨Below.refl _ _, rfl⟩
    · -- 19: slot 24
      intro ρ w' hb hf hd
      have h23 : (Km.val (.bool true)).say (ρ 23) w' := hd 18 (by kernel_rfl)
      change ρ 23 = (.bool true) at h23
      clear hf hd
      refine .inl ⟨rfl, opOK_step fun R hR => ?_⟩
      unfold opOK
      go_simp
      exact hR _ _ ⟨Below.refl _ _, rfl⟩
    · -- 20: slot 25
      intro ρ w' hb hf hd
      have h2 := hf 2 (by kernel_rfl)
      have h24 : (Km.val (.bool true)).say (ρ 24) w' := hd 19 (by kernel_rfl)
      change ρ 2 = (.pointer (some ⟨w.heap.size, 0, none⟩)) at h2
      change ρ 24 = (.bool true) at h24
      clear hf hd
      refine .inl ⟨ask_of rfl rfl h24, opOK_step fun R hR => ?_⟩
      unfold opOK
      go_simp
      exact hR _ _ ⟨Below.refl _ _, rfl⟩
    · -- 21: slot 26
      intro ρ w' hb hf hd
      have h24 : (Km.val (.bool true)).say (ρ 24) w' := hd 19 (by kernel_rfl)
      have h25 : (Km.val (.pointer (some ⟨w.heap.size, 4, none⟩))).say (ρ 25) w' := hd 20 (by kernel_rfl)
      change ρ 24 = (.bool true) at h24
      change ρ 25 = (.pointer (some ⟨w.heap.size, 4, none⟩)) at h25
      clear hf hd
      refine .inl ⟨ask_of rfl rfl h24, opOK_step fun R hR => ?_⟩
      have q4 := keep_cell hb hl1 m4
      unfold opOK
      go_simp
      exact hR _ _ ⟨Below.refl _ _, rfl⟩
    · -- 22: slot 27
      intro ρ w' hb hf hd
      have h3 := hf 3 (by kernel_rfl)
      have h24 : (Km.val (.bool true)).say (ρ 24) w' := hd 19 (by kernel_rfl)
      change ρ 3 = (.pointer (some ⟨w1.heap.size, 0, none⟩)) at h3
      change ρ 24 = (.bool true) at h24
      clear hf hd
      refine .inl ⟨ask_of rfl rfl h24, opOK_step fun R hR => ?_⟩
      unfold opOK
      go_simp
      exact hR _ _ ⟨Below.refl _ _, rfl⟩
    · -- 23: slot 28
      intro ρ w' hb hf hd
      have h24 : (Km.val (.bool true)).say (ρ 24) w' := hd 19 (by kernel_rfl)
      have h27 : (Km.val (.pointer (some ⟨w1.heap.size, 4, none⟩))).say (ρ 27) w' := hd 22 (by kernel_rfl)
      change ρ 24 = (.bool true) at h24
      change ρ 27 = (.pointer (some ⟨w1.heap.size, 4, none⟩)) at h27
      clear hf hd
      refine .inl ⟨ask_of rfl rfl h24, opOK_step fun R hR => ?_⟩
      have q4 := keep_cell hb hl2 p4
      unfold opOK
      go_simp
      exact hR _ _ ⟨Below.refl _ _, rfl⟩
    · -- 24: slot 29
      intro ρ w' hb hf hd
      have h24 : (Km.val (.bool true)).say (ρ 24) w' := hd 19 (by kernel_rfl)
      have h26 : (Km.val (.slice iA ni ic)).say (ρ 26) w' := hd 21 (by kernel_rfl)
      have h28 : (Km.val (.slice iA' ni' ic')).say (ρ 28) w' := hd 23 (by kernel_rfl)
      change ρ 24 = (.bool true) at h24
      change ρ 26 = (.slice iA ni ic) at h26
      change ρ 28 = (.slice iA' ni' ic') at h28
      clear hf hd
      refine .inl ⟨ask_of rfl rfl h24, opOK_step fun R hR => ?_⟩
      unfold opOK
      go_simp
      exact (hP.out w' (hb12.trans (hb.mono hb12.size))).mono fun e w3 ⟨he, hb3⟩ => ⟨_, he, hR _ _ ⟨hb3, rfl⟩⟩
    · -- 25: slot 30
      intro ρ w' hb hf hd
      have h24 : (Km.val (.bool true)).say (ρ 24) w' := hd 19 (by kernel_rfl)
      have h29 : (Km.val (.bool true)).say (ρ 29) w' := hd 24 (by kernel_rfl)
      change ρ 24 = (.bool true) at h24
      change ρ 29 = (.bool true) at h29
      clear hf hd
      refine .inl ⟨rfl, opOK_step fun R hR => ?_⟩
      unfold opOK
      go_simp
      exact hR _ _ ⟨Below.refl _ _, rfl⟩
    · -- 26: slot 31
      intro ρ w' hb hf hd
      have h30 : (Km.val (.bool true)).say (ρ 30) w' := hd 25 (by kernel_rfl)
      change ρ 30 = (.bool true) at h30
      clear hf hd
      refine .inl ⟨rfl, opOK_step fun R hR => ?_⟩
      unfold opOK
      go_simp
      exact hR _ _ ⟨Below.refl _ _, rfl⟩
    · -- 27: slot 32
      intro ρ w' hb hf hd
      have h2 := hf 2 (by kernel_rfl)
      have h31 : (Km.val (.bool true)).say (ρ 31) w' := hd 26 (by kernel_rfl)
      change ρ 2 = (.pointer (some ⟨w.heap.size, 0, none⟩)) at h2
      change ρ 31 = (.bool true) at h31
      clear hf hd
      refine .inl ⟨ask_of rfl rfl h31, opOK_step fun R hR => ?_⟩
      unfold opOK
      go_simp
      exact hR _ _ ⟨Below.refl _ _, rfl⟩
    · -- 28: slot 33
      intro ρ w' hb hf hd
      have h31 : (Km.val (.bool true)).say (ρ 31) w' := hd 26 (by kernel_rfl)
      have h32 : (Km.val (.pointer (some ⟨w.heap.size, 5, none⟩))).say (ρ 32) w' := hd 27 (by kernel_rfl)
      change ρ 31 = (.bool true) at h31
      change ρ 32 = (.pointer (some ⟨w.heap.size, 5, none⟩)) at h32
      clear hf hd
      refine .inl ⟨ask_of rfl rfl h31, opOK_step fun R hR => ?_⟩
      have q5 := keep_cell hb hl1 m5
      unfold opOK
      go_simp
      exact hR _ _ ⟨Below.refl _ _, rfl⟩
    · -- 29: slot 34
      intro ρ w' hb hf hd
      have h3 := hf 3 (by kernel_rfl)
      have h31 : (Km.val (.bool true)).say (ρ 31) w' := hd 26 (by kernel_rfl)
      change ρ 3 = (.pointer (some ⟨w1.heap.size, 0, none⟩)) at h3
      change ρ 31 = (.bool true) at h31
      clear hf hd
      refine .inl ⟨ask_of rfl rfl h31, opOK_step fun R hR => ?_⟩
      unfold opOK
      go_simp
      exact hR _ _ ⟨Below.refl _ _, rfl⟩
    · -- 30: slot 35
      intro ρ w' hb hf hd
      have h31 : (Km.val (.bool true)).say (ρ 31) w' := hd 26 (by kernel_rfl)
      have h34 : (Km.val (.pointer (some ⟨w1.heap.size, 5, none⟩))).say (ρ 34) w' := hd 29 (by kernel_rfl)
      change ρ 31 = (.bool true) at h31
      change ρ 34 = (.pointer (some ⟨w1.heap.size, 5, none⟩)) at h34
      clear hf hd
      refine .inl ⟨ask_of rfl rfl h31, opOK_step fun R hR => ?_⟩
      have q5 := keep_cell hb hl2 p5
      unfold opOK
      go_simp
      exact hR _ _ ⟨Below.refl _ _, rfl⟩
    · -- 31: slot 36
      intro ρ w' hb hf hd
      have h31 : (Km.val (.bool true)).say (ρ 31) w' := hd 26 (by kernel_rfl)
      have h33 : (Km.val (.slice oA no oc)).say (ρ 33) w' := hd 28 (by kernel_rfl)
      have h35 : (Km.val (.slice oA' no' oc')).say (ρ 35) w' := hd 30 (by kernel_rfl)
      change ρ 31 = (.bool true) at h31
      change ρ 33 = (.slice oA no oc) at h33
      change ρ 35 = (.slice oA' no' oc') at h35
      clear hf hd
      refine .inl ⟨ask_of rfl rfl h31, opOK_step fun R hR => ?_⟩
      unfold opOK
      go_simp
      exact (hQ.out w' (hb12.trans (hb.mono hb12.size))).mono fun e w3 ⟨he, hb3⟩ => ⟨_, he, hR _ _ ⟨hb3, rfl⟩⟩
    · -- 32: slot 37
      intro ρ w' hb hf hd
      have h31 : (Km.val (.bool true)).say (ρ 31) w' := hd 26 (by kernel_rfl)
      have h36 : (Km.val (.bool true)).say (ρ 36) w' := hd 31 (by kernel_rfl)
      change ρ 31 = (.bool true) at h31
      change ρ 36 = (.bool true) at h36
      clear hf hd
      refine .inl ⟨rfl, opOK_step fun R hR => ?_⟩
      unfold opOK
      go_simp
      exact hR _ _ ⟨Below.refl _ _, rfl⟩
    · -- 33: slot 38
      intro ρ w' hb hf hd
      have h37 : (Km.val (.bool true)).say (ρ 37) w' := hd 32 (by kernel_rfl)
      change ρ 37 = (.bool true) at h37
      clear hf hd
      refine .inl ⟨rfl, opOK_step fun R hR => ?_⟩
      unfold opOK
      go_simp
      exact hR _ _ ⟨Below.refl _ _, rfl⟩
    · -- 34: slot 39
      intro ρ w' hb hf hd
      have h2 := hf 2 (by kernel_rfl)
      have h38 : (Km.val (.bool true)).say (ρ 38) w' := hd 33 (by kernel_rfl)
      change ρ 2 = (.pointer (some ⟨w.heap.size, 0, none⟩)) at h2
      change ρ 38 = (.bool true) at h38
      clear hf hd
      refine .inl ⟨ask_of rfl rfl h38, opOK_step fun R hR => ?_⟩
      unfold opOK
      go_simp
      exact hR _ _ ⟨Below.refl _ _, rfl⟩
    · -- 35: slot 40
      intro ρ w' hb hf hd
      have h38 : (Km.val (.bool true)).say (ρ 38) w' := hd 33 (by kernel_rfl)
      have h39 : (Km.val (.pointer (some ⟨w.heap.size, 6, none⟩))).say (ρ 39) w' := hd 34 (by kernel_rfl)
      change ρ 38 = (.bool true) at h38
      change ρ 39 = (.pointer (some ⟨w.heap.size, 6, none⟩)) at h39
      clear hf hd
      refine .inl ⟨ask_of rfl rfl h38, opOK_step fun R hR => ?_⟩
      have q6 := keep_cell hb hl1 m6
      unfold opOK
      go_simp
      exact hR _ _ ⟨Below.refl _ _, rfl⟩
    · -- 36: slot 41
      intro ρ w' hb hf hd
      have h38 : (Km.val (.bool true)).say (ρ 38) w' := hd 33 (by kernel_rfl)
      have h40 : (Km.val (.slice sA ns sc)).say (ρ 40) w' := hd 35 (by kernel_rfl)
      change ρ 38 = (.bool true) at h38
      change ρ 40 = (.slice sA ns sc) at h40
      clear hf hd
      refine .inl ⟨ask_of rfl rfl h38, opOK_step fun R hR => ?_⟩
      unfold opOK
      go_simp
      exact (hE.out w' (hb12.trans (hb.mono hb12.size))).mono fun e w3 ⟨A9, c9, he, hr, hb3⟩ => ⟨_, he, hR _ _ ⟨hb3, A9, c9, rfl, hr⟩⟩
    · -- 37: slot 42
      intro ρ w' hb hf hd
      have h3 := hf 3 (by kernel_rfl)
      have h38 : (Km.val (.bool true)).say (ρ 38) w' := hd 33 (by kernel_rfl)
      change ρ 3 = (.pointer (some ⟨w1.heap.size, 0, none⟩)) at h3
      change ρ 38 = (.bool true) at h38
      clear hf hd
      refine .inl ⟨ask_of rfl rfl h38, opOK_step fun R hR => ?_⟩
      unfold opOK
      go_simp
      exact hR _ _ ⟨Below.refl _ _, rfl⟩
    · -- 38: slot 43
      intro ρ w' hb hf hd
      have h38 : (Km.val (.bool true)).say (ρ 38) w' := hd 33 (by kernel_rfl)
      have h42 : (Km.val (.pointer (some ⟨w1.heap.size, 6, none⟩))).say (ρ 42) w' := hd 37 (by kernel_rfl)
      change ρ 38 = (.bool true) at h38
      change ρ 42 = (.pointer (some ⟨w1.heap.size, 6, none⟩)) at h42
      clear hf hd
      refine .inl ⟨ask_of rfl rfl h38, opOK_step fun R hR => ?_⟩
      have q6 := keep_cell hb hl2 p6
      unfold opOK
      go_simp
      exact hR _ _ ⟨Below.refl _ _, rfl⟩
    · -- 39: slot 44
      intro ρ w' hb hf hd
      have h38 : (Km.val (.bool true)).say (ρ 38) w' := hd 33 (by kernel_rfl)
      have h43 : (Km.val (.slice sA' ns' sc')).say (ρ 43) w' := hd 38 (by kernel_rfl)
      change ρ 38 = (.bool true) at h38
      change ρ 43 = (.slice sA' ns' sc') at h43
      clear hf hd
      refine .inl ⟨ask_of rfl rfl h38, opOK_step fun R hR => ?_⟩
      unfold opOK
      go_simp
      exact (hF.out w' (hb12.trans (hb.mono hb12.size))).mono fun e w3 ⟨A9, c9, he, hr, hb3⟩ => ⟨_, he, hR _ _ ⟨hb3, A9, c9, rfl, hr⟩⟩
    · -- 40: slot 45
      intro ρ w' hb hf hd
      have h38 : (Km.val (.bool true)).say (ρ 38) w' := hd 33 (by kernel_rfl)
      have h41 : (Km.ent L).say (ρ 41) w' := hd 36 (by kernel_rfl)
      have h44 : (Km.ent L').say (ρ 44) w' := hd 39 (by kernel_rfl)
      change ρ 38 = (.bool true) at h38
      clear hf hd
      refine .inl ⟨ask_of rfl rfl h38, opOK_step fun R hR => ?_⟩
      obtain ⟨A8, c8, k41, r8⟩ := h41
      obtain ⟨A9, c9, k44, r9⟩ := h44
      unfold opOK
      go_simp
      exact (h6.out w' A8 A9 c8 c9 r8 r9).mono fun e w3 ⟨he, hb3⟩ => ⟨_, he, hR _ _ ⟨hb3, rfl⟩⟩
    · -- 41: slot 46
      intro ρ w' hb hf hd
      have h38 : (Km.val (.bool true)).say (ρ 38) w' := hd 33 (by kernel_rfl)
      have h45 : (Km.val (.bool true)).say (ρ 45) w' := hd 40 (by kernel_rfl)
      change ρ 38 = (.bool true) at h38
      change ρ 45 = (.bool true) at h45
      clear hf hd
      refine .inl ⟨rfl, opOK_step fun R hR => ?_⟩
      unfold opOK
      go_simp
      exact hR _ _ ⟨Below.refl _ _, rfl⟩
    · -- 42: slot 47
      intro ρ w' hb hf hd
      have h46 : (Km.val (.bool true)).say (ρ 46) w' := hd 41 (by kernel_rfl)
      change ρ 46 = (.bool true) at h46
      clear hf hd
      refine .inl ⟨rfl, opOK_step fun R hR => ?_⟩
      unfold opOK
      go_simp
      exact hR _ _ ⟨Below.refl _ _, rfl⟩
    · -- 43: slot 48
      intro ρ w' hb hf hd
      have h2 := hf 2 (by kernel_rfl)
      have h47 : (Km.val (.bool true)).say (ρ 47) w' := hd 42 (by kernel_rfl)
      change ρ 2 = (.pointer (some ⟨w.heap.size, 0, none⟩)) at h2
      change ρ 47 = (.bool true) at h47
      clear hf hd
      refine .inl ⟨ask_of rfl rfl h47, opOK_step fun R hR => ?_⟩
      unfold opOK
      go_simp
      exact hR _ _ ⟨Below.refl _ _, rfl⟩
    · -- 44: slot 49
      intro ρ w' hb hf hd
      have h47 : (Km.val (.bool true)).say (ρ 47) w' := hd 42 (by kernel_rfl)
      have h48 : (Km.val (.pointer (some ⟨w.heap.size, 6, none⟩))).say (ρ 48) w' := hd 43 (by kernel_rfl)
      change ρ 47 = (.bool true) at h47
      change ρ 48 = (.pointer (some ⟨w.heap.size, 6, none⟩)) at h48
      clear hf hd
      refine .inl ⟨ask_of rfl rfl h47, opOK_step fun R hR => ?_⟩
      have q6 := keep_cell hb hl1 m6
      unfold opOK
      go_simp
      exact hR _ _ ⟨Below.refl _ _, rfl⟩
    · -- 45: slot 50
      intro ρ w' hb hf hd
      have h3 := hf 3 (by kernel_rfl)
      have h47 : (Km.val (.bool true)).say (ρ 47) w' := hd 42 (by kernel_rfl)
      change ρ 3 = (.pointer (some ⟨w1.heap.size, 0, none⟩)) at h3
      change ρ 47 = (.bool true) at h47
      clear hf hd
      refine .inl ⟨ask_of rfl rfl h47, opOK_step fun R hR => ?_⟩
      unfold opOK
      go_simp
      exact hR _ _ ⟨Below.refl _ _, rfl⟩
    · -- 46: slot 51
      intro ρ w' hb hf hd
      have h47 : (Km.val (.bool true)).say (ρ 47) w' := hd 42 (by kernel_rfl)
      have h50 : (Km.val (.pointer (some ⟨w1.heap.size, 6, none⟩))).say (ρ 50) w' := hd 45 (by kernel_rfl)
      change ρ 47 = (.bool true) at h47
      change ρ 50 = (.pointer (some ⟨w1.heap.size, 6, none⟩)) at h50
      clear hf hd
      refine .inl ⟨ask_of rfl rfl h47, opOK_step fun R hR => ?_⟩
      have q6 := keep_cell hb hl2 p6
      unfold opOK
      go_simp
      exact hR _ _ ⟨Below.refl _ _, rfl⟩
    · -- 47: slot 52
      intro ρ w' hb hf hd
      have h47 : (Km.val (.bool true)).say (ρ 47) w' := hd 42 (by kernel_rfl)
      have h49 : (Km.val (.slice sA ns sc)).say (ρ 49) w' := hd 44 (by kernel_rfl)
      have h51 : (Km.val (.slice sA' ns' sc')).say (ρ 51) w' := hd 46 (by kernel_rfl)
      change ρ 47 = (.bool true) at h47
      change ρ 49 = (.slice sA ns sc) at h49
      change ρ 51 = (.slice sA' ns' sc') at h51
      clear hf hd
      refine .inl ⟨ask_of rfl rfl h47, opOK_step fun R hR => ?_⟩
      unfold opOK
      go_simp
      exact (h7.out w' (hb12.trans (hb.mono hb12.size))).mono fun e w3 ⟨he, hb3⟩ => ⟨_, he, hR _ _ ⟨hb3, rfl⟩⟩
    · -- 48: slot 53
      intro ρ w' hb hf hd
      have h47 : (Km.val (.bool true)).say (ρ 47) w' := hd 42 (by kernel_rfl)
      have h52 : (Km.val (.bool b7)).say (ρ 52) w' := hd 47 (by kernel_rfl)
      change ρ 47 = (.bool true) at h47
      change ρ 52 = (.bool b7) at h52
      clear hf hd
      refine .inl ⟨rfl, opOK_step fun R hR => ?_⟩
      unfold opOK
      go_simp
      exact hR _ _ ⟨Below.refl _ _, rfl⟩
    · -- 49: slot 4
      intro ρ w' hb hf hd
      have h53 : (Km.val (.bool b7)).say (ρ 53) w' := hd 48 (by kernel_rfl)
      change ρ 53 = (.bool b7) at h53
      clear hf hd
      refine .inl ⟨rfl, opOK_step fun R hR => ?_⟩
      unfold opOK
      go_simp
      exact hR _ _ ⟨Below.refl _ _, rfl⟩
  · intro a' w5 hb5 hdf hsz hf hd
    have h4 : slotsOf a' 4 = .bool b7 := hd 49 (by decide)
    obtain ⟨T, D⟩ := a'
    have hD : D = [] := hdf
    subst hD
    obtain ⟨f, hT, hff⟩ : ∃ f : Nat → Value, T = ((List.range 54).map f).toArray ∧ slotsOf ⟨T, []⟩ = f := ⟨_, arr_list T 54 hsz, rfl⟩
    rw [hff] at h4
    clear hff hsz hf hd hdf
    have hT' : T = #[f 0, f 1, f 2, f 3, f 4, f 5, f 6, f 7, f 8, f 9, f 10, f 11, f 12, f 13, f 14, f 15, f 16, f 17, f 18, f 19, f 20, f 21, f 22, f 23, f 24, f 25, f 26, f 27, f 28, f 29, f 30, f 31, f 32, f 33, f 34, f 35, f 36, f 37, f 38, f 39, f 40, f 41, f 42, f 43, f 44, f 45, f 46, f 47, f 48, f 49, f 50, f 51, f 52, f 53] := hT.trans (by kernel_rfl)
    clear hT
    subst hT'
    rw [h4]
    clear h4
    go_wp2_with fail
    go_ret
    exact ⟨rfl, hb12.trans (hb5.mono hb12.size)⟩
set_option maxHeartbeats 6400000 in
set_option maxRecDepth 100000 in
theorem msame_h (k t r ix : Int) (iA oA sA iA' oA' sA' : Option Addr) (ni ic no oc ns sc ni' ic' no' oc' ns' sc' : Nat) (L L' : List WsL) (w : World) (hP : ∀ W, Below w.heap.size w W → Calls Try.prog 69 #[.slice iA ni ic, .slice iA' ni' ic'] W fun e w' => e = .returned (.bool true) ∧ Below W.heap.size W w') (hQ : ∀ W, Below w.heap.size w W → Calls Try.prog 70 #[.slice oA no oc, .slice oA' no' oc', .func (.func 71) #[] #[]] W fun e w' => e = .returned (.bool true) ∧ Below W.heap.size W w') (hE : ∀ W, Below w.heap.size w W → Calls Try.prog 73 #[.slice sA ns sc] W fun e w' => ∃ A c, e = .returned (.slice A (List.length (α := WsL) L) c) ∧ RE w' w'.heap.size A L ∧ Below W.heap.size W w') (hF : ∀ W, Below w.heap.size w W → Calls Try.prog 73 #[.slice sA' ns' sc'] W fun e w' => ∃ A c, e = .returned (.slice A (List.length (α := WsL) L') c) ∧ RE w' w'.heap.size A L' ∧ Below W.heap.size W w') (h6 : ∀ W (B B' : Option Addr) (d d' : Nat), RE W W.heap.size B L → RE W W.heap.size B' L' → Calls Try.prog 72 #[.slice B (List.length (α := WsL) L) d, .slice B' (List.length (α := WsL) L') d'] W fun e w' => e = .returned (.bool false) ∧ Below W.heap.size W w') :
    Calls Try.prog 45 #[mlv k t r ix (.slice iA ni ic) (.slice oA no oc) (.slice sA ns sc), mlv k t r ix (.slice iA' ni' ic') (.slice oA' no' oc') (.slice sA' ns' sc')] w fun e w' => e = .returned (.bool false) ∧ Below w.heap.size w w' := by
  obtain ⟨w1, hw1, F1, hs1, hb1⟩ := mail_box w (.int .u8 k) (.int .u32 t) (.int .u8 r) (.int .i64 ix) (.slice iA ni ic) (.slice oA no oc) (.slice sA ns sc)
  obtain ⟨w2, hw2, F2, hs2, hb2⟩ := mail_box w1 (.int .u8 k) (.int .u32 t) (.int .u8 r) (.int .i64 ix) (.slice iA' ni' ic') (.slice oA' no' oc') (.slice sA' ns' sc')
  have hb12 := fresh hb1 hb2
  have hl1 : w.heap.size < w2.heap.size := Nat.lt_of_lt_of_le hs1 hb2.size
  have hl2 : w1.heap.size < w2.heap.size := hs2
  have G2 := F1.below hb2
  obtain ⟨p0, p1, p2, p3, p4, p5, p6⟩ := F2.cells
  obtain ⟨m0, m1, m2, m3, m4, m5, m6⟩ := G2.cells
  replace hP := hide hP
  replace hQ := hide hQ
  replace hE := hide hE
  replace hF := hide hF
  replace h6 := hide h6
  clear F1 F2 G2
  go_enter Try.func45, Try.ntmps45
  go_wp2_with fail
  clear hw1 hw2
  refine wp_region_claims ([.val (.pointer (some ⟨w.heap.size, 0, none⟩)), .val (.int .u8 k), .val (.pointer (some ⟨w1.heap.size, 0, none⟩)), .val (.int .u8 k), .val (.bool true), .val (.bool true), .val (.pointer (some ⟨w.heap.size, 1, none⟩)), .val (.agg #[.int .u32 t, .int .u8 r]), .val (.pointer (some ⟨w1.heap.size, 1, none⟩)), .val (.agg #[.int .u32 t, .int .u8 r]), .val (.bool true), .val (.bool true), .val (.bool true), .val (.pointer (some ⟨w.heap.size, 3, none⟩)), .val (.int .i64 ix), .val (.pointer (some ⟨w1.heap.size, 3, none⟩)), .val (.int .i64 ix), .val (.bool true), .val (.bool true), .val (.bool true), .val (.pointer (some ⟨w.heap.size, 4, none⟩)), .val (.slice iA ni ic), .val (.pointer (some ⟨w1.heap.size, 4, none⟩)), .val (.slice iA' ni' ic'), .val (.bool true), .val (.bool true), .val (.bool true), .val (.pointer (some ⟨w.heap.size, 5, none⟩)), .val (.slice oA no oc), .val (.pointer (some ⟨w1.heap.size, 5, none⟩)), .val (.slice oA' no' oc'), .val (.bool true), .val (.bool true), .val (.bool true), .val (.pointer (some ⟨w.heap.size, 6, none⟩)), .val (.slice sA ns sc), .ent L, .val (.pointer (some ⟨w1.heap.size, 6, none⟩)), .val (.slice sA' ns' sc'), .ent L', .val (.bool false), .val (.bool false), .val (.bool false), .val undef, .val undef, .val undef, .val undef, .val undef, .val (.bool false), .val (.bool false)].map Km.say) (by kernel_rfl) 54 (by rfl) (by kernel_rfl) (kms_mono _) ?_ ?_
  · refine ⟨?_, ?_, ?_, ?_, ?_, ?_, ?_, ?_, ?_, ?_, ?_, ?_, ?_, ?_, ?_, ?_, ?_, ?_, ?_, ?_, ?_, ?_, ?_, ?_, ?_, ?_, ?_, ?_, ?_, ?_, ?_, ?_, ?_, ?_, ?_, ?_, ?_, ?_, ?_, ?_, ?_, ?_, ?_, ?_, ?_, ?_, ?_, ?_, ?_, ?_, trivial⟩
    · -- 0: slot 5
      intro ρ w' hb hf hd
      have h2 := hf 2 (by kernel_rfl)
      change ρ 2 = (.pointer (some ⟨w.heap.size, 0, none⟩)) at h2
      clear hf hd
      refine .inl ⟨rfl, opOK_step fun R hR => ?_⟩
      unfold opOK
      go_simp
      exact hR _ _ ⟨Below.refl _ _, rfl⟩
    · -- 1: slot 6
      intro ρ w' hb hf hd
      have h5 : (Km.val (.pointer (some ⟨w.heap.size, 0, none⟩))).say (ρ 5) w' := hd 0 (by kernel_rfl)
      change ρ 5 = (.pointer (some ⟨w.heap.size, 0, none⟩)) at h5
      clear hf hd
      refine .inl ⟨rfl, opOK_step fun R hR => ?_⟩
      have q0 := keep_cell hb hl1 m0
      unfold opOK
      go_simp
      exact hR _ _ ⟨Below.refl _ _, rfl⟩
    · -- 2: slot 7
      intro ρ w' hb hf hd
      have h3 := hf 3 (by kernel_rfl)
      change ρ 3 = (.pointer (some ⟨w1.heap.size, 0, none⟩)) at h3
      clear hf hd
      refine .inl ⟨rfl, opOK_step fun R hR => ?_⟩
      unfold opOK
      go_simp
      exact hR _ _ ⟨Below.refl _ _, rfl⟩
    · -- 3: slot 8
      intro ρ w' hb hf hd
      have h7 : (Km.val (.pointer (some ⟨w1.heap.size, 0, none⟩))).say (ρ 7) w' := hd 2 (by kernel_rfl)
      change ρ 7 = (.pointer (some ⟨w1.heap.size, 0, none⟩)) at h7
      clear hf hd
      refine .inl ⟨rfl, opOK_step fun R hR => ?_⟩
      have q0 := keep_cell hb hl2 p0
      unfold opOK
      go_simp
      exact hR _ _ ⟨Below.refl _ _, rfl⟩
    · -- 4: slot 9
      intro ρ w' hb hf hd
      have h6 : (Km.val (.int .u8 k)).say (ρ 6) w' := hd 1 (by kernel_rfl)
      have h8 : (Km.val (.int .u8 k)).say (ρ 8) w' := hd 3 (by kernel_rfl)
      change ρ 6 = (.int .u8 k) at h6
      change ρ 8 = (.int .u8 k) at h8
      clear hf hd
      refine .inl ⟨rfl, opOK_step fun R hR => ?_⟩
      unfold opOK
      go_simp
      exact hR _ _ ⟨Below.refl _ _, rfl⟩
    · -- 5: slot 10
      intro ρ w' hb hf hd
      have h9 : (Km.val (.bool true)).say (ρ 9) w' := hd 4 (by kernel_rfl)
      change ρ 9 = (.bool true) at h9
      clear hf hd
      refine .inl ⟨rfl, opOK_step fun R hR => ?_⟩
      unfold opOK
      go_simp
      exact hR _ _ ⟨Below.refl _ _, rfl⟩
    · -- 6: slot 11
      intro ρ w' hb hf hd
      have h2 := hf 2 (by kernel_rfl)
      have h10 : (Km.val (.bool true)).say (ρ 10) w' := hd 5 (by kernel_rfl)
      change ρ 2 = (.pointer (some ⟨w.heap.size, 0, none⟩)) at h2
      change ρ 10 = (.bool true) at h10
      clear hf hd
      refine .inl ⟨ask_of rfl rfl h10, opOK_step fun R hR => ?_⟩
      unfold opOK
      go_simp
      exact hR _ _ ⟨Below.refl _ _, rfl⟩
    · -- 7: slot 12
      intro ρ w' hb hf hd
      have h10 : (Km.val (.bool true)).say (ρ 10) w' := hd 5 (by kernel_rfl)
      have h11 : (Km.val (.pointer (some ⟨w.heap.size, 1, none⟩))).say (ρ 11) w' := hd 6 (by kernel_rfl)
      change ρ 10 = (.bool true) at h10
      change ρ 11 = (.pointer (some ⟨w.heap.size, 1, none⟩)) at h11
      clear hf hd
      refine .inl ⟨ask_of rfl rfl h10, opOK_step fun R hR => ?_⟩
      have q1 := keep_cell hb hl1 m1
      have q2 := keep_cell hb hl1 m2
      unfold opOK
      go_simp
      exact hR _ _ ⟨Below.refl _ _, rfl⟩
    · -- 8: slot 13
      intro ρ w' hb hf hd
      have h3 := hf 3 (by kernel_rfl)
      have h10 : (Km.val (.bool true)).say (ρ 10) w' := hd 5 (by kernel_rfl)
      change ρ 3 = (.pointer (some ⟨w1.heap.size, 0, none⟩)) at h3
      change ρ 10 = (.bool true) at h10
      clear hf hd
      refine .inl ⟨ask_of rfl rfl h10, opOK_step fun R hR => ?_⟩
      unfold opOK
      go_simp
      exact hR _ _ ⟨Below.refl _ _, rfl⟩
    · -- 9: slot 14
      intro ρ w' hb hf hd
      have h10 : (Km.val (.bool true)).say (ρ 10) w' := hd 5 (by kernel_rfl)
      have h13 : (Km.val (.pointer (some ⟨w1.heap.size, 1, none⟩))).say (ρ 13) w' := hd 8 (by kernel_rfl)
      change ρ 10 = (.bool true) at h10
      change ρ 13 = (.pointer (some ⟨w1.heap.size, 1, none⟩)) at h13
      clear hf hd
      refine .inl ⟨ask_of rfl rfl h10, opOK_step fun R hR => ?_⟩
      have q1 := keep_cell hb hl2 p1
      have q2 := keep_cell hb hl2 p2
      unfold opOK
      go_simp
      exact hR _ _ ⟨Below.refl _ _, rfl⟩
    · -- 10: slot 15
      intro ρ w' hb hf hd
      have h10 : (Km.val (.bool true)).say (ρ 10) w' := hd 5 (by kernel_rfl)
      have h12 : (Km.val (.agg #[.int .u32 t, .int .u8 r])).say (ρ 12) w' := hd 7 (by kernel_rfl)
      have h14 : (Km.val (.agg #[.int .u32 t, .int .u8 r])).say (ρ 14) w' := hd 9 (by kernel_rfl)
      change ρ 10 = (.bool true) at h10
      change ρ 12 = (.agg #[.int .u32 t, .int .u8 r]) at h12
      change ρ 14 = (.agg #[.int .u32 t, .int .u8 r]) at h14
      clear hf hd
      refine .inl ⟨ask_of rfl rfl h10, opOK_step fun R hR => ?_⟩
      unfold opOK
      go_simp
      exact hR _ _ ⟨Below.refl _ _, rfl⟩
    · -- 11: slot 16
      intro ρ w' hb hf hd
      have h10 : (Km.val (.bool true)).say (ρ 10) w' := hd 5 (by kernel_rfl)
      have h15 : (Km.val (.bool true)).say (ρ 15) w' := hd 10 (by kernel_rfl)
      change ρ 10 = (.bool true) at h10
      change ρ 15 = (.bool true) at h15
      clear hf hd
      refine .inl ⟨rfl, opOK_step fun R hR => ?_⟩
      unfold opOK
      go_simp
      exact hR _ _ ⟨Below.refl _ _, rfl⟩
    · -- 12: slot 17
      intro ρ w' hb hf hd
      have h16 : (Km.val (.bool true)).say (ρ 16) w' := hd 11 (by kernel_rfl)
      change ρ 16 = (.bool true) at h16
      clear hf hd
      refine .inl ⟨rfl, opOK_step fun R hR => ?_⟩
      unfold opOK
      go_simp
      exact hR _ _ ⟨Below.refl _ _, rfl⟩
    · -- 13: slot 18
      intro ρ w' hb hf hd
      have h2 := hf 2 (by kernel_rfl)
      have h17 : (Km.val (.bool true)).say (ρ 17) w' := hd 12 (by kernel_rfl)
      change ρ 2 = (.pointer (some ⟨w.heap.size, 0, none⟩)) at h2
      change ρ 17 = (.bool true) at h17
      clear hf hd
      refine .inl ⟨ask_of rfl rfl h17, opOK_step fun R hR => ?_⟩
      unfold opOK
      go_simp
      exact hR _ _ ⟨Below.refl _ _, rfl⟩
    · -- 14: slot 19
      intro ρ w' hb hf hd
      have h17 : (Km.val (.bool true)).say (ρ 17) w' := hd 12 (by kernel_rfl)
      have h18 : (Km.val (.pointer (some ⟨w.heap.size, 3, none⟩))).say (ρ 18) w' := hd 13 (by kernel_rfl)
      change ρ 17 = (.bool true) at h17
      change ρ 18 = (.pointer (some ⟨w.heap.size, 3, none⟩)) at h18
      clear hf hd
      refine .inl ⟨ask_of rfl rfl h17, opOK_step fun R hR => ?_⟩
      have q3 := keep_cell hb hl1 m3
      unfold opOK
      go_simp
      exact hR _ _ ⟨Below.refl _ _, rfl⟩
    · -- 15: slot 20
      intro ρ w' hb hf hd
      have h3 := hf 3 (by kernel_rfl)
      have h17 : (Km.val (.bool true)).say (ρ 17) w' := hd 12 (by kernel_rfl)
      change ρ 3 = (.pointer (some ⟨w1.heap.size, 0, none⟩)) at h3
      change ρ 17 = (.bool true) at h17
      clear hf hd
      refine .inl ⟨ask_of rfl rfl h17, opOK_step fun R hR => ?_⟩
      unfold opOK
      go_simp
      exact hR _ _ ⟨Below.refl _ _, rfl⟩
    · -- 16: slot 21
      intro ρ w' hb hf hd
      have h17 : (Km.val (.bool true)).say (ρ 17) w' := hd 12 (by kernel_rfl)
      have h20 : (Km.val (.pointer (some ⟨w1.heap.size, 3, none⟩))).say (ρ 20) w' := hd 15 (by kernel_rfl)
      change ρ 17 = (.bool true) at h17
      change ρ 20 = (.pointer (some ⟨w1.heap.size, 3, none⟩)) at h20
      clear hf hd
      refine .inl ⟨ask_of rfl rfl h17, opOK_step fun R hR => ?_⟩
      have q3 := keep_cell hb hl2 p3
      unfold opOK
      go_simp
      exact hR _ _ ⟨Below.refl _ _, rfl⟩
    · -- 17: slot 22
      intro ρ w' hb hf hd
      have h17 : (Km.val (.bool true)).say (ρ 17) w' := hd 12 (by kernel_rfl)
      have h19 : (Km.val (.int .i64 ix)).say (ρ 19) w' := hd 14 (by kernel_rfl)
      have h21 : (Km.val (.int .i64 ix)).say (ρ 21) w' := hd 16 (by kernel_rfl)
      change ρ 17 = (.bool true) at h17
      change ρ 19 = (.int .i64 ix) at h19
      change ρ 21 = (.int .i64 ix) at h21
      clear hf hd
      refine .inl ⟨ask_of rfl rfl h17, opOK_step fun R hR => ?_⟩
      unfold opOK
      go_simp
      exact hR _ _ ⟨Below.refl _ _, rfl⟩
    · -- 18: slot 23
      intro ρ w' hb hf hd
      have h17 : (Km.val (.bool true)).say (ρ 17) w' := hd 12 (by kernel_rfl)
      have h22 : (Km.val (.bool true)).say (ρ 22) w' := hd 17 (by kernel_rfl)
      change ρ 17 = (.bool true) at h17
      change ρ 22 = (.bool true) at h22
      clear hf hd
      refine .inl ⟨rfl, opOK_step fun R hR => ?_⟩
      unfold opOK
      go_simp
      exact hR _ _ ⟨Below.refl _ _, rfl⟩
    · -- 19: slot 24
      intro ρ w' hb hf hd
      have h23 : (Km.val (.bool true)).say (ρ 23) w' := hd 18 (by kernel_rfl)
      change ρ 23 = (.bool true) at h23
      clear hf hd
      refine .inl ⟨rfl, opOK_step fun R hR => ?_⟩
      unfold opOK
      go_simp
      exact hR _ _ ⟨Below.refl _ _, rfl⟩
    · -- 20: slot 25
      intro ρ w' hb hf hd
      have h2 := hf 2 (by kernel_rfl)
      have h24 : (Km.val (.bool true)).say (ρ 24) w' := hd 19 (by kernel_rfl)
      change ρ 2 = (.pointer (some ⟨w.heap.size, 0, none⟩)) at h2
      change ρ 24 = (.bool true) at h24
      clear hf hd
      refine .inl ⟨ask_of rfl rfl h24, opOK_step fun R hR => ?_⟩
      unfold opOK
      go_simp
      exact hR _ _ ⟨Below.refl _ _, rfl⟩
    · -- 21: slot 26
      intro ρ w' hb hf hd
      have h24 : (Km.val (.bool true)).say (ρ 24) w' := hd 19 (by kernel_rfl)
      have h25 : (Km.val (.pointer (some ⟨w.heap.size, 4, none⟩))).say (ρ 25) w' := hd 20 (by kernel_rfl)
      change ρ 24 = (.bool true) at h24
      change ρ 25 = (.pointer (some ⟨w.heap.size, 4, none⟩)) at h25
      clear hf hd
      refine .inl ⟨ask_of rfl rfl h24, opOK_step fun R hR => ?_⟩
      have q4 := keep_cell hb hl1 m4
      unfold opOK
      go_simp
      exact hR _ _ ⟨Below.refl _ _, rfl⟩
    · -- 22: slot 27
      intro ρ w' hb hf hd
      have h3 := hf 3 (by kernel_rfl)
      have h24 : (Km.val (.bool true)).say (ρ 24) w' := hd 19 (by kernel_rfl)
      change ρ 3 = (.pointer (some ⟨w1.heap.size, 0, none⟩)) at h3
      change ρ 24 = (.bool true) at h24
      clear hf hd
      refine .inl ⟨ask_of rfl rfl h24, opOK_step fun R hR => ?_⟩
      unfold opOK
      go_simp
      exact hR _ _ ⟨Below.refl _ _, rfl⟩
    · -- 23: slot 28
      intro ρ w' hb hf hd
      have h24 : (Km.val (.bool true)).say (ρ 24) w' := hd 19 (by kernel_rfl)
      have h27 : (Km.val (.pointer (some ⟨w1.heap.size, 4, none⟩))).say (ρ 27) w' := hd 22 (by kernel_rfl)
      change ρ 24 = (.bool true) at h24
      change ρ 27 = (.pointer (some ⟨w1.heap.size, 4, none⟩)) at h27
      clear hf hd
      refine .inl ⟨ask_of rfl rfl h24, opOK_step fun R hR => ?_⟩
      have q4 := keep_cell hb hl2 p4
      unfold opOK
      go_simp
      exact hR _ _ ⟨Below.refl _ _, rfl⟩
    · -- 24: slot 29
      intro ρ w' hb hf hd
      have h24 : (Km.val (.bool true)).say (ρ 24) w' := hd 19 (by kernel_rfl)
      have h26 : (Km.val (.slice iA ni ic)).say (ρ 26) w' := hd 21 (by kernel_rfl)
      have h28 : (Km.val (.slice iA' ni' ic')).say (ρ 28) w' := hd 23 (by kernel_rfl)
      change ρ 24 = (.bool true) at h24
      change ρ 26 = (.slice iA ni ic) at h26
      change ρ 28 = (.slice iA' ni' ic') at h28
      clear hf hd
      refine .inl ⟨ask_of rfl rfl h24, opOK_step fun R hR => ?_⟩
      unfold opOK
      go_simp
      exact (hP.out w' (hb12.trans (hb.mono hb12.size))).mono fun e w3 ⟨he, hb3⟩ => ⟨_, he, hR _ _ ⟨hb3, rfl⟩⟩
    · -- 25: slot 30
      intro ρ w' hb hf hd
      have h24 : (Km.val (.bool true)).say (ρ 24) w' := hd 19 (by kernel_rfl)
      have h29 : (Km.val (.bool true)).say (ρ 29) w' := hd 24 (by kernel_rfl)
      change ρ 24 = (.bool true) at h24
      change ρ 29 = (.bool true) at h29
      clear hf hd
      refine .inl ⟨rfl, opOK_step fun R hR => ?_⟩
      unfold opOK
      go_simp
      exact hR _ _ ⟨Below.refl _ _, rfl⟩
    · -- 26: slot 31
      intro ρ w' hb hf hd
      have h30 : (Km.val (.bool true)).say (ρ 30) w' := hd 25 (by kernel_rfl)
      change ρ 30 = (.bool true) at h30
      clear hf hd
      refine .inl ⟨rfl, opOK_step fun R hR => ?_⟩
      unfold opOK
      go_simp
      exact hR _ _ ⟨Below.refl _ _, rfl⟩
    · -- 27: slot 32
      intro ρ w' hb hf hd
      have h2 := hf 2 (by kernel_rfl)
      have h31 : (Km.val (.bool true)).say (ρ 31) w' := hd 26 (by kernel_rfl)
      change ρ 2 = (.pointer (some ⟨w.heap.size, 0, none⟩)) at h2
      change ρ 31 = (.bool true) at h31
      clear hf hd
      refine .inl ⟨ask_of rfl rfl h31, opOK_step fun R hR => ?_⟩
      unfold opOK
      go_simp
      exact hR _ _ ⟨Below.refl _ _, rfl⟩
    · -- 28: slot 33
      intro ρ w' hb hf hd
      have h31 : (Km.val (.bool true)).say (ρ 31) w' := hd 26 (by kernel_rfl)
      have h32 : (Km.val (.pointer (some ⟨w.heap.size, 5, none⟩))).say (ρ 32) w' := hd 27 (by kernel_rfl)
      change ρ 31 = (.bool true) at h31
      change ρ 32 = (.pointer (some ⟨w.heap.size, 5, none⟩)) at h32
      clear hf hd
      refine .inl ⟨ask_of rfl rfl h31, opOK_step fun R hR => ?_⟩
      have q5 := keep_cell hb hl1 m5
      unfold opOK
      go_simp
      exact hR _ _ ⟨Below.refl _ _, rfl⟩
    · -- 29: slot 34
      intro ρ w' hb hf hd
      have h3 := hf 3 (by kernel_rfl)
      have h31 : (Km.val (.bool true)).say (ρ 31) w' := hd 26 (by kernel_rfl)
      change ρ 3 = (.pointer (some ⟨w1.heap.size, 0, none⟩)) at h3
      change ρ 31 = (.bool true) at h31
      clear hf hd
      refine .inl ⟨ask_of rfl rfl h31, opOK_step fun R hR => ?_⟩
      unfold opOK
      go_simp
      exact hR _ _ ⟨Below.refl _ _, rfl⟩
    · -- 30: slot 35
      intro ρ w' hb hf hd
      have h31 : (Km.val (.bool true)).say (ρ 31) w' := hd 26 (by kernel_rfl)
      have h34 : (Km.val (.pointer (some ⟨w1.heap.size, 5, none⟩))).say (ρ 34) w' := hd 29 (by kernel_rfl)
      change ρ 31 = (.bool true) at h31
      change ρ 34 = (.pointer (some ⟨w1.heap.size, 5, none⟩)) at h34
      clear hf hd
      refine .inl ⟨ask_of rfl rfl h31, opOK_step fun R hR => ?_⟩
      have q5 := keep_cell hb hl2 p5
      unfold opOK
      go_simp
      exact hR _ _ ⟨Below.refl _ _, rfl⟩
    · -- 31: slot 36
      intro ρ w' hb hf hd
      have h31 : (Km.val (.bool true)).say (ρ 31) w' := hd 26 (by kernel_rfl)
      have h33 : (Km.val (.slice oA no oc)).say (ρ 33) w' := hd 28 (by kernel_rfl)
      have h35 : (Km.val (.slice oA' no' oc')).say (ρ 35) w' := hd 30 (by kernel_rfl)
      change ρ 31 = (.bool true) at h31
      change ρ 33 = (.slice oA no oc) at h33
      change ρ 35 = (.slice oA' no' oc') at h35
      clear hf hd
      refine .inl ⟨ask_of rfl rfl h31, opOK_step fun R hR => ?_⟩
      unfold opOK
      go_simp
      exact (hQ.out w' (hb12.trans (hb.mono hb12.size))).mono fun e w3 ⟨he, hb3⟩ => ⟨_, he, hR _ _ ⟨hb3, rfl⟩⟩
    · -- 32: slot 37
      intro ρ w' hb hf hd
      have h31 : (Km.val (.bool true)).say (ρ 31) w' := hd 26 (by kernel_rfl)
      have h36 : (Km.val (.bool true)).say (ρ 36) w' := hd 31 (by kernel_rfl)
      change ρ 31 = (.bool true) at h31
      change ρ 36 = (.bool true) at h36
      clear hf hd
      refine .inl ⟨rfl, opOK_step fun R hR => ?_⟩
      unfold opOK
      go_simp
      exact hR _ _ ⟨Below.refl _ _, rfl⟩
    · -- 33: slot 38
      intro ρ w' hb hf hd
      have h37 : (Km.val (.bool true)).say (ρ 37) w' := hd 32 (by kernel_rfl)
      change ρ 37 = (.bool true) at h37
      clear hf hd
      refine .inl ⟨rfl, opOK_step fun R hR => ?_⟩
      unfold opOK
      go_simp
      exact hR _ _ ⟨Below.refl _ _, rfl⟩
    · -- 34: slot 39
      intro ρ w' hb hf hd
      have h2 := hf 2 (by kernel_rfl)
      have h38 : (Km.val (.bool true)).say (ρ 38) w' := hd 33 (by kernel_rfl)
      change ρ 2 = (.pointer (some ⟨w.heap.size, 0, none⟩)) at h2
      change ρ 38 = (.bool true) at h38
      clear hf hd
      refine .inl ⟨ask_of rfl rfl h38, opOK_step fun R hR => ?_⟩
      unfold opOK
      go_simp
      exact hR _ _ ⟨Below.refl _ _, rfl⟩
    · -- 35: slot 40
      intro ρ w' hb hf hd
      have h38 : (Km.val (.bool true)).say (ρ 38) w' := hd 33 (by kernel_rfl)
      have h39 : (Km.val (.pointer (some ⟨w.heap.size, 6, none⟩))).say (ρ 39) w' := hd 34 (by kernel_rfl)
      change ρ 38 = (.bool true) at h38
      change ρ 39 = (.pointer (some ⟨w.heap.size, 6, none⟩)) at h39
      clear hf hd
      refine .inl ⟨ask_of rfl rfl h38, opOK_step fun R hR => ?_⟩
      have q6 := keep_cell hb hl1 m6
      unfold opOK
      go_simp
      exact hR _ _ ⟨Below.refl _ _, rfl⟩
    · -- 36: slot 41
      intro ρ w' hb hf hd
      have h38 : (Km.val (.bool true)).say (ρ 38) w' := hd 33 (by kernel_rfl)
      have h40 : (Km.val (.slice sA ns sc)).say (ρ 40) w' := hd 35 (by kernel_rfl)
      change ρ 38 = (.bool true) at h38
      change ρ 40 = (.slice sA ns sc) at h40
      clear hf hd
      refine .inl ⟨ask_of rfl rfl h38, opOK_step fun R hR => ?_⟩
      unfold opOK
      go_simp
      exact (hE.out w' (hb12.trans (hb.mono hb12.size))).mono fun e w3 ⟨A9, c9, he, hr, hb3⟩ => ⟨_, he, hR _ _ ⟨hb3, A9, c9, rfl, hr⟩⟩
    · -- 37: slot 42
      intro ρ w' hb hf hd
      have h3 := hf 3 (by kernel_rfl)
      have h38 : (Km.val (.bool true)).say (ρ 38) w' := hd 33 (by kernel_rfl)
      change ρ 3 = (.pointer (some ⟨w1.heap.size, 0, none⟩)) at h3
      change ρ 38 = (.bool true) at h38
      clear hf hd
      refine .inl ⟨ask_of rfl rfl h38, opOK_step fun R hR => ?_⟩
      unfold opOK
      go_simp
      exact hR _ _ ⟨Below.refl _ _, rfl⟩
    · -- 38: slot 43
      intro ρ w' hb hf hd
      have h38 : (Km.val (.bool true)).say (ρ 38) w' := hd 33 (by kernel_rfl)
      have h42 : (Km.val (.pointer (some ⟨w1.heap.size, 6, none⟩))).say (ρ 42) w' := hd 37 (by kernel_rfl)
      change ρ 38 = (.bool true) at h38
      change ρ 42 = (.pointer (some ⟨w1.heap.size, 6, none⟩)) at h42
      clear hf hd
      refine .inl ⟨ask_of rfl rfl h38, opOK_step fun R hR => ?_⟩
      have q6 := keep_cell hb hl2 p6
      unfold opOK
      go_simp
      exact hR _ _ ⟨Below.refl _ _, rfl⟩
    · -- 39: slot 44
      intro ρ w' hb hf hd
      have h38 : (Km.val (.bool true)).say (ρ 38) w' := hd 33 (by kernel_rfl)
      have h43 : (Km.val (.slice sA' ns' sc')).say (ρ 43) w' := hd 38 (by kernel_rfl)
      change ρ 38 = (.bool true) at h38
      change ρ 43 = (.slice sA' ns' sc') at h43
      clear hf hd
      refine .inl ⟨ask_of rfl rfl h38, opOK_step fun R hR => ?_⟩
      unfold opOK
      go_simp
      exact (hF.out w' (hb12.trans (hb.mono hb12.size))).mono fun e w3 ⟨A9, c9, he, hr, hb3⟩ => ⟨_, he, hR _ _ ⟨hb3, A9, c9, rfl, hr⟩⟩
    · -- 40: slot 45
      intro ρ w' hb hf hd
      have h38 : (Km.val (.bool true)).say (ρ 38) w' := hd 33 (by kernel_rfl)
      have h41 : (Km.ent L).say (ρ 41) w' := hd 36 (by kernel_rfl)
      have h44 : (Km.ent L').say (ρ 44) w' := hd 39 (by kernel_rfl)
      change ρ 38 = (.bool true) at h38
      clear hf hd
      refine .inl ⟨ask_of rfl rfl h38, opOK_step fun R hR => ?_⟩
      obtain ⟨A8, c8, k41, r8⟩ := h41
      obtain ⟨A9, c9, k44, r9⟩ := h44
      unfold opOK
      go_simp
      exact (h6.out w' A8 A9 c8 c9 r8 r9).mono fun e w3 ⟨he, hb3⟩ => ⟨_, he, hR _ _ ⟨hb3, rfl⟩⟩
    · -- 41: slot 46
      intro ρ w' hb hf hd
      have h38 : (Km.val (.bool true)).say (ρ 38) w' := hd 33 (by kernel_rfl)
      have h45 : (Km.val (.bool false)).say (ρ 45) w' := hd 40 (by kernel_rfl)
      change ρ 38 = (.bool true) at h38
      change ρ 45 = (.bool false) at h45
      clear hf hd
      refine .inl ⟨rfl, opOK_step fun R hR => ?_⟩
      unfold opOK
      go_simp
      exact hR _ _ ⟨Below.refl _ _, rfl⟩
    · -- 42: slot 47
      intro ρ w' hb hf hd
      have h46 : (Km.val (.bool false)).say (ρ 46) w' := hd 41 (by kernel_rfl)
      change ρ 46 = (.bool false) at h46
      clear hf hd
      refine .inl ⟨rfl, opOK_step fun R hR => ?_⟩
      unfold opOK
      go_simp
      exact hR _ _ ⟨Below.refl _ _, rfl⟩
    · -- 43: slot 48
      intro ρ w' hb hf hd
      have h2 := hf 2 (by kernel_rfl)
      have h47 : (Km.val (.bool false)).say (ρ 47) w' := hd 42 (by kernel_rfl)
      change ρ 2 = (.pointer (some ⟨w.heap.size, 0, none⟩)) at h2
      change ρ 47 = (.bool false) at h47
      clear hf hd
      exact .inr ⟨ask_not rfl rfl h47, rfl⟩
    · -- 44: slot 49
      intro ρ w' hb hf hd
      have h47 : (Km.val (.bool false)).say (ρ 47) w' := hd 42 (by kernel_rfl)
      have h48 : (Km.val undef).say (ρ 48) w' := hd 43 (by kernel_rfl)
      change ρ 47 = (.bool false) at h47
      change ρ 48 = undef at h48
      clear hf hd
      exact .inr ⟨ask_not rfl rfl h47, rfl⟩
    · -- 45: slot 50
      intro ρ w' hb hf hd
      have h3 := hf 3 (by kernel_rfl)
      have h47 : (Km.val (.bool false)).say (ρ 47) w' := hd 42 (by kernel_rfl)
      change ρ 3 = (.pointer (some ⟨w1.heap.size, 0, none⟩)) at h3
      change ρ 47 = (.bool false) at h47
      clear hf hd
      exact .inr ⟨ask_not rfl rfl h47, rfl⟩
    · -- 46: slot 51
      intro ρ w' hb hf hd
      have h47 : (Km.val (.bool false)).say (ρ 47) w' := hd 42 (by kernel_rfl)
      have h50 : (Km.val undef).say (ρ 50) w' := hd 45 (by kernel_rfl)
      change ρ 47 = (.bool false) at h47
      change ρ 50 = undef at h50
      clear hf hd
      exact .inr ⟨ask_not rfl rfl h47, rfl⟩
    · -- 47: slot 52
      intro ρ w' hb hf hd
      have h47 : (Km.val (.bool false)).say (ρ 47) w' := hd 42 (by kernel_rfl)
      have h49 : (Km.val undef).say (ρ 49) w' := hd 44 (by kernel_rfl)
      have h51 : (Km.val undef).say (ρ 51) w' := hd 46 (by kernel_rfl)
      change ρ 47 = (.bool false) at h47
      change ρ 49 = undef at h49
      change ρ 51 = undef at h51
      clear hf hd
      exact .inr ⟨ask_not rfl rfl h47, rfl⟩
    · -- 48: slot 53
      intro ρ w' hb hf hd
      have h47 : (Km.val (.bool false)).say (ρ 47) w' := hd 42 (by kernel_rfl)
      have h52 : (Km.val undef).say (ρ 52) w' := hd 47 (by kernel_rfl)
      change ρ 47 = (.bool false) at h47
      change ρ 52 = undef at h52
      clear hf hd
      refine .inl ⟨rfl, opOK_step fun R hR => ?_⟩
      unfold opOK
      go_simp
      exact hR _ _ ⟨Below.refl _ _, rfl⟩
    · -- 49: slot 4
      intro ρ w' hb hf hd
      have h53 : (Km.val (.bool false)).say (ρ 53) w' := hd 48 (by kernel_rfl)
      change ρ 53 = (.bool false) at h53
      clear hf hd
      refine .inl ⟨rfl, opOK_step fun R hR => ?_⟩
      unfold opOK
      go_simp
      exact hR _ _ ⟨Below.refl _ _, rfl⟩
  · intro a' w5 hb5 hdf hsz hf hd
    have h4 : slotsOf a' 4 = .bool false := hd 49 (by decide)
    obtain ⟨T, D⟩ := a'
    have hD : D = [] := hdf
    subst hD
    obtain ⟨f, hT, hff⟩ : ∃ f : Nat → Value, T = ((List.range 54).map f).toArray ∧ slotsOf ⟨T, []⟩ = f := ⟨_, arr_list T 54 hsz, rfl⟩
    rw [hff] at h4
    clear hff hsz hf hd hdf
    have hT' : T = #[f 0, f 1, f 2, f 3, f 4, f 5, f 6, f 7, f 8, f 9, f 10, f 11, f 12, f 13, f 14, f 15, f 16, f 17, f 18, f 19, f 20, f 21, f 22, f 23, f 24, f 25, f 26, f 27, f 28, f 29, f 30, f 31, f 32, f 33, f 34, f 35, f 36, f 37, f 38, f 39, f 40, f 41, f 42, f 43, f 44, f 45, f 46, f 47, f 48, f 49, f 50, f 51, f 52, f 53] := hT.trans (by kernel_rfl)
    clear hT
    subst hT'
    rw [h4]
    clear h4
    go_wp2_with fail
    go_ret
    exact ⟨rfl, hb12.trans (hb5.mono hb12.size)⟩
end Go.Proofs.Ytmkpfdcnikgokaa
