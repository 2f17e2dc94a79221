/-
  Texts of this claim, put together: MailGetAll, MailRound, Refill, MailAlive. What each theorem asks stands in its statement.
-/
import Derived.Test.YtmkpfdcnikgokaaMc26
import Derived.Test.YtmkpfdcnikgokaaMc36
import Derived.Test.YtmkpfdcnikgokaaMc37
set_option linter.unusedVariables false
set_option linter.unusedSimpArgs false
namespace Go.Proofs.Ytmkpfdcnikgokaa
open Go.RowKit
/-- A frame's mail; Get's error. -/
def mailM (b : List UInt8) : Option MP := (opn b).bind getB
def codeM (b : List UInt8) : Int := match opn b with
  | none => 30
  | some m => mcode m
theorem codeM_iff (b : List UInt8) : codeM b = 0 ↔ (mailM b).isSome = true := by
  unfold codeM mailM
  cases opn b with
  | none => simp
  | some m =>
    simp only [Option.bind_some, mcode]
    split <;> simp_all
set_option maxHeartbeats 3200000 in
set_option maxRecDepth 100000 in
theorem mget_none (A : Option Addr) (c : Nat) (b : List UInt8) (w : World) (hr : RB w w.heap.size A b) (hc : b.length ≤ c) (hl : b.length < 100000) (hm : opn b = none) :
    Calls Try.prog 15 #[.slice A b.length c] w fun e w' => e = .returned (.tuple #[m0L.val, .int .i64 30]) ∧ Below w.heap.size w w' := by
  obtain ⟨w1, hw1, F1, hs1, hb1⟩ := mail_box w (.int .u8 0) (.int .u32 0) (.int .u8 0) (.int .i64 0) (.slice none 0 0) (.slice none 0 0) (.slice none 0 0)
  obtain ⟨gx, hgx⟩ : ∃ q, q = w.heap.size := ⟨_, rfl⟩
  have Hgx := hide hgx.symm
  have HF1 := hide F1
  rw [← hgx] at HF1
  have hO := hide (open_any A c b w1 ((RD.below hr hb1).more hb1.size) hc hl)
  have Hm := hide hm
  clear hr hc hl hm F1
  go_enter Try.func15, Try.ntmps15
  go_wp2_with fail
  rw [← hgx]
  rw [← hgx] at hs1
  clear hgx
  refine hO.out.mono ?_
  rintro e w2 ⟨ho, hb2⟩
  unfold opened at ho
  rw [Hm.out] at ho
  subst ho
  have HF2 := hide (HF1.out.below hb2)
  obtain ⟨f0, f1, f2, f3, f4, f5, f6, FZ, hbz⟩ := wipe HF2.out (fresh hb1 hb2) (w := w) (Nat.le_of_eq Hgx.out)
  obtain ⟨y0, y1, y2, y3, y4, y5, y6⟩ := HF2.out.cells
  have HFZ := hide FZ
  have HBZ := hide hbz
  clear FZ hbz hw1
  go_wp2_with fail
  obtain ⟨v0, v1, v2, v3, v4, v5, v6⟩ := HFZ.out.cells
  refine bodyPost_ret (v := .tuple #[mlv 0 0 0 0 (.slice none 0 0) (.slice none 0 0) (.slice none 0 0), .int .i64 30]) (by simp [results, Try.results15, go_sem, v0, v1, v2, v3, v4, v5, v6]) rfl ?_
  exact ⟨rfl, HBZ.out⟩
theorem mget_any (A : Option Addr) (n c : Nat) (b : List UInt8) (w : World) (hr : RB w w.heap.size A b) (hn : b.length = n) (hc : n ≤ c) (hl : n < 100000) :
    Calls Try.prog 15 #[.slice A n c] w fun e w' => ∃ x : MlL, e = .returned (.tuple #[x.val, .int .i64 (codeM b)]) ∧ x.mp = (mailM b).getD mp0 ∧ RM w' w'.heap.size x ∧ okM x ∧ Below w.heap.size w w' := by
  subst hn
  cases hm : opn b with
  | none =>
    refine (mget_none A c b w hr hc hl hm).mono ?_
    rintro e w' ⟨rfl, hb⟩
    exact ⟨m0L, by unfold codeM; rw [hm], by unfold mailM; rw [hm]; rfl, m0_rm _ _, m0_ok, hb⟩
  | some m =>
    have key : Calls Try.prog 15 #[.slice A b.length c] w fun e w' => gotten w w' e m := by
      obtain ⟨k, s1, h1⟩ : ∃ k s, eyeN 6 (m, false) = (k, s) := ⟨_, _, rfl⟩
      have h2 := eyeN_max 6 (m, false) (by decide)
      rw [h1] at h2
      simp only at h2
      have h3 : k = 0 ∨ k = 1 ∨ k = 2 ∨ k = 3 ∨ k = 4 ∨ k = 5 ∨ k = 6 := by omega
      rcases h3 with rfl | rfl | rfl | rfl | rfl | rfl | rfl
      · exact mget_zero A c b m s1 w hr hc hl hm h1
      · exact mget_ops1 A c b m s1 w hr hc hl hm h1
      · exact mget_ack A c b m s1 w hr hc hl hm h1
      · exact mget_want A c b m s1 w hr hc hl hm h1
      · exact mget_ops4 A c b m s1 w hr hc hl hm h1
      · exact mget_manifest A c b m s1 w hr hc hl hm h1
      · exact mget_chunk A c b m s1 w hr hc hl hm h1
    refine key.mono ?_
    rintro e w' ⟨x, he, hx, h⟩
    exact ⟨x, by unfold codeM; rw [hm]; exact he, by unfold mailM; rw [hm]; exact hx, h⟩
end Go.Proofs.Ytmkpfdcnikgokaa
namespace Go.Proofs.Ytmkpfdcnikgokaa
open Go.RowKit
theorem putE_zero {x : MP} : putE x = 0 ↔ mayM x ∧ (bodyB x).length ≤ 16384 := by
  unfold putE wrE
  by_cases h : mayM x
  · rw [if_pos h]
    by_cases hl : (bodyB x).length ≤ 16384
    · rw [if_pos hl]; exact ⟨fun _ => ⟨h, hl⟩, fun _ => rfl⟩
    · rw [if_neg hl]; exact ⟨fun e => (by cases e), fun e => (hl e.2).elim⟩
  · rw [if_neg h]; exact ⟨fun e => (by cases e), fun e => (h e.1).elim⟩
theorem putV_ok {x : MP} (h : putE x = 0) : putV x = frm (bodyB x) := by
  obtain ⟨h1, h2⟩ := putE_zero.1 h
  unfold putV wrV
  rw [if_pos h1, if_pos h2]
theorem putV_bad {x : MP} (h : putE x ≠ 0) : putV x = [] := by
  unfold putV wrV
  by_cases h1 : mayM x
  · rw [if_pos h1, if_neg (fun h2 => h (putE_zero.2 ⟨h1, h2⟩))]
  · rw [if_neg h1]
/-- What is put is got. -/
theorem put_got {x : MP} (g : goodM x) (h : putE x = 0) : opn (putV x) = some (bodyB x) ∧ mailM (putV x) = some x ∧ codeM (putV x) = 0 := by
  obtain ⟨h1, h2⟩ := putE_zero.1 h
  have e1 : opn (putV x) = some (bodyB x) := by rw [putV_ok h, opn_frm _ h2]
  have e2 : mailM (putV x) = some x := by
    unfold mailM
    rw [e1]
    exact getB_fwd h1 g
  exact ⟨e1, e2, (codeM_iff _).2 (by rw [e2]; rfl)⟩
/-- What is got is put as just these bytes. -/
theorem got_put {b : List UInt8} {x : MP} (h : mailM b = some x) : putE x = 0 ∧ putV x = b ∧ mayM x ∧ goodM x := by
  unfold mailM at h
  cases ho : opn b with
  | none => rw [ho] at h; cases h
  | some m =>
    rw [ho] at h
    obtain ⟨e1, e2⟩ := opn_inv ho
    obtain ⟨e3, hm, hg⟩ := getB_inv h
    have hp : putE x = 0 := putE_zero.2 ⟨hm, by rw [← e3]; exact e2⟩
    exact ⟨hp, by rw [putV_ok hp, ← e3, ← e1], hm, hg⟩
theorem code_none {b : List UInt8} (h : codeM b ≠ 0) : mailM b = none := by
  cases hx : mailM b with
  | none => rfl
  | some x => exact (h ((codeM_iff b).2 (by rw [hx]; rfl))).elim
theorem code_some {b : List UInt8} (h : codeM b = 0) : ∃ x, mailM b = some x := Option.isSome_iff_exists.1 ((codeM_iff b).1 h)
/-- A frame of a piece: the mail in it, or the error. -/
theorem codeM_frm {l : List UInt8} (h : l.length ≤ 16384) : codeM (frm l) = mcode l ∧ mailM (frm l) = getB l := by
  unfold codeM mailM
  rw [opn_frm l h]
  exact ⟨rfl, rfl⟩
end Go.Proofs.Ytmkpfdcnikgokaa
namespace Go.Proofs.Ytmkpfdcnikgokaa
open Go.RowKit
/-- A box of mail is filled. -/
theorem refill {W : World} {gx B : Nat} {w : World} {a b c d e f h : Value} (v0 v1 v2 v3 v4 v5 v6 : Value) (hF : MB W gx a b c d e f h) (hb : Below B w W) (hg : B ≤ gx) :
    W.frozen? ⟨gx, 0, none⟩ = false ∧ (W.setCell ⟨gx, 0, none⟩ v0).frozen? ⟨gx, 1, none⟩ = false ∧ ((W.setCell ⟨gx, 0, none⟩ v0).setCell ⟨gx, 1, none⟩ v1).frozen? ⟨gx, 2, none⟩ = false ∧ (((W.setCell ⟨gx, 0, none⟩ v0).setCell ⟨gx, 1, none⟩ v1).setCell ⟨gx, 2, none⟩ v2).frozen? ⟨gx, 3, none⟩ = false ∧ ((((W.setCell ⟨gx, 0, none⟩ v0).setCell ⟨gx, 1, none⟩ v1).setCell ⟨gx, 2, none⟩ v2).setCell ⟨gx, 3, none⟩ v3).frozen? ⟨gx, 4, none⟩ = false ∧ (((((W.setCell ⟨gx, 0, none⟩ v0).setCell ⟨gx, 1, none⟩ v1).setCell ⟨gx, 2, none⟩ v2).setCell ⟨gx, 3, none⟩ v3).setCell ⟨gx, 4, none⟩ v4).frozen? ⟨gx, 5, none⟩ = false ∧ ((((((W.setCell ⟨gx, 0, none⟩ v0).setCell ⟨gx, 1, none⟩ v1).setCell ⟨gx, 2, none⟩ v2).setCell ⟨gx, 3, none⟩ v3).setCell ⟨gx, 4, none⟩ v4).setCell ⟨gx, 5, none⟩ v5).frozen? ⟨gx, 6, none⟩ = false ∧ MB (((((((W.setCell ⟨gx, 0, none⟩ v0).setCell ⟨gx, 1, none⟩ v1).setCell ⟨gx, 2, none⟩ v2).setCell ⟨gx, 3, none⟩ v3).setCell ⟨gx, 4, none⟩ v4).setCell ⟨gx, 5, none⟩ v5).setCell ⟨gx, 6, none⟩ v6) gx v0 v1 v2 v3 v4 v5 v6 ∧ Below B w (((((((W.setCell ⟨gx, 0, none⟩ v0).setCell ⟨gx, 1, none⟩ v1).setCell ⟨gx, 2, none⟩ v2).setCell ⟨gx, 3, none⟩ v3).setCell ⟨gx, 4, none⟩ v4).setCell ⟨gx, 5, none⟩ v5).setCell ⟨gx, 6, none⟩ v6) := by
  have F1 := hF.set0 v0
  have F2 := F1.set1 v1
  have F3 := F2.set2 v2
  have F4 := F3.set3 v3
  have F5 := F4.set4 v4
  have F6 := F5.set5 v5
  have F7 := F6.set6 v6
  exact ⟨hF.fr 0, F1.fr 1, F2.fr 2, F3.fr 3, F4.fr 4, F5.fr 5, F6.fr 6, F7, (((((((hb.setCell hg _).setCell hg _).setCell hg _).setCell hg _).setCell hg _).setCell hg _).setCell hg _)⟩
end Go.Proofs.Ytmkpfdcnikgokaa
namespace Go.Proofs.Ytmkpfdcnikgokaa
open Go.RowKit
/-- The acknowledgement: its clock lies in two rows. -/
def ackL (a b : Nat) : MlL := ⟨2, 0, 0, 0, some ⟨b, 0, none⟩, 1, [⟨0, some ⟨a, 0, none⟩, 1, [(3, 5)]⟩], none, 0, [], none, 0, []⟩
def wantL (a : Nat) : MlL := ⟨3, 0, 0, 0, none, 0, [], none, 0, [], some ⟨a, 0, none⟩, 1, [⟨0, 0, false, false, none, 0, [], none, 0, [], none, 0, []⟩]⟩
def ackP : MP := ⟨2, 0, 0, 0, [(0, [(3, 5)])], [], []⟩
def wantP : MP := ⟨3, 0, 0, 0, [], [], [⟨0, 0, false, false, [], [], []⟩]⟩
theorem ackL_ok (a b : Nat) : okM (ackL a b) := by
  simp only [okM, ackL, okT, okS, List.mem_singleton, List.length_singleton, List.length_nil, forall_eq, List.not_mem_nil, false_implies, implies_true, and_true, true_and]
  omega
theorem wantL_ok (a : Nat) : okM (wantL a) := by
  simp only [okM, wantL, okW, List.mem_singleton, List.length_singleton, List.length_nil, forall_eq, List.not_mem_nil, false_implies, implies_true, and_true, true_and]
  omega
theorem ack_may : mayM ackP := by decide
theorem want_may : mayM wantP := by decide
theorem ack_body : bodyB ackP = [2, 1, 0, 1, 3, 2] := by
  simp [bodyB, ackP, ckNums, tmNums, spNums, nbs, nb_small]
theorem want_body : bodyB wantP = [3, 0, 1, 0, 0, 0, 0, 0, 0] := by
  simp [bodyB, wantP, wsB, wsNums, gtNums, stN, ckNums, tmNums, spNums, nbs, nb_small]
set_option maxHeartbeats 1600000 in
set_option maxRecDepth 100000 in
theorem mack (w : World) : Calls Try.prog 16 #[] w fun e w' => ∃ a b, e = .returned (ackL a b).val ∧ RM w' w'.heap.size (ackL a b) ∧ Below w.heap.size w w' := by
  obtain ⟨w1, hw1, F1, hs1, hb1⟩ := mail_box w (.int .u8 2) (.int .u32 0) (.int .u8 0) (.int .i64 0) (.slice (some ⟨w.heap.size + 1 + 1, 0, none⟩) 1 1) (.slice none 0 0) (.slice none 0 0)
  have e1 : w1.heap.size = w.heap.size + 1 := by rw [← hw1]; simp
  obtain ⟨w2, hw2, F2, hs2, hb2⟩ := two_pb w1 (.int .u32 3) (.int .u32 5) 76
  have e2 : w2.heap.size = w.heap.size + 1 + 1 := by rw [← hw2, World.size_alloc, e1]
  obtain ⟨w3, hw3, F3, hs3, hb3⟩ := two_pb w2 (.int .u8 0) (.slice (some ⟨w.heap.size + 1, 0, none⟩) 1 1) 79
  have hr2 : RD w3 w3.heap.size 2 (some ⟨w.heap.size + 1, 0, none⟩) 1 [.int .u32 3, .int .u32 5] := by
    have := pb_row w1 (.int .u32 3) (.int .u32 5) 76
    rw [hw2, e1] at this
    exact (RD.below this hb3).more hb3.size
  have hr3 : RD w3 w3.heap.size 2 (some ⟨w.heap.size + 1 + 1, 0, none⟩) 1 [.int .u8 0, .slice (some ⟨w.heap.size + 1, 0, none⟩) 1 1] := by
    have := pb_row w2 (.int .u8 0) (.slice (some ⟨w.heap.size + 1, 0, none⟩) 1 1) 79
    rw [hw3, e2] at this
    exact this
  have H := hide (show RM w3 w3.heap.size (ackL (w.heap.size + 1) (w.heap.size + 1 + 1)) from ⟨⟨hr3, fun y hy => by
    simp only [ackL, List.mem_singleton] at hy
    subst hy
    exact hr2⟩, ⟨RD.nil_, fun y hy => by cases hy⟩, RW.nil _ _ _⟩)
  obtain ⟨v0, v1, v2, v3, v4, v5, v6⟩ := ((F1.below hb2).below hb3).cells
  have HW := hide (And.intro hw1 (And.intro hw2 hw3))
  have HB := hide (fresh hb1 (fresh hb2 hb3))
  clear hw1 hw2 hw3 hr2 hr3 F1 F2 F3 hb1 hb2 hb3 hs1 hs2 hs3 e1 e2
  go_enter Try.func16, Try.ntmps16
  go_wp2_with fail
  rw [HW.out.1, HW.out.2.1, HW.out.2.2]
  refine bodyPost_ret (v := (ackL (w.heap.size + 1) (w.heap.size + 1 + 1)).val) (by simp [results, Try.results16, go_sem, v0, v1, v2, v3, v4, v5, v6, MlL.val, ackL]) rfl ⟨_, _, rfl, H.out, HB.out⟩
set_option maxHeartbeats 1600000 in
set_option maxRecDepth 100000 in
theorem mwant (w : World) : Calls Try.prog 43 #[] w fun e w' => ∃ a, e = .returned (wantL a).val ∧ RM w' w'.heap.size (wantL a) ∧ Below w.heap.size w w' := by
  obtain ⟨w1, hw1, F1, hs1, hb1⟩ := mail_box w (.int .u8 3) (.int .u32 0) (.int .u8 0) (.int .i64 0) (.slice none 0 0) (.slice none 0 0) (.slice (some ⟨w.heap.size + 1, 0, none⟩) 1 1)
  have e1 : w1.heap.size = w.heap.size + 1 := by rw [← hw1]; simp
  obtain ⟨w2, hw2, F2, hs2, hb2⟩ := wish_box w1 (.int .u32 0) (.int .u8 0) (.bool false) (.slice none 0 0) (.bool false) (.slice none 0 0) (.slice none 0 0)
  have hr2 : RD w2 w2.heap.size 7 (some ⟨w.heap.size + 1, 0, none⟩) 1 [.int .u32 0, .int .u8 0, .bool false, .slice none 0 0, .bool false, .slice none 0 0, .slice none 0 0] := by
    refine ⟨rfl, fun _ => ⟨_, _, rfl, by rw [← e1]; exact hs2, fun j u hu => ?_⟩⟩
    rw [Nat.zero_add, ← e1, ← hw2, World.cell?_alloc_new, ← Array.getElem?_toList]
    exact hu
  have H := hide (show RM w2 w2.heap.size (wantL (w.heap.size + 1)) from ⟨RT.nil _ _ _, ⟨RD.nil_, fun y hy => by cases hy⟩, ⟨hr2, fun y hy => by
    simp only [wantL, List.mem_singleton] at hy
    subst hy
    exact ⟨RT.nil _ _ _, RT.nil _ _ _, RD.nil_⟩⟩⟩)
  obtain ⟨v0, v1, v2, v3, v4, v5, v6⟩ := (F1.below hb2).cells
  have HW := hide (And.intro hw1 hw2)
  have HB := hide (fresh hb1 hb2)
  clear hw1 hw2 hr2 F1 F2 hb1 hb2 hs1 hs2 e1
  go_enter Try.func43, Try.ntmps43
  go_wp2_with fail
  rw [HW.out.1, HW.out.2]
  refine bodyPost_ret (v := (wantL (w.heap.size + 1)).val) (by simp [results, Try.results43, go_sem, v0, v1, v2, v3, v4, v5, v6, MlL.val, wantL]) rfl ⟨_, rfl, H.out, HB.out⟩
set_option maxHeartbeats 6400000 in
set_option maxRecDepth 100000 in
theorem mhas (x : MlL) (l : List UInt8) (w : World) (hx : RM w w.heap.size x) (ox : okM x) (hm : mayM x.mp) (hl : bodyB x.mp = l) (h9 : l.length ≤ 16384) :
    Calls Try.prog 42 #[x.val, .string ⟨l.toArray⟩] w fun e w' => e = .returned (.bool true) ∧ Below w.heap.size w w' := by
  have hE : putE x.mp = 0 := putE_zero.2 ⟨hm, by rw [hl]; exact h9⟩
  obtain ⟨e1, e2, e3⟩ := put_got (okM_good ox) hE
  have hlen : (putV x.mp).length < 100000 := by
    rw [putV_ok hE, hl, frm_len]
    have := nb_six (n := l.length) (by omega)
    omega
  obtain ⟨w1, hw1, F1, hs1, hb1⟩ := mail_box w (.int .u8 x.k) (.int .u32 x.t) (.int .u8 x.r) (.int .i64 x.ix) (.slice x.iA x.i.length x.ic) (.slice x.oA x.o.length x.oc) (.slice x.sA x.s.length x.sc)
  obtain ⟨y0, y1, y2, y3, y4, y5, y6⟩ := F1.cells
  have P1 := hide (mput_any x w1 ((hx.below hb1).more hb1.size) ox)
  rw [hE] at P1
  obtain ⟨V, hV⟩ : ∃ q, q = putV x.mp := ⟨_, rfl⟩
  rw [← hV] at P1 e1 e2 e3 hlen
  rw [hl] at e1
  have HF1 := hide F1
  have HB1 := hide hb1
  have Hw1 := hide hw1
  have Hx := hide hx
  have Hox := hide ox
  have HE := hide (And.intro e1 (And.intro e2 e3))
  clear F1 hb1 hw1 hs1 hx ox hm hl hE hV e1 e2 e3
  show Calls Try.prog 42 #[mlv x.k x.t x.r x.ix (.slice x.iA x.i.length x.ic) (.slice x.oA x.o.length x.oc) (.slice x.sA x.s.length x.sc), .string ⟨l.toArray⟩] w _
  go_enter Try.func42, Try.ntmps42
  go_wp2_with fail
  rw [Hw1.out]
  refine P1.out.mono ?_
  rintro e w2 ⟨A2, c2, q, rfl, hq, ho2, hb2⟩
  subst hq
  obtain ⟨A9, c9, e9, hc2, -, -⟩ := own_slice ho2
  simp only [Value.slice.injEq] at e9
  obtain ⟨rfl, -, rfl⟩ := e9
  have HR2 := hide (show RB w2 w2.heap.size A2 q from RD.of_own ho2)
  have HB2 := hide (fresh HB1.out hb2)
  have HF2 := hide (HF1.out.below hb2)
  obtain ⟨qn, hqn⟩ : ∃ z, z = q.length := ⟨_, rfl⟩
  have Hqn := hide hqn.symm
  have P2 := hide (open_any A2 c2 q w2 HR2.out hc2 hlen)
  rw [← hqn] at P2 hc2 hlen ⊢
  have Hc2 := hide hc2
  clear y0 y1 y2 y3 y4 y5 y6 ho2 hb2 P1 HF1 HB1 hqn hc2
  go_wp2_with fail
  refine P2.out.mono ?_
  rintro e w3 ⟨ho, hb3⟩
  unfold opened at ho
  rw [HE.out.1] at ho
  obtain ⟨v, rfl, ho3⟩ := ho
  obtain ⟨A3, c3, rfl, -, -, -⟩ := own_slice ho3
  have HB3 := hide (fresh HB2.out hb3)
  have HF3 := hide (HF2.out.below hb3)
  have HR3 := hide (show RB w3 w3.heap.size A3 l from RD.of_own ho3)
  have P3 := hide (mget_any A2 qn c2 q w3 ((RD.below HR2.out hb3).more hb3.size) Hqn.out Hc2.out hlen)
  rw [HE.out.2.2] at P3
  obtain ⟨ln, hln⟩ : ∃ z, z = l.length := ⟨_, rfl⟩
  have Hln := hide hln.symm
  rw [← hln]
  clear ho3 hb3 P2 HF2 HB2 hln
  go_wp2_with fail
  refine P3.out.mono ?_
  rintro e w4 ⟨y, rfl, hy, hry, hoy, hb4⟩
  rw [HE.out.2.1] at hy
  have hy' : y.mp = x.mp := hy
  simp only [MlL.val]
  obtain ⟨w5a, hw5a, F5a, hs5a, hb5a⟩ := mail_box w4 (.int .u8 0) (.int .u32 0) (.int .u8 0) (.int .i64 0) (.slice none 0 0) (.slice none 0 0) (.slice none 0 0)
  obtain ⟨f0, f1, f2, f3, f4, f5, f6, F5, hb5r⟩ := refill (.int .u8 y.k) (.int .u32 y.t) (.int .u8 y.r) (.int .i64 y.ix) (.slice y.iA y.i.length y.ic) (.slice y.oA y.o.length y.oc) (.slice y.sA y.s.length y.sc) F5a (Below.refl w4.heap.size w5a) (Nat.le_refl _)
  obtain ⟨y0, y1, y2, y3, y4, y5, y6⟩ := F5a.cells
  obtain ⟨w5, hw5⟩ : ∃ q, ((((((w5a.setCell ⟨w4.heap.size, 0, none⟩ (.int .u8 y.k)).setCell ⟨w4.heap.size, 1, none⟩ (.int .u32 y.t)).setCell ⟨w4.heap.size, 2, none⟩ (.int .u8 y.r)).setCell ⟨w4.heap.size, 3, none⟩ (.int .i64 y.ix)).setCell ⟨w4.heap.size, 4, none⟩ (.slice y.iA y.i.length y.ic)).setCell ⟨w4.heap.size, 5, none⟩ (.slice y.oA y.o.length y.oc)).setCell ⟨w4.heap.size, 6, none⟩ (.slice y.sA y.s.length y.sc) = q := ⟨_, rfl⟩
  rw [hw5] at F5 hb5r
  have hb5 : Below w4.heap.size w4 w5 := hb5a.trans hb5r
  have hg5 : w4.heap.size < w5.heap.size := F5.lt
  have HB5 := hide (fresh HB3.out (fresh hb4 hb5))
  have hb35 : Below w3.heap.size w3 w5 := fresh hb4 hb5
  have HF5 := hide (HF3.out.below hb35)
  have HR5 := hide ((RD.below HR3.out hb35).more hb35.size)
  have k1 := conv_bytes (P := Try.prog) HR5.out Try.underlying28 Try.underlying5 Try.underlying9 c3
  rw [Hln.out] at k1
  have S := hide (msame_any y x w5 ((hry.below hb5).more hb5.size) ((Hx.out.below HB5.out).more HB5.out.size) hoy Hox.out)
  rw [decide_eq_true (samM_eq.2 hy')] at S
  obtain ⟨x0, x1, x2, x3, x4, x5, x6⟩ := HF5.out.cells
  obtain ⟨z0, z1, z2, z3, z4, z5, z6⟩ := F5.cells
  clear hy hy' hry hoy hb4 hb5a hb5r hb35 F5a HB3 HF3 HR3 P3 hs5a
  go_wp2_with fail
  refine S.out.mono ?_
  rintro e w6 ⟨rfl, hb6⟩
  have hbz := fresh HB5.out hb6
  clear x0 x1 x2 x3 x4 x5 x6 z0 z1 z2 z3 z4 z5 z6 k1
  go_wp2_with fail
  go_ret
  exact ⟨rfl, hbz⟩
set_option maxHeartbeats 1600000 in
set_option maxRecDepth 100000 in
theorem malive (w : World) : Calls Try.prog 18 #[] w fun e w' => e = .returned (.bool true) ∧ Below w.heap.size w w' := by
  go_enter Try.func18, Try.ntmps18
  go_wp2_with fail
  refine (mack w).mono ?_
  rintro e w1 ⟨a, b, rfl, hr1, hb1⟩
  have P1 := hide (mhas (ackL a b) [2, 1, 0, 1, 3, 2] w1 hr1 (ackL_ok a b) ack_may ack_body (by decide))
  clear hr1
  go_wp2_with fail
  refine P1.out.mono ?_
  rintro e w2 ⟨rfl, hb2⟩
  have hb02 := fresh hb1 hb2
  clear hb1 hb2 P1
  go_wp2_with fail
  refine (mwant w2).mono ?_
  rintro e w3 ⟨a', rfl, hr3, hb3⟩
  have P2 := hide (mhas (wantL a') [3, 0, 1, 0, 0, 0, 0, 0, 0] w3 hr3 (wantL_ok a') want_may want_body (by decide))
  have hb03 := fresh hb02 hb3
  clear hr3 hb3
  go_wp2_with fail
  refine P2.out.mono ?_
  rintro e w4 ⟨rfl, hb4⟩
  have hb04 := fresh hb03 hb4
  go_wp2_with fail
  go_ret
  exact ⟨rfl, hb04⟩
end Go.Proofs.Ytmkpfdcnikgokaa
