/-
  What place.split and place.part do. Condition: runs that may stand in a place.
-/
import Derived.Test.YtbjfmkdjnglgbaaPlaceSlices
import Derived.Deep.RegionHeld3
import Derived.Deep.DeepCutAuto
import Derived.IntWalk
namespace Go.Proofs.Ytbjfmkdjnglgbaa
open Go.RowKit
set_option linter.unusedSimpArgs false

set_option maxHeartbeats 1600000 in
set_option maxRecDepth 100000 in
theorem split_ok (t r m n : Int) (w : World) (h1 : 0 ≤ t) (h2 : t ≤ 1073741824) (h3 : 0 ≤ n) (h4 : n ≤ m) (h5 : m ≤ 4096) :
    Calls Try.prog 126 #[.agg #[.int .u32 t, .int .u8 r, .int .i64 m], .int .i64 n] w fun e w' => e = .returned (.tuple #[.agg #[.int .u32 t, .int .u8 r, .int .i64 n], .agg #[.int .u32 (t + n), .int .u8 r, .int .i64 (m - n)]]) ∧ Below w.heap.size w w' := by
  have e1 : IntKind.u32.wrap n = n := by simp [IntKind.wrap, IntKind.bits, IntKind.signed]; omega
  have e2 : IntKind.u32.wrap (t + n) = t + n := by simp [IntKind.wrap, IntKind.bits, IntKind.signed]; omega
  have e3 : IntKind.i64.wrap (m - n) = m - n := IntWalk.i64_in _ (by omega)
  go_enter Try.func126, Try.ntmps126
  go_wp2_with fail
  go_region_held3 (fun w' => w'.cell? ⟨w.heap.size, 0, none⟩ = some (.int .u32 t) ∧ w'.cell? ⟨w.heap.size, 1, none⟩ = some (.int .u8 r) ∧ w'.cell? ⟨w.heap.size, 2, none⟩ = some (.int .i64 m)) (go_keep) (fail)
  clear e1 e2 e3
  have hb := (((boxed w (.cells #[.int .u32 t, .int .u8 r, .int .i64 m] 41)).alloc (by simp) (.cells #[.int .u32 t, .int .u8 r, .int .i64 n] 41)).alloc (by simp; omega) (.cells #[.int .u32 (t + n), .int .u8 r, .int .i64 (m - n)] 41)).drew
  go_wp2_with fail
  exact bodyPost_ret (v := .tuple #[.agg #[.int .u32 t, .int .u8 r, .int .i64 n], .agg #[.int .u32 (t + n), .int .u8 r, .int .i64 (m - n)]]) (by simp [results, Try.results126, go_sem]) rfl ⟨rfl, hb⟩

/-- What part leaves of two lists of runs. -/
def partRel (a b a' b' : List Rn) : Prop := (∃ c, allR a = c ++ allR a' ∧ allR b = c ++ allR b') ∧ (∀ x ∈ a', oneR x ∧ okR x) ∧ (∀ x ∈ b', oneR x ∧ okR x)
/-- The heads differ, or one is at its end. -/
def parted (a b : List Rn) : Prop := match a, b with
  | x :: _, y :: _ => ¬ (x.1 = y.1 ∧ x.2.1 = y.2.1)
  | _, _ => True

/-- A slice of runs in a block of the call's own. -/
def SB (w : World) (g base : Nat) (A : Option Addr) (l : List Rn) (c : Nat) : Prop := l.length ≤ c ∧ (l ≠ [] → base ≤ g ∧ ∃ off cur, A = some ⟨g, off, none⟩ ∧ w.heap[g]? = some (.cells cur 41 (0, 0)) ∧ ∀ j u, (rns l)[j]? = some u → cur[off + j]? = some u)
theorem SB.rr {w : World} {g base c : Nat} {A : Option Addr} {l : List Rn} (h : SB w g base A l c) : RR w w.heap.size A l := by
  refine ⟨rns_len l, fun hn => ?_⟩
  obtain ⟨_, off, cur, rfl, hg, hc⟩ := h.2 (fun e => by rw [e] at hn; simp at hn)
  exact ⟨g, off, rfl, (Array.getElem?_eq_some_iff.1 hg).1, fun j u hu => by rw [cell_of_row _ _ _ _ _ _ hg]; exact hc j u hu⟩
theorem SB.below {w w' : World} {g base c : Nat} {A : Option Addr} {l : List Rn} (h : SB w g base A l c) (hb : Below w.heap.size w w') : SB w' g base A l c :=
  ⟨h.1, fun hn => by
    obtain ⟨h0, off, cur, h1, hg, hc⟩ := h.2 hn
    exact ⟨h0, off, cur, h1, (hb.block g (Array.getElem?_eq_some_iff.1 hg).1).trans hg, hc⟩⟩
/-- The three stores of a run. -/
def put3 (w : World) (g off : Nat) (x : Rn) : World := ((w.setCell ⟨g, off, none⟩ (.int .u32 x.1)).setCell ⟨g, off + 1, none⟩ (.int .u8 x.2.1)).setCell ⟨g, off + 2, none⟩ (.int .i64 x.2.2)
theorem put3_other (w : World) (g off : Nat) (x : Rn) (k : Nat) (h : k ≠ g) : (put3 w g off x).heap[k]? = w.heap[k]? := by
  unfold put3
  rw [heap_setCell_other _ _ _ _ h, heap_setCell_other _ _ _ _ h, heap_setCell_other _ _ _ _ h]
theorem put3_same (w : World) (g off : Nat) (x : Rn) {cs : Array Value} {t : TypeId} (hg : w.heap[g]? = some (.cells cs t (0, 0))) : (put3 w g off x).heap[g]? = some (.cells (((cs.setIfInBounds off (.int .u32 x.1)).setIfInBounds (off + 1) (.int .u8 x.2.1)).setIfInBounds (off + 2) (.int .i64 x.2.2)) t (0, 0)) := by
  unfold put3
  exact heap_setCell_same _ _ _ _ _ _ (heap_setCell_same _ _ _ _ _ _ (heap_setCell_same _ _ _ _ _ _ hg))
theorem put3_below {B : Nat} {w W : World} (h : Below B w W) (g off : Nat) (x : Rn) (hB : B ≤ g) : Below B w (put3 W g off x) := ((h.setCell hB _).setCell hB _).setCell hB _
theorem SB.other {w : World} {g base c : Nat} {A : Option Addr} {l : List Rn} (h : SB w g base A l c) {g' : Nat} (off : Nat) (x : Rn) (hne : l ≠ [] → g ≠ g') : SB (put3 w g' off x) g base A l c :=
  ⟨h.1, fun hn => by
    obtain ⟨h0, off', cur, h1, hg, hc⟩ := h.2 hn
    exact ⟨h0, off', cur, h1, (put3_other _ _ _ _ _ (hne hn)).trans hg, hc⟩⟩
theorem rns_cons (x : Rn) (l : List Rn) : rns (x :: l) = .int .u32 x.1 :: .int .u8 x.2.1 :: .int .i64 x.2.2 :: rns l := rfl
theorem SB.store {w : World} {g base c off : Nat} {x : Rn} {l : List Rn} (h : SB w g base (some ⟨g, off, none⟩) (x :: l) c) (y : Rn) : SB (put3 w g off y) g base (some ⟨g, off, none⟩) (y :: l) c :=
  ⟨by simpa using h.1, fun _ => by
    obtain ⟨h0, off', cur, h1, hg, hc⟩ := h.2 (by simp)
    simp only [Option.some.injEq, Addr.mk.injEq, true_and, and_true] at h1
    subst h1
    refine ⟨h0, off, _, rfl, put3_same w g off y hg, fun j u hu => ?_⟩
    have hx := fun j u (hu : (rns (x :: l))[j]? = some u) => (Array.getElem?_eq_some_iff.1 (hc j u hu)).1
    have b0 := hx 0 _ rfl
    have b1 := hx 1 _ rfl
    have b2 := hx 2 _ rfl
    rw [rns_cons] at hu
    simp only [Array.getElem?_setIfInBounds, Array.size_setIfInBounds]
    match j, hu with
    | 0, hu => simp at hu; subst hu; simp; omega
    | 1, hu => simp at hu; subst hu; simp; omega
    | 2, hu => simp at hu; subst hu; simp; omega
    | j + 3, hu =>
      have := hc (j + 3) u (by rw [rns_cons]; simpa using hu)
      rw [if_neg (by omega), if_neg (by omega), if_neg (by omega)]
      exact this⟩
theorem SB.tail {w : World} {g base c off : Nat} {x : Rn} {l : List Rn} (h : SB w g base (some ⟨g, off, none⟩) (x :: l) c) : SB w g base (some ⟨g, off + 3, none⟩) l (c - 1) := by
  have hlen := h.1
  simp only [List.length_cons] at hlen
  refine ⟨by omega, fun hn => ?_⟩
  obtain ⟨h0, off', cur, h1, hg, hc⟩ := h.2 (by simp)
  simp only [Option.some.injEq, Addr.mk.injEq, true_and, and_true] at h1
  subst h1
  refine ⟨h0, off + 3, cur, rfl, hg, fun j u hu => ?_⟩
  have := hc (j + 3) u (by rw [rns_cons]; simpa using hu)
  rw [show off + 3 + j = off + (j + 3) by omega]
  exact this
theorem SB.end_ {w : World} {g base c : Nat} {A A' : Option Addr} {x : Rn} {l : List Rn} (h : SB w g base A (x :: l) c) (hc1 : c = 1) : SB w g base A' l (c - 1) := by
  have hlen := h.1
  simp only [List.length_cons] at hlen
  have : l = [] := List.eq_nil_of_length_eq_zero (by omega)
  subst this
  exact ⟨by simp, fun hn => absurd rfl hn⟩

theorem SB.weaken {w : World} {g base base' c : Nat} {A : Option Addr} {l : List Rn} (h : SB w g base A l c) (hb : base' ≤ base) : SB w g base' A l c :=
  ⟨h.1, fun hn => by obtain ⟨h0, r⟩ := h.2 hn; exact ⟨Nat.le_trans hb h0, r⟩⟩

theorem partRel_step {a b a' b' : List Rn} {t r m m2 : Int} (h : partRel a b ((t, r, m) :: a') ((t, r, m2) :: b')) :
    (m = m2 → partRel a b a' b') ∧ (m < m2 → partRel a b a' ((t + m, r, m2 - m) :: b')) ∧ (m2 < m → partRel a b ((t + m2, r, m - m2) :: a') b') := by
  obtain ⟨⟨c, h1, h2⟩, h3, h4⟩ := h
  have g1 := h3 _ List.mem_cons_self
  have g2 := h4 _ List.mem_cons_self
  have h3' : ∀ x ∈ a', oneR x ∧ okR x := fun x hx => h3 x (List.mem_cons_of_mem _ hx)
  have h4' : ∀ x ∈ b', oneR x ∧ okR x := fun x hx => h4 x (List.mem_cons_of_mem _ hx)
  obtain ⟨⟨q1, q2, q3, q4, q5, q6⟩, p1, p2, p3, p4, p5, p6⟩ := g1
  obtain ⟨⟨s1, s2, s3, s4, s5, s6⟩, _, _, _, _, n5, n6⟩ := g2
  simp only at q1 q2 q3 q4 q5 q6 p1 p2 p3 p4 p5 p6 s4 s5 s6 n5 n6
  refine ⟨fun e => ?_, fun e => ?_, fun e => ?_⟩
  · subst e
    exact ⟨⟨c ++ ofR (t, r, m), by rw [h1, allR_cons, List.append_assoc], by rw [h2, allR_cons, List.append_assoc]⟩, h3', h4'⟩
  · have hk : ((m.toNat : Nat) : Int) = m := by omega
    have hc := ofR_cut (t, r, m2) m.toNat (by simp only; omega)
    simp only [hk] at hc
    refine ⟨⟨c ++ ofR (t, r, m), by rw [h1, allR_cons, List.append_assoc], by rw [h2, allR_cons, hc, allR_cons]; simp only [List.append_assoc]⟩, h3', fun x hx => ?_⟩
    rcases List.mem_cons.1 hx with rfl | hx
    · exact ⟨⟨by simp only; omega, by simp only; omega, q3, by simp only; omega, by simp only; omega, by simp only; omega⟩, by simp only; omega, by simp only; omega, p3, p4, by simp only; omega, by simp only; omega⟩
    · exact h4' x hx
  · have hk : ((m2.toNat : Nat) : Int) = m2 := by omega
    have hc := ofR_cut (t, r, m) m2.toNat (by simp only; omega)
    simp only [hk] at hc
    refine ⟨⟨c ++ ofR (t, r, m2), by rw [h1, allR_cons, hc, allR_cons]; simp only [List.append_assoc], by rw [h2, allR_cons, List.append_assoc]⟩, fun x hx => ?_, h4'⟩
    rcases List.mem_cons.1 hx with rfl | hx
    · exact ⟨⟨by simp only; omega, by simp only; omega, q3, by simp only; omega, by simp only; omega, by simp only; omega⟩, by simp only; omega, by simp only; omega, p3, p4, by simp only; omega, by simp only; omega⟩
    · exact h3' x hx

/-- What the label's passes hold. -/
def PJ (w : World) (g1 g2 : Nat) (a b a' b' : List Rn) (A' B' : Option Addr) (c' d' : Nat) (wr : World) : Prop :=
  SB wr g1 w.heap.size A' a' c' ∧ SB wr g2 w.heap.size B' b' d' ∧ partRel a b a' b' ∧ (a' ≠ [] → b' ≠ [] → g1 ≠ g2) ∧ Below w.heap.size w wr ∧ a'.length < 1073741824 ∧ b'.length < 1073741824
/-- How long a slice is. -/
def lenOf (v : Value) : Nat := match v with | .slice _ n _ => n | _ => 0
def PK (w : World) (a b : List Rn) (a0 : Act) (wr : World) : Prop := ∃ (g1 g2 : Nat) (a' b' : List Rn) (A' B' : Option Addr) (c' d' : Nat) (u6 u7 u8 u9 u10 u11 u12 u13 u14 u15 u16 u17 u18 u19 u20 u21 u22 u23 u24 u25 u26 u27 u28 u29 u30 u31 u32 u33 u34 u35 u36 u37 u38 u39 u40 u41 u42 u43 u44 u45 u46 u47 u48 u49 u50 u51 u52 u53 u54 u55 u56 u57 u58 u59 u60 u61 u62 u63 u64 u65 u66 u67 u68 u69 u70 u71 u72 u73 u74 : Value), PJ w g1 g2 a b a' b' A' B' c' d' wr ∧ a0 = { tmps := (Value.slice A' a'.length c' :: Value.slice B' b'.length d' :: undef :: undef :: Value.slice none 0 0 :: Value.slice none 0 0 :: u6 :: u7 :: u8 :: u9 :: u10 :: u11 :: u12 :: u13 :: u14 :: u15 :: u16 :: u17 :: u18 :: u19 :: u20 :: u21 :: u22 :: u23 :: u24 :: u25 :: u26 :: u27 :: u28 :: u29 :: u30 :: u31 :: u32 :: u33 :: u34 :: u35 :: u36 :: u37 :: u38 :: u39 :: u40 :: u41 :: u42 :: u43 :: u44 :: u45 :: u46 :: u47 :: u48 :: u49 :: u50 :: u51 :: u52 :: u53 :: u54 :: u55 :: u56 :: u57 :: u58 :: u59 :: u60 :: u61 :: u62 :: u63 :: u64 :: u65 :: u66 :: u67 :: u68 :: u69 :: u70 :: u71 :: u72 :: u73 :: u74 :: []).toArray, defers := [] }
/-- How long the two slices are. -/
def mu2 (a0 : Act) (_ : World) : Nat := lenOf (a0.tmps.getD 0 undef) + lenOf (a0.tmps.getD 1 undef)
theorem own_SB {w : World} {base n c : Nat} {A : Option Addr} {l : List Rn} (h : w.ownsRow base 41 3 (.slice A n c) n (rns l)) (hn : l.length = n) (hc : n ≤ c) : ∃ g, SB w g base A l c ∧ (l ≠ [] → base ≤ g ∧ g < w.heap.size) := by
  subst hn
  by_cases hl : l = []
  · exact ⟨0, ⟨hc, fun h => absurd hl h⟩, fun h => absurd hl h⟩
  · have hpos : 0 < l.length := List.length_pos_iff.2 hl
    rcases h.2 with ⟨hv, hn⟩ | ⟨g, cap, cur, hv, hb, hg, _, _, _, hx⟩
    · omega
    · simp only [Value.slice.injEq, true_and] at hv
      obtain ⟨rfl, rfl⟩ := hv
      refine ⟨g, ⟨hc, fun _ => ⟨hb, 0, cur, rfl, hg, fun j u hu => ?_⟩⟩, fun _ => ⟨hb, (Array.getElem?_eq_some_iff.1 hg).1⟩⟩
      rw [← hx, List.getElem?_take] at hu
      split at hu
      · rw [Nat.zero_add, ← Array.getElem?_toList]; exact hu
      · cases hu

set_option maxHeartbeats 40000000 in
set_option maxRecDepth 100000 in
theorem part_ok (A B : Option Addr) (n k c d : Nat) (a b : List Rn) (w : World) (hr : RR w w.heap.size A a) (hs : RR w w.heap.size B b) (hn : a.length = n) (hk : b.length = k) (hl : n < 1073741824) (hm : k < 1073741824)
    (hA : A = none → c = 0) (hB : B = none → d = 0) (ha : ∀ x ∈ a, oneR x ∧ okR x) (hb : ∀ x ∈ b, oneR x ∧ okR x) :
    Calls Try.prog 93 #[.slice A n c, .slice B k d] w fun e w' => ∃ A' B' c' d' a' b', e = .returned (.tuple #[.slice A' (List.length (α := Rn) a') c', .slice B' (List.length (α := Rn) b') d']) ∧ RR w' w'.heap.size A' a' ∧ RR w' w'.heap.size B' b' ∧ partRel a b a' b' ∧ parted a' b' ∧ Below w.heap.size w w' := by
  have C1 := hide (rclone_any A n c a w hr hn hl hA)
  have C2 := hide (fun w h => rclone_any B k d b w h hk hm hB)
  subst hn hk
  have Ha := hide ha
  have Hb := hide hb
  clear hA hB ha hb
  go_enter Try.func93, Try.ntmps93
  go_wp2_with fail
  refine wp_scope_goto 0 (PK w a b)
    mu2 rfl ?_ ?_
  · intro K hK
    go_wp2_with fail
    refine (unhide C1).mono ?_
    rintro e w1 ⟨v1, rfl, hown1, hb1⟩
    go_wp2_with fail
    refine (unhide C2 w1 (RR.below' hs hb1)).mono ?_
    rintro e w2 ⟨v2, rfl, hown2, hb2⟩
    obtain ⟨A1, c1, rfl, hc1, -, -⟩ := own_slice hown1
    obtain ⟨A2, c2, rfl, hc2, -, -⟩ := own_slice hown2
    obtain ⟨g1, S1, q1⟩ := own_SB hown1 rfl hc1
    obtain ⟨g2, S2, q2⟩ := own_SB hown2 rfl hc2
    go_wp2_with fail
    go_step3
    go_step
    try go_step
    refine hK _ _ ⟨g1, g2, a, b, A1, A2, c1, c2, _, _, _, _, _, _, _, _, _, _, _, _, _, _, _, _, _, _, _, _, _, _, _, _, _, _, _, _, _, _, _, _, _, _, _, _, _, _, _, _, _, _, _, _, _, _, _, _, _, _, _, _, _, _, _, _, _, _, _, _, _, _, _, _, _, _, _, _, _, ⟨S1.below hb2, S2.weaken hb1.size, ⟨⟨[], rfl, rfl⟩, Ha.out, Hb.out⟩, fun h1 h2 => by have := (q1 h1).2; have := (q2 h2).1; omega, fresh hb1 hb2, hl, hm⟩, rfl⟩
  · rintro a0 wr ⟨g1, g2, a', b', A', B', c', d', u6, u7, u8, u9, u10, u11, u12, u13, u14, u15, u16, u17, u18, u19, u20, u21, u22, u23, u24, u25, u26, u27, u28, u29, u30, u31, u32, u33, u34, u35, u36, u37, u38, u39, u40, u41, u42, u43, u44, u45, u46, u47, u48, u49, u50, u51, u52, u53, u54, u55, u56, u57, u58, u59, u60, u61, u62, u63, u64, u65, u66, u67, u68, u69, u70, u71, u72, u73, u74, ⟨S1, S2, hrel, hgg, hbw, ll, lm⟩, rfl⟩
    have Hrel := hide hrel
    have Hgg := hide hgg
    clear hrel hgg
    cases a' with
    | nil =>
      have hr' := S1.rr
      have hs' := S2.rr
      go_wp2_with fail
      go_quiet (fail)
      go_wp2_with fail
      simp only [Exit.jump]
      go_ret2
      exact ⟨A', B', c', d', [], b', rfl, RD.drewN hr' _, RD.drewN hs' _, Hrel.out, trivial, below_drewN hbw _⟩
    | cons x a' =>
      cases b' with
      | nil =>
        have hr' := S1.rr
        have hs' := S2.rr
        have hz1 : ((a'.length : Int) + 1 == 0) = false := by simp; omega
        go_wp2_with fail
        go_quiet (fail)
        go_wp2_with fail
        simp only [Exit.jump]
        go_ret2
        exact ⟨A', B', c', d', x :: a', [], rfl, RD.drewN hr' _, RD.drewN hs' _, Hrel.out, trivial, below_drewN hbw _⟩
      | cons y b' =>
        obtain ⟨t, r, m⟩ := x
        obtain ⟨t2, r2, m2⟩ := y
        have hz1 : ((a'.length : Int) + 1 == 0) = false := by simp; omega
        have hz2 : ((b'.length : Int) + 1 == 0) = false := by simp; omega
        have ho1 := Hrel.out.2.1 _ List.mem_cons_self
        have ho2 := Hrel.out.2.2 _ List.mem_cons_self
        obtain ⟨⟨q1, q2, q3, q4, q5, q6⟩, p1, p2, p3, p4, -, -⟩ := ho1
        obtain ⟨⟨s1, s2, s3, s4, s5, s6⟩, n1, n2, n3, n4, -, -⟩ := ho2
        simp only at q1 q2 q3 q4 q5 q6 p1 p2 p3 p4 s1 s2 s3 s4 s5 s6 n1 n2 n3 n4
        obtain ⟨hgb1, o1, cur1, rfl, hg1, -⟩ := id (S1.2 (by simp))
        obtain ⟨hgb2, o2, cur2, rfl, hg2, -⟩ := id (S2.2 (by simp))
        have hgl1 := (Array.getElem?_eq_some_iff.1 hg1).1
        have hgl2 := (Array.getElem?_eq_some_iff.1 hg2).1
        obtain ⟨b1, f1, e1, -, hC1⟩ := RR.cell S1.rr (by simp)
        obtain ⟨b2, f2, e2, -, hC2⟩ := RR.cell S2.rr (by simp)
        simp only [Option.some.injEq, Addr.mk.injEq, and_true] at e1 e2
        obtain ⟨rfl, rfl⟩ := e1
        obtain ⟨rfl, rfl⟩ := e2
        obtain ⟨x0, x1, x2⟩ := hC1 0 (by simp)
        obtain ⟨y0, y1, y2⟩ := hC2 0 (by simp)
        simp only [List.getElem_cons_zero, Nat.zero_mul, Nat.add_zero] at x0 x1 x2 y0 y1 y2
        clear hC1 hC2 hg1 hg2
        have hl1 : a'.length + 1 ≤ c' := by have := S1.1; simpa using this
        have hl2 : b'.length + 1 ≤ d' := by have := S2.1; simpa using this
        by_cases hne : t = t2 ∧ r = r2
        · obtain ⟨rfl, rfl⟩ := hne
          have hgne := Hgg.out (by simp) (by simp)
          have hgne' := Ne.symm hgne
          have S1' := hide S1
          have S2' := hide S2
          have lll := ll
          have llm := lm
          clear S1 S2 hl hm hr hs ll lm
          have hr5 : Hid (((a'.length : Int) + 1 == 0) = false) := hide hz1
          go_wp2_with fail
          refine wp_region_past (by kernel_rfl) (by kernel_rfl) ?_
          repeat (quiet_step ((go_at_call 90; exact past_call (first_ok _ _ _ _))))
          refine wpQuiet_nil ?_
          intro w3 hw3
          obtain ⟨u, rfl⟩ := hw3
          have hbp := below_past wr u
          replace x0 := keep_cell hbp hgl1 x0
          replace x1 := keep_cell hbp hgl1 x1
          replace x2 := keep_cell hbp hgl1 x2
          replace y0 := keep_cell hbp hgl2 y0
          replace y1 := keep_cell hbp hgl2 y1
          replace y2 := keep_cell hbp hgl2 y2
          replace hgl1 := Nat.lt_of_lt_of_le hgl1 hbp.size
          replace hgl2 := Nat.lt_of_lt_of_le hgl2 hbp.size
          replace S1' := hide (SB.below S1'.out hbp)
          replace S2' := hide (SB.below S2'.out hbp)
          replace hbw := fresh hbw hbp
          clear hbp
          generalize past wr u = W at x0 x1 x2 y0 y1 y2 hgl1 hgl2 S1' S2' hbw ⊢
          rcases Int.lt_trichotomy m m2 with hm | hm | hm
          · have hrel' := hide ((partRel_step Hrel.out).2.1 hm)
            have hn0 : (m2 - m == 0) = false := by simp; omega
            have hcA : c' = 1 ∨ ¬ c' = 1 := by omega
            rcases hcA with rfl | hcA
            · obtain rfl : a' = [] := List.eq_nil_of_length_eq_zero (by omega)
              go_wp2_with fail
              go_quiet (fail)
              go_wp2_with fail
              have hbp := below_drewN (Below.refl W.heap.size W) nq
              replace x0 := keep_cell hbp hgl1 x0
              replace x1 := keep_cell hbp hgl1 x1
              replace x2 := keep_cell hbp hgl1 x2
              replace y0 := keep_cell hbp hgl2 y0
              replace y1 := keep_cell hbp hgl2 y1
              replace y2 := keep_cell hbp hgl2 y2
              replace hgl1 := Nat.lt_of_lt_of_le hgl1 hbp.size
              replace hgl2 := Nat.lt_of_lt_of_le hgl2 hbp.size
              replace S1' := hide (SB.below S1'.out hbp)
              replace S2' := hide (SB.below S2'.out hbp)
              replace hbw := fresh hbw hbp
              clear hbp
              generalize W.drewN nq = W4 at x0 x1 x2 y0 y1 y2 hgl1 hgl2 S1' S2' hbw ⊢
              refine (split_ok t r m m W4 p1 q2 (by omega) (by omega) q5).mono ?_
              rintro e w5 ⟨rfl, hb5⟩
              replace x0 := keep_cell hb5 hgl1 x0
              replace x1 := keep_cell hb5 hgl1 x1
              replace x2 := keep_cell hb5 hgl1 x2
              replace y0 := keep_cell hb5 hgl2 y0
              replace y1 := keep_cell hb5 hgl2 y1
              replace y2 := keep_cell hb5 hgl2 y2
              replace hgl1 := Nat.lt_of_lt_of_le hgl1 hb5.size
              replace hgl2 := Nat.lt_of_lt_of_le hgl2 hb5.size
              replace S1' := hide (SB.below S1'.out hb5)
              replace S2' := hide (SB.below S2'.out hb5)
              replace hbw := fresh hbw hb5
              clear hb5
              obtain ⟨-, off5, cur5, -, hg5, -⟩ := S1'.out.2 (by simp)
              have z5 := frozen_of_row w5 g1 o1 cur5 _ hg5
              have z6 := frozen_of_row w5 g1 (o1 + 1) cur5 _ hg5
              have z7 := frozen_of_row w5 g1 (o1 + 2) cur5 _ hg5
              clear hg5
              go_wp2_with fail
              have E : ((w5.setCell ⟨g1, o1, none⟩ (.int .u32 (t + m))).setCell ⟨g1, o1 + 1, none⟩ (.int .u8 r)).setCell ⟨g1, o1 + 2, none⟩ (.int .i64 (0)) = put3 w5 g1 o1 (t + m, r, 0) := rfl
              rw [E]
              clear E x0 x1 x2 z5 z6 z7
              have o5 := put3_other w5 g1 o1 (t + m, r, 0) g2 hgne'
              replace y0 := (World.cell?_of_block (a := ⟨g2, o2, none⟩) o5).trans y0
              replace y1 := (World.cell?_of_block (a := ⟨g2, o2 + 1, none⟩) o5).trans y1
              replace y2 := (World.cell?_of_block (a := ⟨g2, o2 + 2, none⟩) o5).trans y2
              replace S1' := hide (SB.store S1'.out (t + m, r, 0))
              replace S2' := hide (SB.other S2'.out (g' := g1) o1 (t + m, r, 0) (fun _ => hgne'))
              replace hbw := put3_below hbw g1 o1 (t + m, r, 0) hgb1
              have hgl2b : g2 < (put3 w5 g1 o1 (t + m, r, 0)).heap.size := by
                have := Array.getElem?_eq_some_iff.1 ((put3_other w5 g1 o1 (t + m, r, 0) g2 hgne').trans (Array.getElem?_eq_getElem hgl2))
                exact this.1
              clear hgl2 hgl1 o5
              generalize put3 w5 g1 o1 (t + m, r, 0) = W6 at y0 y1 y2 hgl2b S1' S2' hbw ⊢
              refine (split_ok t r m2 m W6 p1 q2 (by omega) (by omega) (by omega)).mono ?_
              rintro e w7 ⟨rfl, hb7⟩
              replace y0 := keep_cell hb7 hgl2b y0
              replace y1 := keep_cell hb7 hgl2b y1
              replace y2 := keep_cell hb7 hgl2b y2
              replace S1' := hide (SB.below S1'.out hb7)
              replace S2' := hide (SB.below S2'.out hb7)
              replace hbw := fresh hbw hb7
              clear hb7
              obtain ⟨-, off7, cur7, -, hg7, -⟩ := S2'.out.2 (by simp)
              have z5 := frozen_of_row w7 g2 o2 cur7 _ hg7
              have z6 := frozen_of_row w7 g2 (o2 + 1) cur7 _ hg7
              have z7 := frozen_of_row w7 g2 (o2 + 2) cur7 _ hg7
              clear hg7
              go_wp2_with fail
              go_step3
              have E : ((w7.setCell ⟨g2, o2, none⟩ (.int .u32 (t + m))).setCell ⟨g2, o2 + 1, none⟩ (.int .u8 r)).setCell ⟨g2, o2 + 2, none⟩ (.int .i64 (m2 - m)) = put3 w7 g2 o2 (t + m, r, m2 - m) := rfl
              try rw [E]
              clear E
              have T1 := SB.other S1'.out (g' := g2) o2 (t + m, r, m2 - m) (fun _ => hgne)
              have T2 := SB.store S2'.out (t + m, r, m2 - m)
              have hbf := put3_below hbw g2 o2 (t + m, r, m2 - m) hgb2
              refine ⟨rfl, ⟨g1, g2, _, _, _, _, _, _, _, _, _, _, _, _, _, _, _, _, _, _, _, _, _, _, _, _, _, _, _, _, _, _, _, _, _, _, _, _, _, _, _, _, _, _, _, _, _, _, _, _, _, _, _, _, _, _, _, _, _, _, _, _, _, _, _, _, _, _, _, _, _, _, _, _, _, _, _, ⟨(SB.end_ (A' := some ⟨g1, o1, none⟩) T1 rfl), T2, hrel'.out, fun _ _ => hgne, hbf, by first | omega | (simp only [List.length_cons, List.length_nil] at lll llm ⊢; omega) | (simp at lll llm ⊢; omega) | (simp at lll ⊢; omega) | (simp at llm ⊢; omega) | simp, by first | omega | (simp only [List.length_cons, List.length_nil] at lll llm ⊢; omega) | (simp at lll llm ⊢; omega) | (simp at lll ⊢; omega) | (simp at llm ⊢; omega) | simp⟩, rfl⟩, ?_⟩
              unfold mu2 lenOf
              simp
              try omega
            · go_wp2_with fail
              go_quiet (fail)
              go_wp2_with fail
              have hbp := below_drewN (Below.refl W.heap.size W) nq
              replace x0 := keep_cell hbp hgl1 x0
              replace x1 := keep_cell hbp hgl1 x1
              replace x2 := keep_cell hbp hgl1 x2
              replace y0 := keep_cell hbp hgl2 y0
              replace y1 := keep_cell hbp hgl2 y1
              replace y2 := keep_cell hbp hgl2 y2
              replace hgl1 := Nat.lt_of_lt_of_le hgl1 hbp.size
              replace hgl2 := Nat.lt_of_lt_of_le hgl2 hbp.size
              replace S1' := hide (SB.below S1'.out hbp)
              replace S2' := hide (SB.below S2'.out hbp)
              replace hbw := fresh hbw hbp
              clear hbp
              generalize W.drewN nq = W4 at x0 x1 x2 y0 y1 y2 hgl1 hgl2 S1' S2' hbw ⊢
              refine (split_ok t r m m W4 p1 q2 (by omega) (by omega) q5).mono ?_
              rintro e w5 ⟨rfl, hb5⟩
              replace x0 := keep_cell hb5 hgl1 x0
              replace x1 := keep_cell hb5 hgl1 x1
              replace x2 := keep_cell hb5 hgl1 x2
              replace y0 := keep_cell hb5 hgl2 y0
              replace y1 := keep_cell hb5 hgl2 y1
              replace y2 := keep_cell hb5 hgl2 y2
              replace hgl1 := Nat.lt_of_lt_of_le hgl1 hb5.size
              replace hgl2 := Nat.lt_of_lt_of_le hgl2 hb5.size
              replace S1' := hide (SB.below S1'.out hb5)
              replace S2' := hide (SB.below S2'.out hb5)
              replace hbw := fresh hbw hb5
              clear hb5
              obtain ⟨-, off5, cur5, -, hg5, -⟩ := S1'.out.2 (by simp)
              have z5 := frozen_of_row w5 g1 o1 cur5 _ hg5
              have z6 := frozen_of_row w5 g1 (o1 + 1) cur5 _ hg5
              have z7 := frozen_of_row w5 g1 (o1 + 2) cur5 _ hg5
              clear hg5
              go_wp2_with fail
              have E : ((w5.setCell ⟨g1, o1, none⟩ (.int .u32 (t + m))).setCell ⟨g1, o1 + 1, none⟩ (.int .u8 r)).setCell ⟨g1, o1 + 2, none⟩ (.int .i64 (0)) = put3 w5 g1 o1 (t + m, r, 0) := rfl
              rw [E]
              clear E x0 x1 x2 z5 z6 z7
              have o5 := put3_other w5 g1 o1 (t + m, r, 0) g2 hgne'
              replace y0 := (World.cell?_of_block (a := ⟨g2, o2, none⟩) o5).trans y0
              replace y1 := (World.cell?_of_block (a := ⟨g2, o2 + 1, none⟩) o5).trans y1
              replace y2 := (World.cell?_of_block (a := ⟨g2, o2 + 2, none⟩) o5).trans y2
              replace S1' := hide (SB.store S1'.out (t + m, r, 0))
              replace S2' := hide (SB.other S2'.out (g' := g1) o1 (t + m, r, 0) (fun _ => hgne'))
              replace hbw := put3_below hbw g1 o1 (t + m, r, 0) hgb1
              have hgl2b : g2 < (put3 w5 g1 o1 (t + m, r, 0)).heap.size := by
                have := Array.getElem?_eq_some_iff.1 ((put3_other w5 g1 o1 (t + m, r, 0) g2 hgne').trans (Array.getElem?_eq_getElem hgl2))
                exact this.1
              clear hgl2 hgl1 o5
              generalize put3 w5 g1 o1 (t + m, r, 0) = W6 at y0 y1 y2 hgl2b S1' S2' hbw ⊢
              refine (split_ok t r m2 m W6 p1 q2 (by omega) (by omega) (by omega)).mono ?_
              rintro e w7 ⟨rfl, hb7⟩
              replace y0 := keep_cell hb7 hgl2b y0
              replace y1 := keep_cell hb7 hgl2b y1
              replace y2 := keep_cell hb7 hgl2b y2
              replace S1' := hide (SB.below S1'.out hb7)
              replace S2' := hide (SB.below S2'.out hb7)
              replace hbw := fresh hbw hb7
              clear hb7
              obtain ⟨-, off7, cur7, -, hg7, -⟩ := S2'.out.2 (by simp)
              have z5 := frozen_of_row w7 g2 o2 cur7 _ hg7
              have z6 := frozen_of_row w7 g2 (o2 + 1) cur7 _ hg7
              have z7 := frozen_of_row w7 g2 (o2 + 2) cur7 _ hg7
              clear hg7
              go_wp2_with fail
              go_step3
              have E : ((w7.setCell ⟨g2, o2, none⟩ (.int .u32 (t + m))).setCell ⟨g2, o2 + 1, none⟩ (.int .u8 r)).setCell ⟨g2, o2 + 2, none⟩ (.int .i64 (m2 - m)) = put3 w7 g2 o2 (t + m, r, m2 - m) := rfl
              try rw [E]
              clear E
              have T1 := SB.other S1'.out (g' := g2) o2 (t + m, r, m2 - m) (fun _ => hgne)
              have T2 := SB.store S2'.out (t + m, r, m2 - m)
              have hbf := put3_below hbw g2 o2 (t + m, r, m2 - m) hgb2
              refine ⟨rfl, ⟨g1, g2, _, _, _, _, _, _, _, _, _, _, _, _, _, _, _, _, _, _, _, _, _, _, _, _, _, _, _, _, _, _, _, _, _, _, _, _, _, _, _, _, _, _, _, _, _, _, _, _, _, _, _, _, _, _, _, _, _, _, _, _, _, _, _, _, _, _, _, _, _, _, _, _, _, _, _, ⟨T1.tail, T2, hrel'.out, fun _ _ => hgne, hbf, by first | omega | (simp only [List.length_cons, List.length_nil] at lll llm ⊢; omega) | (simp at lll llm ⊢; omega) | (simp at lll ⊢; omega) | (simp at llm ⊢; omega) | simp, by first | omega | (simp only [List.length_cons, List.length_nil] at lll llm ⊢; omega) | (simp at lll llm ⊢; omega) | (simp at lll ⊢; omega) | (simp at llm ⊢; omega) | simp⟩, rfl⟩, ?_⟩
              unfold mu2 lenOf
              simp
              try omega
          · have hrel' := hide ((partRel_step Hrel.out).1 hm)
            subst hm
            have hm : ¬ m < m := by omega
            have hcA : c' = 1 ∨ ¬ c' = 1 := by omega
            have hdB : d' = 1 ∨ ¬ d' = 1 := by omega
            rcases hcA with rfl | hcA <;> rcases hdB with rfl | hdB
            · obtain rfl : a' = [] := List.eq_nil_of_length_eq_zero (by omega)
              obtain rfl : b' = [] := List.eq_nil_of_length_eq_zero (by omega)
              go_wp2_with fail
              go_quiet (fail)
              go_wp2_with fail
              have hbp := below_drewN (Below.refl W.heap.size W) nq
              replace x0 := keep_cell hbp hgl1 x0
              replace x1 := keep_cell hbp hgl1 x1
              replace x2 := keep_cell hbp hgl1 x2
              replace y0 := keep_cell hbp hgl2 y0
              replace y1 := keep_cell hbp hgl2 y1
              replace y2 := keep_cell hbp hgl2 y2
              replace hgl1 := Nat.lt_of_lt_of_le hgl1 hbp.size
              replace hgl2 := Nat.lt_of_lt_of_le hgl2 hbp.size
              replace S1' := hide (SB.below S1'.out hbp)
              replace S2' := hide (SB.below S2'.out hbp)
              replace hbw := fresh hbw hbp
              clear hbp
              generalize W.drewN nq = W4 at x0 x1 x2 y0 y1 y2 hgl1 hgl2 S1' S2' hbw ⊢
              refine (split_ok t r m m W4 p1 q2 (by omega) (by omega) q5).mono ?_
              rintro e w5 ⟨rfl, hb5⟩
              replace x0 := keep_cell hb5 hgl1 x0
              replace x1 := keep_cell hb5 hgl1 x1
              replace x2 := keep_cell hb5 hgl1 x2
              replace y0 := keep_cell hb5 hgl2 y0
              replace y1 := keep_cell hb5 hgl2 y1
              replace y2 := keep_cell hb5 hgl2 y2
              replace hgl1 := Nat.lt_of_lt_of_le hgl1 hb5.size
              replace hgl2 := Nat.lt_of_lt_of_le hgl2 hb5.size
              replace S1' := hide (SB.below S1'.out hb5)
              replace S2' := hide (SB.below S2'.out hb5)
              replace hbw := fresh hbw hb5
              clear hb5
              obtain ⟨-, off5, cur5, -, hg5, -⟩ := S1'.out.2 (by simp)
              have z5 := frozen_of_row w5 g1 o1 cur5 _ hg5
              have z6 := frozen_of_row w5 g1 (o1 + 1) cur5 _ hg5
              have z7 := frozen_of_row w5 g1 (o1 + 2) cur5 _ hg5
              clear hg5
              go_wp2_with fail
              have E : ((w5.setCell ⟨g1, o1, none⟩ (.int .u32 (t + m))).setCell ⟨g1, o1 + 1, none⟩ (.int .u8 r)).setCell ⟨g1, o1 + 2, none⟩ (.int .i64 (0)) = put3 w5 g1 o1 (t + m, r, 0) := rfl
              rw [E]
              clear E x0 x1 x2 z5 z6 z7
              have o5 := put3_other w5 g1 o1 (t + m, r, 0) g2 hgne'
              replace y0 := (World.cell?_of_block (a := ⟨g2, o2, none⟩) o5).trans y0
              replace y1 := (World.cell?_of_block (a := ⟨g2, o2 + 1, none⟩) o5).trans y1
              replace y2 := (World.cell?_of_block (a := ⟨g2, o2 + 2, none⟩) o5).trans y2
              replace S1' := hide (SB.store S1'.out (t + m, r, 0))
              replace S2' := hide (SB.other S2'.out (g' := g1) o1 (t + m, r, 0) (fun _ => hgne'))
              replace hbw := put3_below hbw g1 o1 (t + m, r, 0) hgb1
              have hgl2b : g2 < (put3 w5 g1 o1 (t + m, r, 0)).heap.size := by
                have := Array.getElem?_eq_some_iff.1 ((put3_other w5 g1 o1 (t + m, r, 0) g2 hgne').trans (Array.getElem?_eq_getElem hgl2))
                exact this.1
              clear hgl2 hgl1 o5
              generalize put3 w5 g1 o1 (t + m, r, 0) = W6 at y0 y1 y2 hgl2b S1' S2' hbw ⊢
              refine (split_ok t r m m W6 p1 q2 (by omega) (by omega) (by omega)).mono ?_
              rintro e w7 ⟨rfl, hb7⟩
              replace y0 := keep_cell hb7 hgl2b y0
              replace y1 := keep_cell hb7 hgl2b y1
              replace y2 := keep_cell hb7 hgl2b y2
              replace S1' := hide (SB.below S1'.out hb7)
              replace S2' := hide (SB.below S2'.out hb7)
              replace hbw := fresh hbw hb7
              clear hb7
              obtain ⟨-, off7, cur7, -, hg7, -⟩ := S2'.out.2 (by simp)
              have z5 := frozen_of_row w7 g2 o2 cur7 _ hg7
              have z6 := frozen_of_row w7 g2 (o2 + 1) cur7 _ hg7
              have z7 := frozen_of_row w7 g2 (o2 + 2) cur7 _ hg7
              clear hg7
              go_wp2_with fail
              go_step3
              have E : ((w7.setCell ⟨g2, o2, none⟩ (.int .u32 (t + m))).setCell ⟨g2, o2 + 1, none⟩ (.int .u8 r)).setCell ⟨g2, o2 + 2, none⟩ (.int .i64 (0)) = put3 w7 g2 o2 (t + m, r, 0) := rfl
              try rw [E]
              clear E
              have T1 := SB.other S1'.out (g' := g2) o2 (t + m, r, 0) (fun _ => hgne)
              have T2 := SB.store S2'.out (t + m, r, 0)
              have hbf := put3_below hbw g2 o2 (t + m, r, 0) hgb2
              refine ⟨rfl, ⟨g1, g2, _, _, _, _, _, _, _, _, _, _, _, _, _, _, _, _, _, _, _, _, _, _, _, _, _, _, _, _, _, _, _, _, _, _, _, _, _, _, _, _, _, _, _, _, _, _, _, _, _, _, _, _, _, _, _, _, _, _, _, _, _, _, _, _, _, _, _, _, _, _, _, _, _, _, _, ⟨(SB.end_ (A' := some ⟨g1, o1, none⟩) T1 rfl), (SB.end_ (A' := some ⟨g2, o2, none⟩) T2 rfl), hrel'.out, fun _ _ => hgne, hbf, by first | omega | (simp only [List.length_cons, List.length_nil] at lll llm ⊢; omega) | (simp at lll llm ⊢; omega) | (simp at lll ⊢; omega) | (simp at llm ⊢; omega) | simp, by first | omega | (simp only [List.length_cons, List.length_nil] at lll llm ⊢; omega) | (simp at lll llm ⊢; omega) | (simp at lll ⊢; omega) | (simp at llm ⊢; omega) | simp⟩, rfl⟩, ?_⟩
              unfold mu2 lenOf
              simp
              try omega
            · obtain rfl : a' = [] := List.eq_nil_of_length_eq_zero (by omega)
              go_wp2_with fail
              go_quiet (fail)
              go_wp2_with fail
              have hbp := below_drewN (Below.refl W.heap.size W) nq
              replace x0 := keep_cell hbp hgl1 x0
              replace x1 := keep_cell hbp hgl1 x1
              replace x2 := keep_cell hbp hgl1 x2
              replace y0 := keep_cell hbp hgl2 y0
              replace y1 := keep_cell hbp hgl2 y1
              replace y2 := keep_cell hbp hgl2 y2
              replace hgl1 := Nat.lt_of_lt_of_le hgl1 hbp.size
              replace hgl2 := Nat.lt_of_lt_of_le hgl2 hbp.size
              replace S1' := hide (SB.below S1'.out hbp)
              replace S2' := hide (SB.below S2'.out hbp)
              replace hbw := fresh hbw hbp
              clear hbp
              generalize W.drewN nq = W4 at x0 x1 x2 y0 y1 y2 hgl1 hgl2 S1' S2' hbw ⊢
              refine (split_ok t r m m W4 p1 q2 (by omega) (by omega) q5).mono ?_
              rintro e w5 ⟨rfl, hb5⟩
              replace x0 := keep_cell hb5 hgl1 x0
              replace x1 := keep_cell hb5 hgl1 x1
              replace x2 := keep_cell hb5 hgl1 x2
              replace y0 := keep_cell hb5 hgl2 y0
              replace y1 := keep_cell hb5 hgl2 y1
              replace y2 := keep_cell hb5 hgl2 y2
              replace hgl1 := Nat.lt_of_lt_of_le hgl1 hb5.size
              replace hgl2 := Nat.lt_of_lt_of_le hgl2 hb5.size
              replace S1' := hide (SB.below S1'.out hb5)
              replace S2' := hide (SB.below S2'.out hb5)
              replace hbw := fresh hbw hb5
              clear hb5
              obtain ⟨-, off5, cur5, -, hg5, -⟩ := S1'.out.2 (by simp)
              have z5 := frozen_of_row w5 g1 o1 cur5 _ hg5
              have z6 := frozen_of_row w5 g1 (o1 + 1) cur5 _ hg5
              have z7 := frozen_of_row w5 g1 (o1 + 2) cur5 _ hg5
              clear hg5
              go_wp2_with fail
              have E : ((w5.setCell ⟨g1, o1, none⟩ (.int .u32 (t + m))).setCell ⟨g1, o1 + 1, none⟩ (.int .u8 r)).setCell ⟨g1, o1 + 2, none⟩ (.int .i64 (0)) = put3 w5 g1 o1 (t + m, r, 0) := rfl
              rw [E]
              clear E x0 x1 x2 z5 z6 z7
              have o5 := put3_other w5 g1 o1 (t + m, r, 0) g2 hgne'
              replace y0 := (World.cell?_of_block (a := ⟨g2, o2, none⟩) o5).trans y0
              replace y1 := (World.cell?_of_block (a := ⟨g2, o2 + 1, none⟩) o5).trans y1
              replace y2 := (World.cell?_of_block (a := ⟨g2, o2 + 2, none⟩) o5).trans y2
              replace S1' := hide (SB.store S1'.out (t + m, r, 0))
              replace S2' := hide (SB.other S2'.out (g' := g1) o1 (t + m, r, 0) (fun _ => hgne'))
              replace hbw := put3_below hbw g1 o1 (t + m, r, 0) hgb1
              have hgl2b : g2 < (put3 w5 g1 o1 (t + m, r, 0)).heap.size := by
                have := Array.getElem?_eq_some_iff.1 ((put3_other w5 g1 o1 (t + m, r, 0) g2 hgne').trans (Array.getElem?_eq_getElem hgl2))
                exact this.1
              clear hgl2 hgl1 o5
              generalize put3 w5 g1 o1 (t + m, r, 0) = W6 at y0 y1 y2 hgl2b S1' S2' hbw ⊢
              refine (split_ok t r m m W6 p1 q2 (by omega) (by omega) (by omega)).mono ?_
              rintro e w7 ⟨rfl, hb7⟩
              replace y0 := keep_cell hb7 hgl2b y0
              replace y1 := keep_cell hb7 hgl2b y1
              replace y2 := keep_cell hb7 hgl2b y2
              replace S1' := hide (SB.below S1'.out hb7)
              replace S2' := hide (SB.below S2'.out hb7)
              replace hbw := fresh hbw hb7
              clear hb7
              obtain ⟨-, off7, cur7, -, hg7, -⟩ := S2'.out.2 (by simp)
              have z5 := frozen_of_row w7 g2 o2 cur7 _ hg7
              have z6 := frozen_of_row w7 g2 (o2 + 1) cur7 _ hg7
              have z7 := frozen_of_row w7 g2 (o2 + 2) cur7 _ hg7
              clear hg7
              go_wp2_with fail
              go_step3
              have E : ((w7.setCell ⟨g2, o2, none⟩ (.int .u32 (t + m))).setCell ⟨g2, o2 + 1, none⟩ (.int .u8 r)).setCell ⟨g2, o2 + 2, none⟩ (.int .i64 (0)) = put3 w7 g2 o2 (t + m, r, 0) := rfl
              try rw [E]
              clear E
              have T1 := SB.other S1'.out (g' := g2) o2 (t + m, r, 0) (fun _ => hgne)
              have T2 := SB.store S2'.out (t + m, r, 0)
              have hbf := put3_below hbw g2 o2 (t + m, r, 0) hgb2
              refine ⟨rfl, ⟨g1, g2, _, _, _, _, _, _, _, _, _, _, _, _, _, _, _, _, _, _, _, _, _, _, _, _, _, _, _, _, _, _, _, _, _, _, _, _, _, _, _, _, _, _, _, _, _, _, _, _, _, _, _, _, _, _, _, _, _, _, _, _, _, _, _, _, _, _, _, _, _, _, _, _, _, _, _, ⟨(SB.end_ (A' := some ⟨g1, o1, none⟩) T1 rfl), T2.tail, hrel'.out, fun _ _ => hgne, hbf, by first | omega | (simp only [List.length_cons, List.length_nil] at lll llm ⊢; omega) | (simp at lll llm ⊢; omega) | (simp at lll ⊢; omega) | (simp at llm ⊢; omega) | simp, by first | omega | (simp only [List.length_cons, List.length_nil] at lll llm ⊢; omega) | (simp at lll llm ⊢; omega) | (simp at lll ⊢; omega) | (simp at llm ⊢; omega) | simp⟩, rfl⟩, ?_⟩
              unfold mu2 lenOf
              simp
              try omega
            · obtain rfl : b' = [] := List.eq_nil_of_length_eq_zero (by omega)
              go_wp2_with fail
              go_quiet (fail)
              go_wp2_with fail
              have hbp := below_drewN (Below.refl W.heap.size W) nq
              replace x0 := keep_cell hbp hgl1 x0
              replace x1 := keep_cell hbp hgl1 x1
              replace x2 := keep_cell hbp hgl1 x2
              replace y0 := keep_cell hbp hgl2 y0
              replace y1 := keep_cell hbp hgl2 y1
              replace y2 := keep_cell hbp hgl2 y2
              replace hgl1 := Nat.lt_of_lt_of_le hgl1 hbp.size
              replace hgl2 := Nat.lt_of_lt_of_le hgl2 hbp.size
              replace S1' := hide (SB.below S1'.out hbp)
              replace S2' := hide (SB.below S2'.out hbp)
              replace hbw := fresh hbw hbp
              clear hbp
              generalize W.drewN nq = W4 at x0 x1 x2 y0 y1 y2 hgl1 hgl2 S1' S2' hbw ⊢
              refine (split_ok t r m m W4 p1 q2 (by omega) (by omega) q5).mono ?_
              rintro e w5 ⟨rfl, hb5⟩
              replace x0 := keep_cell hb5 hgl1 x0
              replace x1 := keep_cell hb5 hgl1 x1
              replace x2 := keep_cell hb5 hgl1 x2
              replace y0 := keep_cell hb5 hgl2 y0
              replace y1 := keep_cell hb5 hgl2 y1
              replace y2 := keep_cell hb5 hgl2 y2
              replace hgl1 := Nat.lt_of_lt_of_le hgl1 hb5.size
              replace hgl2 := Nat.lt_of_lt_of_le hgl2 hb5.size
              replace S1' := hide (SB.below S1'.out hb5)
              replace S2' := hide (SB.below S2'.out hb5)
              replace hbw := fresh hbw hb5
              clear hb5
              obtain ⟨-, off5, cur5, -, hg5, -⟩ := S1'.out.2 (by simp)
              have z5 := frozen_of_row w5 g1 o1 cur5 _ hg5
              have z6 := frozen_of_row w5 g1 (o1 + 1) cur5 _ hg5
              have z7 := frozen_of_row w5 g1 (o1 + 2) cur5 _ hg5
              clear hg5
              go_wp2_with fail
              have E : ((w5.setCell ⟨g1, o1, none⟩ (.int .u32 (t + m))).setCell ⟨g1, o1 + 1, none⟩ (.int .u8 r)).setCell ⟨g1, o1 + 2, none⟩ (.int .i64 (0)) = put3 w5 g1 o1 (t + m, r, 0) := rfl
              rw [E]
              clear E x0 x1 x2 z5 z6 z7
              have o5 := put3_other w5 g1 o1 (t + m, r, 0) g2 hgne'
              replace y0 := (World.cell?_of_block (a := ⟨g2, o2, none⟩) o5).trans y0
              replace y1 := (World.cell?_of_block (a := ⟨g2, o2 + 1, none⟩) o5).trans y1
              replace y2 := (World.cell?_of_block (a := ⟨g2, o2 + 2, none⟩) o5).trans y2
              replace S1' := hide (SB.store S1'.out (t + m, r, 0))
              replace S2' := hide (SB.other S2'.out (g' := g1) o1 (t + m, r, 0) (fun _ => hgne'))
              replace hbw := put3_below hbw g1 o1 (t + m, r, 0) hgb1
              have hgl2b : g2 < (put3 w5 g1 o1 (t + m, r, 0)).heap.size := by
                have := Array.getElem?_eq_some_iff.1 ((put3_other w5 g1 o1 (t + m, r, 0) g2 hgne').trans (Array.getElem?_eq_getElem hgl2))
                exact this.1
              clear hgl2 hgl1 o5
              generalize put3 w5 g1 o1 (t + m, r, 0) = W6 at y0 y1 y2 hgl2b S1' S2' hbw ⊢
              refine (split_ok t r m m W6 p1 q2 (by omega) (by omega) (by omega)).mono ?_
              rintro e w7 ⟨rfl, hb7⟩
              replace y0 := keep_cell hb7 hgl2b y0
              replace y1 := keep_cell hb7 hgl2b y1
              replace y2 := keep_cell hb7 hgl2b y2
              replace S1' := hide (SB.below S1'.out hb7)
              replace S2' := hide (SB.below S2'.out hb7)
              replace hbw := fresh hbw hb7
              clear hb7
              obtain ⟨-, off7, cur7, -, hg7, -⟩ := S2'.out.2 (by simp)
              have z5 := frozen_of_row w7 g2 o2 cur7 _ hg7
              have z6 := frozen_of_row w7 g2 (o2 + 1) cur7 _ hg7
              have z7 := frozen_of_row w7 g2 (o2 + 2) cur7 _ hg7
              clear hg7
              go_wp2_with fail
              go_step3
              have E : ((w7.setCell ⟨g2, o2, none⟩ (.int .u32 (t + m))).setCell ⟨g2, o2 + 1, none⟩ (.int .u8 r)).setCell ⟨g2, o2 + 2, none⟩ (.int .i64 (0)) = put3 w7 g2 o2 (t + m, r, 0) := rfl
              try rw [E]
              clear E
              have T1 := SB.other S1'.out (g' := g2) o2 (t + m, r, 0) (fun _ => hgne)
              have T2 := SB.store S2'.out (t + m, r, 0)
              have hbf := put3_below hbw g2 o2 (t + m, r, 0) hgb2
              refine ⟨rfl, ⟨g1, g2, _, _, _, _, _, _, _, _, _, _, _, _, _, _, _, _, _, _, _, _, _, _, _, _, _, _, _, _, _, _, _, _, _, _, _, _, _, _, _, _, _, _, _, _, _, _, _, _, _, _, _, _, _, _, _, _, _, _, _, _, _, _, _, _, _, _, _, _, _, _, _, _, _, _, _, ⟨T1.tail, (SB.end_ (A' := some ⟨g2, o2, none⟩) T2 rfl), hrel'.out, fun _ _ => hgne, hbf, by first | omega | (simp only [List.length_cons, List.length_nil] at lll llm ⊢; omega) | (simp at lll llm ⊢; omega) | (simp at lll ⊢; omega) | (simp at llm ⊢; omega) | simp, by first | omega | (simp only [List.length_cons, List.length_nil] at lll llm ⊢; omega) | (simp at lll llm ⊢; omega) | (simp at lll ⊢; omega) | (simp at llm ⊢; omega) | simp⟩, rfl⟩, ?_⟩
              unfold mu2 lenOf
              simp
              try omega
            · go_wp2_with fail
              go_quiet (fail)
              go_wp2_with fail
              have hbp := below_drewN (Below.refl W.heap.size W) nq
              replace x0 := keep_cell hbp hgl1 x0
              replace x1 := keep_cell hbp hgl1 x1
              replace x2 := keep_cell hbp hgl1 x2
              replace y0 := keep_cell hbp hgl2 y0
              replace y1 := keep_cell hbp hgl2 y1
              replace y2 := keep_cell hbp hgl2 y2
              replace hgl1 := Nat.lt_of_lt_of_le hgl1 hbp.size
              replace hgl2 := Nat.lt_of_lt_of_le hgl2 hbp.size
              replace S1' := hide (SB.below S1'.out hbp)
              replace S2' := hide (SB.below S2'.out hbp)
              replace hbw := fresh hbw hbp
              clear hbp
              generalize W.drewN nq = W4 at x0 x1 x2 y0 y1 y2 hgl1 hgl2 S1' S2' hbw ⊢
              refine (split_ok t r m m W4 p1 q2 (by omega) (by omega) q5).mono ?_
              rintro e w5 ⟨rfl, hb5⟩
              replace x0 := keep_cell hb5 hgl1 x0
              replace x1 := keep_cell hb5 hgl1 x1
              replace x2 := keep_cell hb5 hgl1 x2
              replace y0 := keep_cell hb5 hgl2 y0
              replace y1 := keep_cell hb5 hgl2 y1
              replace y2 := keep_cell hb5 hgl2 y2
              replace hgl1 := Nat.lt_of_lt_of_le hgl1 hb5.size
              replace hgl2 := Nat.lt_of_lt_of_le hgl2 hb5.size
              replace S1' := hide (SB.below S1'.out hb5)
              replace S2' := hide (SB.below S2'.out hb5)
              replace hbw := fresh hbw hb5
              clear hb5
              obtain ⟨-, off5, cur5, -, hg5, -⟩ := S1'.out.2 (by simp)
              have z5 := frozen_of_row w5 g1 o1 cur5 _ hg5
              have z6 := frozen_of_row w5 g1 (o1 + 1) cur5 _ hg5
              have z7 := frozen_of_row w5 g1 (o1 + 2) cur5 _ hg5
              clear hg5
              go_wp2_with fail
              have E : ((w5.setCell ⟨g1, o1, none⟩ (.int .u32 (t + m))).setCell ⟨g1, o1 + 1, none⟩ (.int .u8 r)).setCell ⟨g1, o1 + 2, none⟩ (.int .i64 (0)) = put3 w5 g1 o1 (t + m, r, 0) := rfl
              rw [E]
              clear E x0 x1 x2 z5 z6 z7
              have o5 := put3_other w5 g1 o1 (t + m, r, 0) g2 hgne'
              replace y0 := (World.cell?_of_block (a := ⟨g2, o2, none⟩) o5).trans y0
              replace y1 := (World.cell?_of_block (a := ⟨g2, o2 + 1, none⟩) o5).trans y1
              replace y2 := (World.cell?_of_block (a := ⟨g2, o2 + 2, none⟩) o5).trans y2
              replace S1' := hide (SB.store S1'.out (t + m, r, 0))
              replace S2' := hide (SB.other S2'.out (g' := g1) o1 (t + m, r, 0) (fun _ => hgne'))
              replace hbw := put3_below hbw g1 o1 (t + m, r, 0) hgb1
              have hgl2b : g2 < (put3 w5 g1 o1 (t + m, r, 0)).heap.size := by
                have := Array.getElem?_eq_some_iff.1 ((put3_other w5 g1 o1 (t + m, r, 0) g2 hgne').trans (Array.getElem?_eq_getElem hgl2))
                exact this.1
              clear hgl2 hgl1 o5
              generalize put3 w5 g1 o1 (t + m, r, 0) = W6 at y0 y1 y2 hgl2b S1' S2' hbw ⊢
              refine (split_ok t r m m W6 p1 q2 (by omega) (by omega) (by omega)).mono ?_
              rintro e w7 ⟨rfl, hb7⟩
              replace y0 := keep_cell hb7 hgl2b y0
              replace y1 := keep_cell hb7 hgl2b y1
              replace y2 := keep_cell hb7 hgl2b y2
              replace S1' := hide (SB.below S1'.out hb7)
              replace S2' := hide (SB.below S2'.out hb7)
              replace hbw := fresh hbw hb7
              clear hb7
              obtain ⟨-, off7, cur7, -, hg7, -⟩ := S2'.out.2 (by simp)
              have z5 := frozen_of_row w7 g2 o2 cur7 _ hg7
              have z6 := frozen_of_row w7 g2 (o2 + 1) cur7 _ hg7
              have z7 := frozen_of_row w7 g2 (o2 + 2) cur7 _ hg7
              clear hg7
              go_wp2_with fail
              go_step3
              have E : ((w7.setCell ⟨g2, o2, none⟩ (.int .u32 (t + m))).setCell ⟨g2, o2 + 1, none⟩ (.int .u8 r)).setCell ⟨g2, o2 + 2, none⟩ (.int .i64 (0)) = put3 w7 g2 o2 (t + m, r, 0) := rfl
              try rw [E]
              clear E
              have T1 := SB.other S1'.out (g' := g2) o2 (t + m, r, 0) (fun _ => hgne)
              have T2 := SB.store S2'.out (t + m, r, 0)
              have hbf := put3_below hbw g2 o2 (t + m, r, 0) hgb2
              refine ⟨rfl, ⟨g1, g2, _, _, _, _, _, _, _, _, _, _, _, _, _, _, _, _, _, _, _, _, _, _, _, _, _, _, _, _, _, _, _, _, _, _, _, _, _, _, _, _, _, _, _, _, _, _, _, _, _, _, _, _, _, _, _, _, _, _, _, _, _, _, _, _, _, _, _, _, _, _, _, _, _, _, _, ⟨T1.tail, T2.tail, hrel'.out, fun _ _ => hgne, hbf, by first | omega | (simp only [List.length_cons, List.length_nil] at lll llm ⊢; omega) | (simp at lll llm ⊢; omega) | (simp at lll ⊢; omega) | (simp at llm ⊢; omega) | simp, by first | omega | (simp only [List.length_cons, List.length_nil] at lll llm ⊢; omega) | (simp at lll llm ⊢; omega) | (simp at lll ⊢; omega) | (simp at llm ⊢; omega) | simp⟩, rfl⟩, ?_⟩
              unfold mu2 lenOf
              simp
              try omega
          · have hrel' := hide ((partRel_step Hrel.out).2.2 hm)
            have hn0 : (m - m2 == 0) = false := by simp; omega
            have hm' : ¬ m < m2 := by omega
            have hdB : d' = 1 ∨ ¬ d' = 1 := by omega
            rcases hdB with rfl | hdB
            · obtain rfl : b' = [] := List.eq_nil_of_length_eq_zero (by omega)
              go_wp2_with fail
              go_quiet (fail)
              go_wp2_with fail
              have hbp := below_drewN (Below.refl W.heap.size W) nq
              replace x0 := keep_cell hbp hgl1 x0
              replace x1 := keep_cell hbp hgl1 x1
              replace x2 := keep_cell hbp hgl1 x2
              replace y0 := keep_cell hbp hgl2 y0
              replace y1 := keep_cell hbp hgl2 y1
              replace y2 := keep_cell hbp hgl2 y2
              replace hgl1 := Nat.lt_of_lt_of_le hgl1 hbp.size
              replace hgl2 := Nat.lt_of_lt_of_le hgl2 hbp.size
              replace S1' := hide (SB.below S1'.out hbp)
              replace S2' := hide (SB.below S2'.out hbp)
              replace hbw := fresh hbw hbp
              clear hbp
              generalize W.drewN nq = W4 at x0 x1 x2 y0 y1 y2 hgl1 hgl2 S1' S2' hbw ⊢
              refine (split_ok t r m m2 W4 p1 q2 (by omega) (by omega) q5).mono ?_
              rintro e w5 ⟨rfl, hb5⟩
              replace x0 := keep_cell hb5 hgl1 x0
              replace x1 := keep_cell hb5 hgl1 x1
              replace x2 := keep_cell hb5 hgl1 x2
              replace y0 := keep_cell hb5 hgl2 y0
              replace y1 := keep_cell hb5 hgl2 y1
              replace y2 := keep_cell hb5 hgl2 y2
              replace hgl1 := Nat.lt_of_lt_of_le hgl1 hb5.size
              replace hgl2 := Nat.lt_of_lt_of_le hgl2 hb5.size
              replace S1' := hide (SB.below S1'.out hb5)
              replace S2' := hide (SB.below S2'.out hb5)
              replace hbw := fresh hbw hb5
              clear hb5
              obtain ⟨-, off5, cur5, -, hg5, -⟩ := S1'.out.2 (by simp)
              have z5 := frozen_of_row w5 g1 o1 cur5 _ hg5
              have z6 := frozen_of_row w5 g1 (o1 + 1) cur5 _ hg5
              have z7 := frozen_of_row w5 g1 (o1 + 2) cur5 _ hg5
              clear hg5
              go_wp2_with fail
              have E : ((w5.setCell ⟨g1, o1, none⟩ (.int .u32 (t + m2))).setCell ⟨g1, o1 + 1, none⟩ (.int .u8 r)).setCell ⟨g1, o1 + 2, none⟩ (.int .i64 (m - m2)) = put3 w5 g1 o1 (t + m2, r, m - m2) := rfl
              rw [E]
              clear E x0 x1 x2 z5 z6 z7
              have o5 := put3_other w5 g1 o1 (t + m2, r, m - m2) g2 hgne'
              replace y0 := (World.cell?_of_block (a := ⟨g2, o2, none⟩) o5).trans y0
              replace y1 := (World.cell?_of_block (a := ⟨g2, o2 + 1, none⟩) o5).trans y1
              replace y2 := (World.cell?_of_block (a := ⟨g2, o2 + 2, none⟩) o5).trans y2
              replace S1' := hide (SB.store S1'.out (t + m2, r, m - m2))
              replace S2' := hide (SB.other S2'.out (g' := g1) o1 (t + m2, r, m - m2) (fun _ => hgne'))
              replace hbw := put3_below hbw g1 o1 (t + m2, r, m - m2) hgb1
              have hgl2b : g2 < (put3 w5 g1 o1 (t + m2, r, m - m2)).heap.size := by
                have := Array.getElem?_eq_some_iff.1 ((put3_other w5 g1 o1 (t + m2, r, m - m2) g2 hgne').trans (Array.getElem?_eq_getElem hgl2))
                exact this.1
              clear hgl2 hgl1 o5
              generalize put3 w5 g1 o1 (t + m2, r, m - m2) = W6 at y0 y1 y2 hgl2b S1' S2' hbw ⊢
              refine (split_ok t r m2 m2 W6 p1 q2 (by omega) (by omega) (by omega)).mono ?_
              rintro e w7 ⟨rfl, hb7⟩
              replace y0 := keep_cell hb7 hgl2b y0
              replace y1 := keep_cell hb7 hgl2b y1
              replace y2 := keep_cell hb7 hgl2b y2
              replace S1' := hide (SB.below S1'.out hb7)
              replace S2' := hide (SB.below S2'.out hb7)
              replace hbw := fresh hbw hb7
              clear hb7
              obtain ⟨-, off7, cur7, -, hg7, -⟩ := S2'.out.2 (by simp)
              have z5 := frozen_of_row w7 g2 o2 cur7 _ hg7
              have z6 := frozen_of_row w7 g2 (o2 + 1) cur7 _ hg7
              have z7 := frozen_of_row w7 g2 (o2 + 2) cur7 _ hg7
              clear hg7
              go_wp2_with fail
              go_step3
              have E : ((w7.setCell ⟨g2, o2, none⟩ (.int .u32 (t + m2))).setCell ⟨g2, o2 + 1, none⟩ (.int .u8 r)).setCell ⟨g2, o2 + 2, none⟩ (.int .i64 (0)) = put3 w7 g2 o2 (t + m2, r, 0) := rfl
              try rw [E]
              clear E
              have T1 := SB.other S1'.out (g' := g2) o2 (t + m2, r, 0) (fun _ => hgne)
              have T2 := SB.store S2'.out (t + m2, r, 0)
              have hbf := put3_below hbw g2 o2 (t + m2, r, 0) hgb2
              refine ⟨rfl, ⟨g1, g2, _, _, _, _, _, _, _, _, _, _, _, _, _, _, _, _, _, _, _, _, _, _, _, _, _, _, _, _, _, _, _, _, _, _, _, _, _, _, _, _, _, _, _, _, _, _, _, _, _, _, _, _, _, _, _, _, _, _, _, _, _, _, _, _, _, _, _, _, _, _, _, _, _, _, _, ⟨T1, (SB.end_ (A' := some ⟨g2, o2, none⟩) T2 rfl), hrel'.out, fun _ _ => hgne, hbf, by first | omega | (simp only [List.length_cons, List.length_nil] at lll llm ⊢; omega) | (simp at lll llm ⊢; omega) | (simp at lll ⊢; omega) | (simp at llm ⊢; omega) | simp, by first | omega | (simp only [List.length_cons, List.length_nil] at lll llm ⊢; omega) | (simp at lll llm ⊢; omega) | (simp at lll ⊢; omega) | (simp at llm ⊢; omega) | simp⟩, rfl⟩, ?_⟩
              unfold mu2 lenOf
              simp
              try omega
            · go_wp2_with fail
              go_quiet (fail)
              go_wp2_with fail
              have hbp := below_drewN (Below.refl W.heap.size W) nq
              replace x0 := keep_cell hbp hgl1 x0
              replace x1 := keep_cell hbp hgl1 x1
              replace x2 := keep_cell hbp hgl1 x2
              replace y0 := keep_cell hbp hgl2 y0
              replace y1 := keep_cell hbp hgl2 y1
              replace y2 := keep_cell hbp hgl2 y2
              replace hgl1 := Nat.lt_of_lt_of_le hgl1 hbp.size
              replace hgl2 := Nat.lt_of_lt_of_le hgl2 hbp.size
              replace S1' := hide (SB.below S1'.out hbp)
              replace S2' := hide (SB.below S2'.out hbp)
              replace hbw := fresh hbw hbp
              clear hbp
              generalize W.drewN nq = W4 at x0 x1 x2 y0 y1 y2 hgl1 hgl2 S1' S2' hbw ⊢
              refine (split_ok t r m m2 W4 p1 q2 (by omega) (by omega) q5).mono ?_
              rintro e w5 ⟨rfl, hb5⟩
              replace x0 := keep_cell hb5 hgl1 x0
              replace x1 := keep_cell hb5 hgl1 x1
              replace x2 := keep_cell hb5 hgl1 x2
              replace y0 := keep_cell hb5 hgl2 y0
              replace y1 := keep_cell hb5 hgl2 y1
              replace y2 := keep_cell hb5 hgl2 y2
              replace hgl1 := Nat.lt_of_lt_of_le hgl1 hb5.size
              replace hgl2 := Nat.lt_of_lt_of_le hgl2 hb5.size
              replace S1' := hide (SB.below S1'.out hb5)
              replace S2' := hide (SB.below S2'.out hb5)
              replace hbw := fresh hbw hb5
              clear hb5
              obtain ⟨-, off5, cur5, -, hg5, -⟩ := S1'.out.2 (by simp)
              have z5 := frozen_of_row w5 g1 o1 cur5 _ hg5
              have z6 := frozen_of_row w5 g1 (o1 + 1) cur5 _ hg5
              have z7 := frozen_of_row w5 g1 (o1 + 2) cur5 _ hg5
              clear hg5
              go_wp2_with fail
              have E : ((w5.setCell ⟨g1, o1, none⟩ (.int .u32 (t + m2))).setCell ⟨g1, o1 + 1, none⟩ (.int .u8 r)).setCell ⟨g1, o1 + 2, none⟩ (.int .i64 (m - m2)) = put3 w5 g1 o1 (t + m2, r, m - m2) := rfl
              rw [E]
              clear E x0 x1 x2 z5 z6 z7
              have o5 := put3_other w5 g1 o1 (t + m2, r, m - m2) g2 hgne'
              replace y0 := (World.cell?_of_block (a := ⟨g2, o2, none⟩) o5).trans y0
              replace y1 := (World.cell?_of_block (a := ⟨g2, o2 + 1, none⟩) o5).trans y1
              replace y2 := (World.cell?_of_block (a := ⟨g2, o2 + 2, none⟩) o5).trans y2
              replace S1' := hide (SB.store S1'.out (t + m2, r, m - m2))
              replace S2' := hide (SB.other S2'.out (g' := g1) o1 (t + m2, r, m - m2) (fun _ => hgne'))
              replace hbw := put3_below hbw g1 o1 (t + m2, r, m - m2) hgb1
              have hgl2b : g2 < (put3 w5 g1 o1 (t + m2, r, m - m2)).heap.size := by
                have := Array.getElem?_eq_some_iff.1 ((put3_other w5 g1 o1 (t + m2, r, m - m2) g2 hgne').trans (Array.getElem?_eq_getElem hgl2))
                exact this.1
              clear hgl2 hgl1 o5
              generalize put3 w5 g1 o1 (t + m2, r, m - m2) = W6 at y0 y1 y2 hgl2b S1' S2' hbw ⊢
              refine (split_ok t r m2 m2 W6 p1 q2 (by omega) (by omega) (by omega)).mono ?_
              rintro e w7 ⟨rfl, hb7⟩
              replace y0 := keep_cell hb7 hgl2b y0
              replace y1 := keep_cell hb7 hgl2b y1
              replace y2 := keep_cell hb7 hgl2b y2
              replace S1' := hide (SB.below S1'.out hb7)
              replace S2' := hide (SB.below S2'.out hb7)
              replace hbw := fresh hbw hb7
              clear hb7
              obtain ⟨-, off7, cur7, -, hg7, -⟩ := S2'.out.2 (by simp)
              have z5 := frozen_of_row w7 g2 o2 cur7 _ hg7
              have z6 := frozen_of_row w7 g2 (o2 + 1) cur7 _ hg7
              have z7 := frozen_of_row w7 g2 (o2 + 2) cur7 _ hg7
              clear hg7
              go_wp2_with fail
              go_step3
              have E : ((w7.setCell ⟨g2, o2, none⟩ (.int .u32 (t + m2))).setCell ⟨g2, o2 + 1, none⟩ (.int .u8 r)).setCell ⟨g2, o2 + 2, none⟩ (.int .i64 (0)) = put3 w7 g2 o2 (t + m2, r, 0) := rfl
              try rw [E]
              clear E
              have T1 := SB.other S1'.out (g' := g2) o2 (t + m2, r, 0) (fun _ => hgne)
              have T2 := SB.store S2'.out (t + m2, r, 0)
              have hbf := put3_below hbw g2 o2 (t + m2, r, 0) hgb2
              refine ⟨rfl, ⟨g1, g2, _, _, _, _, _, _, _, _, _, _, _, _, _, _, _, _, _, _, _, _, _, _, _, _, _, _, _, _, _, _, _, _, _, _, _, _, _, _, _, _, _, _, _, _, _, _, _, _, _, _, _, _, _, _, _, _, _, _, _, _, _, _, _, _, _, _, _, _, _, _, _, _, _, _, _, ⟨T1, T2.tail, hrel'.out, fun _ _ => hgne, hbf, by first | omega | (simp only [List.length_cons, List.length_nil] at lll llm ⊢; omega) | (simp at lll llm ⊢; omega) | (simp at lll ⊢; omega) | (simp at llm ⊢; omega) | simp, by first | omega | (simp only [List.length_cons, List.length_nil] at lll llm ⊢; omega) | (simp at lll llm ⊢; omega) | (simp at lll ⊢; omega) | (simp at llm ⊢; omega) | simp⟩, rfl⟩, ?_⟩
              unfold mu2 lenOf
              simp
              try omega
        · have Hne := hide (show parted ((t, r, m) :: a') ((t2, r2, m2) :: b') from hne)
          have hcs : (¬ t = t2) ∨ (t = t2 ∧ ¬ r = r2) := by
            by_cases h : t = t2
            · exact .inr ⟨h, fun h2 => hne ⟨h, h2⟩⟩
            · exact .inl h
          have hr' := S1.rr
          have hs' := S2.rr
          clear hne
          rcases hcs with h | ⟨rfl, h⟩
          all_goals
            go_wp2_with fail
            refine wp_region_past (by kernel_rfl) (by kernel_rfl) ?_
            repeat (quiet_step ((go_at_call 90; exact past_call (first_ok _ _ _ _))))
            refine wpQuiet_nil ?_
            intro w3 hw3
            obtain ⟨u, rfl⟩ := hw3
            have hbp := below_past wr u
            clear x0 x1 x2 y0 y1 y2
            go_wp2_with fail
            simp only [Exit.jump]
            go_ret2
            exact ⟨_, _, c', d', _, _, rfl, RR.below' hr' hbp, RR.below' hs' hbp, Hrel.out, Hne.out, fresh hbw hbp⟩
end Go.Proofs.Ytbjfmkdjnglgbaa
