/-
  Stamps: what stamp.Less, octavoref05.Less, stamp.Check, octavoref05.May do; slices of stamps. Condition: the parts of the stamps are of their types.
-/
import Derived.Test.YtbjfmkdjnglgbaaRows
import Derived.Test.YtbjfmkdjnglgbaaWords
import Derived.Test.YtbjfmkdjnglgbaaPast
import Derived.Test.YtbjfmkdjnglgbaaStampMath
namespace Go.Proofs.Ytbjfmkdjnglgbaa
open Go.RowKit

/-- A stamp as a value. -/
abbrev idv (t r : Int) : Value := .agg #[.int .u32 t, .int .u8 r]
theorem boxed (w : World) (o : Obj) : Below w.heap.size w (w.alloc o) := (Below.refl _ _).alloc (Nat.le_refl _) _

set_option maxHeartbeats 400000 in
set_option maxRecDepth 100000 in
theorem at_ok (t r : Int) (w : World) (h0 : 0 ≤ t) (g0 : 0 ≤ r) :
    Calls Try.prog 97 #[.agg #[.int .u32 t, .int .u8 r]] w fun e w' => e = .returned (.complex .f64 (fv t.toNat) (fv r.toNat)) ∧ Below w.heap.size w w' := by
  have e1 := hide (show floatOfInt .f64 t = fv t.toNat by unfold fv; rw [Int.toNat_of_nonneg h0])
  have e2 := hide (show floatOfInt .f64 r = fv r.toNat by unfold fv; rw [Int.toNat_of_nonneg g0])
  go_enter Try.func97, Try.ntmps97
  go_wp2_with fail
  go_ret
  refine ⟨?_, boxed _ _⟩
  show Ending.returned (Value.complex .f64 (floatOfInt .f64 t) (floatOfInt .f64 r)) = _
  rw [e1.out, e2.out]

/-- Which of two stamps is less. -/
def lessB (t r t' r' : Int) : Bool := decide (t < t' ∨ t = t' ∧ r < r')

/-- Two boxes, one behind the other. -/
theorem two_boxes (w : World) (a b c d : Value) (T T' : TypeId) : ∃ w2, (w.alloc (.cells #[a, b] T)).alloc (.cells #[c, d] T') = w2 ∧ w2.cell? ⟨w.heap.size, 0, none⟩ = some a ∧ w2.cell? ⟨w.heap.size, 1, none⟩ = some b ∧ w2.cell? ⟨w.heap.size + 1, 0, none⟩ = some c ∧ w2.cell? ⟨w.heap.size + 1, 1, none⟩ = some d ∧ w.heap.size + 1 < w2.heap.size ∧ Below w.heap.size w w2 := by
  refine ⟨_, rfl, ?_, ?_, ?_, ?_, ?_, (boxed _ _).trans ((boxed _ _).mono (by simp))⟩
  · rw [World.cell?_alloc_lt _ _ _ (by simp), World.cell?_alloc_new]; rfl
  · rw [World.cell?_alloc_lt _ _ _ (by simp), World.cell?_alloc_new]; rfl
  · simp
  · simp
  · simp

/-- The bits of 'real', 'imag' of a difference, and what the tests on them answer. -/
theorem df_cases (a b : Int) (h0 : 0 ≤ a) (h1 : a < 4294967296) (g0 : 0 ≤ b) (g1 : b < 4294967296) :
    ((FloatKind.f64.format.order (dfv b.toNat a.toNat) 0 == some .gt) = decide (a < b)) ∧ ((FloatKind.f64.format.order (dfv b.toNat a.toNat) 0 == some .eq) = decide (a = b)) := by
  rcases Int.lt_trichotomy a b with h | h | h
  · rw [dfv_gt _ _ (by omega) (by omega)]
    exact ⟨by rw [decide_eq_true h]; rfl, by rw [decide_eq_false (by omega)]; rfl⟩
  · subst h
    rw [dfv_eq]
    exact ⟨by rw [decide_eq_false (by omega)]; rfl, by rw [decide_eq_true rfl]; rfl⟩
  · rw [dfv_lt _ _ (by omega) (by omega)]
    exact ⟨by rw [decide_eq_false (by omega)]; rfl, by rw [decide_eq_false (by omega)]; rfl⟩

set_option maxHeartbeats 1600000 in
set_option maxRecDepth 100000 in
theorem less_any (t r t' r' : Int) (w : World) (h0 : 0 ≤ t) (h1 : t < 4294967296) (g0 : 0 ≤ r) (g1 : r < 256) (h0' : 0 ≤ t') (h1' : t' < 4294967296) (g0' : 0 ≤ r') (g1' : r' < 256) :
    Calls Try.prog 50 #[.agg #[.int .u32 t, .int .u8 r], .agg #[.int .u32 t', .int .u8 r']] w fun e w' => e = .returned (.bool (lessB t r t' r')) ∧ Below w.heap.size w w' := by
  obtain ⟨c1, c2⟩ := df_cases t t' h0 h1 h0' h1'
  obtain ⟨c3, c4⟩ := df_cases r r' g0 (by omega) g0' (by omega)
  have hsub := fun w => run_complex_sum (P := Try.prog) w .sub (.inr rfl) 109 .f64 _ _ _ _ _ _ (sub_pair t'.toNat r'.toNat t.toNat r.toNat (by omega) (by omega) (by omega) (by omega))
  have A1 := hide (fun w => at_ok t r w h0 g0)
  have A2 := hide (fun w => at_ok t' r' w h0' g0')
  generalize dfv t'.toNat t.toNat = x at c1 c2 hsub
  generalize dfv r'.toNat r.toNat = y at c3 c4 hsub
  generalize fv t.toNat = ft at A1 hsub
  generalize fv r.toNat = fr at A1 hsub
  generalize fv t'.toNat = ft' at A2 hsub
  generalize fv r'.toNat = fr' at A2 hsub
  clear c4 h1 h1' g1 g1' h0 h0' g0 g0'
  have C1 := hide c1
  have C2 := hide c2
  have C3 := hide c3
  clear c1 c2 c3
  obtain ⟨w2, hw2, k0, k1, k2, k3, hs2, hb2⟩ := two_boxes w (.int .u32 t) (.int .u8 r) (.int .u32 t') (.int .u8 r') 25 25
  have Hw2 := hide hw2
  clear hw2
  go_enter Try.func50, Try.ntmps50
  go_wp2_with fail
  rw [Hw2.out]
  have hs1 : w.heap.size < w2.heap.size := by omega
  generalize w.heap.size = g at k0 k1 k2 k3 hs2 hs1 ⊢
  refine wp_region_past (by kernel_rfl) (by kernel_rfl) ?_
  repeat (quiet_step ((first
        | (go_at_call_of 97 (Value.agg #[Value.int .u32 t, Value.int .u8 r]); exact past_call (unhide A1 _))
        | (go_at_call_of 97 (Value.agg #[Value.int .u32 t', Value.int .u8 r']); exact past_call (unhide A2 _)))))
  refine wpQuiet_nil ?_
  intro w3 hw3
  obtain ⟨u, rfl⟩ := hw3
  have hb3 := hb2.trans ((below_past w2 u).mono hb2.size)
  clear hsub k0 k1 k2 k3
  rcases Int.lt_trichotomy t t' with h | h | h
  · have d1 : (FloatKind.f64.format.order x 0 == some .gt) = true := C1.out.trans (decide_eq_true h)
    have hfin := hide (show lessB t r t' r' = true from decide_eq_true (.inl h))
    clear h
    go_wp2_with fail
    go_ret
    exact ⟨ret_bool hfin.out.symm, hb3⟩
  · have d1 : (FloatKind.f64.format.order x 0 == some .gt) = false := C1.out.trans (decide_eq_false (by omega))
    have d2 : (FloatKind.f64.format.order x 0 == some .eq) = true := C2.out.trans (decide_eq_true h)
    by_cases h2 : r < r'
    · have d3 : (FloatKind.f64.format.order y 0 == some .gt) = true := C3.out.trans (decide_eq_true h2)
      have hfin := hide (show lessB t r t' r' = true from decide_eq_true (.inr ⟨h, h2⟩))
      clear h h2
      go_wp2_with fail
      go_ret
      exact ⟨ret_bool hfin.out.symm, hb3⟩
    · have d3 : (FloatKind.f64.format.order y 0 == some .gt) = false := C3.out.trans (decide_eq_false h2)
      have hfin := hide (show lessB t r t' r' = false from decide_eq_false (by omega))
      clear h h2
      go_wp2_with fail
      go_ret
      exact ⟨ret_bool hfin.out.symm, hb3⟩
  · have d1 : (FloatKind.f64.format.order x 0 == some .gt) = false := C1.out.trans (decide_eq_false (by omega))
    have d2 : (FloatKind.f64.format.order x 0 == some .eq) = false := C2.out.trans (decide_eq_false (by omega))
    have hfin := hide (show lessB t r t' r' = false from decide_eq_false (by omega))
    clear h
    go_wp2_with fail
    go_ret
    exact ⟨ret_bool hfin.out.symm, hb3⟩

set_option maxHeartbeats 800000 in
set_option maxRecDepth 100000 in
theorem refless_any (t r t' r' : Int) (w : World) :
    Calls Try.prog 127 #[.agg #[.int .u32 t, .int .u8 r], .agg #[.int .u32 t', .int .u8 r']] w fun e w' => e = .returned (.bool (lessB t r t' r')) ∧ Below w.heap.size w w' := by
  obtain ⟨w2, hw2, -, -, -, -, -, hb2⟩ := two_boxes w (.int .u32 t) (.int .u8 r) (.int .u32 t') (.int .u8 r') 25 25
  subst hw2
  rcases Int.lt_trichotomy t t' with h | h | h
  · have hfin := hide (show lessB t r t' r' = true from decide_eq_true (.inl h))
    go_enter Try.func127, Try.ntmps127
    go_wp2_with fail
    go_ret
    exact ⟨ret_bool hfin.out.symm, hb2⟩
  · subst h
    have h1 : ¬ t < t := by omega
    by_cases h2 : r < r'
    · have hfin := hide (show lessB t r t r' = true from decide_eq_true (.inr ⟨rfl, h2⟩))
      go_enter Try.func127, Try.ntmps127
      go_wp2_with fail
      go_ret
      exact ⟨ret_bool hfin.out.symm, hb2⟩
    · have hfin := hide (show lessB t r t r' = false from decide_eq_false (by omega))
      go_enter Try.func127, Try.ntmps127
      go_wp2_with fail
      go_ret
      exact ⟨ret_bool hfin.out.symm, hb2⟩
  · have hfin := hide (show lessB t r t' r' = false from decide_eq_false (by omega))
    have h1 : ¬ t < t' := by omega
    have h2 : (t == t') = false := by simp; omega
    clear h
    go_enter Try.func127, Try.ntmps127
    go_wp2_with fail
    go_ret
    exact ⟨ret_bool hfin.out.symm, hb2⟩

/-- May a stamp be? -/
def mayI (t r : Int) : Prop := 1 ≤ t ∧ t ≤ 1073741824 ∧ r < 8
instance (t r : Int) : Decidable (mayI t r) := by unfold mayI; infer_instance

set_option maxHeartbeats 800000 in
set_option maxRecDepth 100000 in
theorem scheck_yes (t r : Int) (w : World) (h : mayI t r) :
    Calls Try.prog 81 #[.agg #[.int .u32 t, .int .u8 r]] w fun e w' => e = .returned (.int .i64 0) ∧ Below w.heap.size w w' := by
  obtain ⟨h1, h2, h3⟩ := h
  have g1 : ¬ t < 1 := by omega
  have g2 : ¬ 1073741824 < t := by omega
  have g3 : ¬ 8 ≤ r := by omega
  clear h1 h2 h3
  go_enter Try.func81, Try.ntmps81
  go_wp2_with fail
  go_ret
  exact ⟨rfl, boxed _ _⟩
set_option maxHeartbeats 800000 in
set_option maxRecDepth 100000 in
theorem scheck_no (t r : Int) (w : World) (h : ¬ mayI t r) :
    Calls Try.prog 81 #[.agg #[.int .u32 t, .int .u8 r]] w fun e w' => e = .returned (.int .i64 8) ∧ Below w.heap.size w w' := by
  have hc : t < 1 ∨ (¬ t < 1 ∧ 1073741824 < t) ∨ (¬ t < 1 ∧ ¬ 1073741824 < t ∧ 8 ≤ r) := by unfold mayI at h; omega
  clear h
  rcases hc with h1 | ⟨h1, h2⟩ | ⟨h1, h2, h3⟩
  all_goals
    go_enter Try.func81, Try.ntmps81
    go_wp2_with fail
    go_ret
    exact ⟨rfl, boxed _ _⟩
set_option maxHeartbeats 800000 in
set_option maxRecDepth 100000 in
theorem refmay_any (t r : Int) (w : World) :
    Calls Try.prog 83 #[.agg #[.int .u32 t, .int .u8 r]] w fun e w' => e = .returned (.bool (decide (mayI t r))) ∧ Below w.heap.size w w' := by
  by_cases h : mayI t r
  · have hfin := hide (decide_eq_true h)
    obtain ⟨h1, h2, h3⟩ := h
    go_enter Try.func83, Try.ntmps83
    go_wp2_with fail
    go_ret
    exact ⟨ret_bool hfin.out.symm, boxed _ _⟩
  · have hfin := hide (decide_eq_false h)
    have hc : ¬ 1 ≤ t ∨ (1 ≤ t ∧ ¬ t ≤ 1073741824) ∨ (1 ≤ t ∧ t ≤ 1073741824 ∧ ¬ r < 8) := by unfold mayI at h; omega
    clear h
    rcases hc with h1 | ⟨h1, h2⟩ | ⟨h1, h2, h3⟩
    all_goals
      go_enter Try.func83, Try.ntmps83
      go_wp2_with fail
      go_ret
      exact ⟨ret_bool hfin.out.symm, boxed _ _⟩
/-- Stamps as cells. -/
def ids (l : List (Int × Int)) : List Value := l.flatMap fun a => [.int .u32 a.1, .int .u8 a.2]
theorem ids_len (l : List (Int × Int)) : (ids l).length = l.length * 2 := by
  induction l with
  | nil => rfl
  | cons a l ih => simp only [ids, List.flatMap_cons, List.length_append, List.length_cons, List.length_nil] at *; omega
theorem ids_get (l : List (Int × Int)) : ∀ (i : Nat) (h : i < l.length), (ids l)[i * 2]? = some (.int .u32 l[i].1) ∧ (ids l)[i * 2 + 1]? = some (.int .u8 l[i].2) := by
  induction l with
  | nil => intro i h; simp at h
  | cons a l ih =>
    intro i h
    have e : ids (a :: l) = .int .u32 a.1 :: .int .u8 a.2 :: ids l := rfl
    rw [e]
    cases i with
    | zero => exact ⟨rfl, rfl⟩
    | succ i =>
      have := ih i (by simpa using h)
      rw [show (i + 1) * 2 = i * 2 + 2 by omega]
      exact this
/-- A slice of stamps that reads as l. -/
def RI (w : World) (B : Nat) (A : Option Addr) (l : List (Int × Int)) : Prop := RD w B 2 A l.length (ids l)
theorem RI.cell {w : World} {B : Nat} {A : Option Addr} {l : List (Int × Int)} (h : RI w B A l) (hl : 0 < l.length) :
    ∃ b off, A = some ⟨b, off, none⟩ ∧ b < B ∧ ∀ j (hj : j < l.length), w.cell? ⟨b, off + j * 2, none⟩ = some (.int .u32 l[j].1) ∧ w.cell? ⟨b, off + j * 2 + 1, none⟩ = some (.int .u8 l[j].2) := by
  obtain ⟨b, off, e, hb, hc⟩ := h.2 hl
  exact ⟨b, off, e, hb, fun j hj => ⟨hc (j * 2) _ (ids_get l j hj).1, by have := hc (j * 2 + 1) _ (ids_get l j hj).2; rwa [← Nat.add_assoc] at this⟩⟩
/-- The parts of a stamp are of their types. -/
def okI (a : Int × Int) : Prop := 0 ≤ a.1 ∧ a.1 < 4294967296 ∧ 0 ≤ a.2 ∧ a.2 < 256

theorem RI.new (w : World) (cs : Array Value) (T : TypeId) (l : List (Int × Int)) (h : cs.toList = ids l) : RI (w.alloc (.cells cs T)) (w.alloc (.cells cs T)).heap.size (some ⟨w.heap.size, 0, none⟩) l := by
  refine ⟨ids_len l, fun _ => ⟨_, _, rfl, by rw [World.size_alloc]; omega, fun j u hu => ?_⟩⟩
  rw [Nat.zero_add, World.cell?_alloc_new, ← Array.getElem?_toList, h]
  exact hu

theorem less_yes (t r t' r' : Int) (w : World) (h0 : 0 ≤ t) (h1 : t < 4294967296) (g0 : 0 ≤ r) (g1 : r < 256) (h0' : 0 ≤ t') (h1' : t' < 4294967296) (g0' : 0 ≤ r') (g1' : r' < 256) (h : lessB t r t' r' = true) :
    Calls Try.prog 50 #[.agg #[.int .u32 t, .int .u8 r], .agg #[.int .u32 t', .int .u8 r']] w fun e w' => e = .returned (.bool true) ∧ Below w.heap.size w w' :=
  (less_any t r t' r' w h0 h1 g0 g1 h0' h1' g0' g1').mono fun _ _ ⟨he, hb⟩ => ⟨by rw [he, h], hb⟩
theorem less_no (t r t' r' : Int) (w : World) (h0 : 0 ≤ t) (h1 : t < 4294967296) (g0 : 0 ≤ r) (g1 : r < 256) (h0' : 0 ≤ t') (h1' : t' < 4294967296) (g0' : 0 ≤ r') (g1' : r' < 256) (h : lessB t r t' r' = false) :
    Calls Try.prog 50 #[.agg #[.int .u32 t, .int .u8 r], .agg #[.int .u32 t', .int .u8 r']] w fun e w' => e = .returned (.bool false) ∧ Below w.heap.size w w' :=
  (less_any t r t' r' w h0 h1 g0 g1 h0' h1' g0' g1').mono fun _ _ ⟨he, hb⟩ => ⟨by rw [he, h], hb⟩

theorem keep_cell {w w' : World} {b o : Nat} {u : Value} (hb : Below w.heap.size w w') (hlt : b < w.heap.size) (h : w.cell? ⟨b, o, none⟩ = some u) : w'.cell? ⟨b, o, none⟩ = some u := (hb.cell (p := ⟨b, o, none⟩) hlt).trans h
theorem idinfo : (Try.prog.info? 25).map (fun i => (i.zero, i.size, i.bytes)) = some (some (.agg #[.int .u32 0, .int .u8 0]), 2, 8) := by kernel_rfl
theorem made_ids (n : Nat) : (madeCells #[.int .u32 0, .int .u8 0] (n * 2)).toList = ids (List.replicate n (0, 0)) := by
  apply List.ext_getElem?
  intro j
  by_cases hj : j < n * 2
  · have hi : j / 2 < (List.replicate n ((0, 0) : Int × Int)).length := by rw [List.length_replicate]; omega
    obtain ⟨g0, g1⟩ := ids_get (List.replicate n ((0, 0) : Int × Int)) (j / 2) hi
    rw [List.getElem_replicate] at g0 g1
    have hm : (madeCells #[Value.int .u32 0, Value.int .u8 0] (n * 2)).toList[j]? = some ((#[Value.int .u32 0, Value.int .u8 0] : Array Value)[j % 2]!) := by simp [madeCells, hj]
    rw [hm]
    rcases Nat.mod_two_eq_zero_or_one j with hp | hp
    · have e : j / 2 * 2 = j := by omega
      rw [e] at g0
      rw [g0, hp]
      rfl
    · have e : j / 2 * 2 + 1 = j := by omega
      rw [e] at g1
      rw [g1, hp]
      rfl
  · rw [List.getElem?_eq_none (by simp [size_madeCells]; omega), List.getElem?_eq_none (by rw [ids_len, List.length_replicate]; omega)]
/-- One box. -/
theorem one_box (w : World) (a b : Value) (T : TypeId) : ∃ w2, w.alloc (.cells #[a, b] T) = w2 ∧ w2.cell? ⟨w.heap.size, 0, none⟩ = some a ∧ w2.cell? ⟨w.heap.size, 1, none⟩ = some b ∧ w.heap.size < w2.heap.size ∧ Below w.heap.size w w2 := by
  refine ⟨_, rfl, ?_, ?_, by simp, boxed _ _⟩
  · rw [World.cell?_alloc_new]; rfl
  · rw [World.cell?_alloc_new]; rfl

theorem ids_one (l : List (Int × Int)) : ∀ u ∈ ids l, u.oneCell' = true := by
  intro u hu
  simp only [ids, List.mem_flatMap] at hu
  obtain ⟨a, _, h⟩ := hu
  simp at h
  rcases h with rfl | rfl <;> rfl
theorem keep_two {w w' : World} {g : Nat} {a b : Value} (hb : Below w.heap.size w w') (h : g < w.heap.size ∧ w.cell? ⟨g, 0, none⟩ = some a ∧ w.cell? ⟨g, 1, none⟩ = some b) : g < w'.heap.size ∧ w'.cell? ⟨g, 0, none⟩ = some a ∧ w'.cell? ⟨g, 1, none⟩ = some b :=
  ⟨Nat.lt_of_lt_of_le h.1 hb.size, keep_cell hb h.1 h.2.1, keep_cell hb h.1 h.2.2⟩

/-- The number that Check answers. -/
def chkI (t r : Int) : Int := if mayI t r then 0 else 8
theorem scheck_any (t r : Int) (w : World) :
    Calls Try.prog 81 #[.agg #[.int .u32 t, .int .u8 r]] w fun e w' => e = .returned (.int .i64 (chkI t r)) ∧ Below w.heap.size w w' := by
  unfold chkI
  by_cases h : mayI t r
  · rw [if_pos h]; exact scheck_yes t r w h
  · rw [if_neg h]; exact scheck_no t r w h

end Go.Proofs.Ytbjfmkdjnglgbaa
