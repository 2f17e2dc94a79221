/-
  What stamp.Less, octavoref05.Less, the two Checks and by do. Condition: the parts of the stamps are of their types.
-/
import Derived.Test.YtllmlnbgfikeaaaRows
import Derived.Test.YtllmlnbgfikeaaaWords
import Derived.Test.YtllmlnbgfikeaaaPast
import Derived.Test.YtllmlnbgfikeaaaStampMath
namespace Go.Proofs.Ytllmlnbgfikeaaa
open Go.RowKit

/-- A stamp as a value. -/
abbrev idv (t r : Int) : Value := .agg #[.int .u32 t, .int .u8 r]
theorem boxed (w : World) (o : Obj) : Below w.heap.size w (w.alloc o) := (Below.refl _ _).alloc (Nat.le_refl _) _

set_option maxHeartbeats 400000 in
set_option maxRecDepth 100000 in
theorem by_ok (t r : Int) (w : World) :
    Calls Try.prog 16 #[.int .u32 t, .int .u8 r] w fun e w' => e = .returned (.agg #[.int .u32 t, .int .u8 r]) ∧ Below w.heap.size w w' := by
  go_enter Try.func16, Try.ntmps16
  go_wp2_with fail
  exact bodyPost_ret (v := .agg #[.int .u32 t, .int .u8 r]) (by simp [results, Try.results16, go_sem]) rfl ⟨rfl, boxed _ _⟩

set_option maxHeartbeats 400000 in
set_option maxRecDepth 100000 in
theorem at_ok (t r : Int) (w : World) (h0 : 0 ≤ t) (g0 : 0 ≤ r) :
    Calls Try.prog 33 #[.agg #[.int .u32 t, .int .u8 r]] w fun e w' => e = .returned (.complex .f64 (fv t.toNat) (fv r.toNat)) ∧ Below w.heap.size w w' := by
  have e1 := hide (show floatOfInt .f64 t = fv t.toNat by unfold fv; rw [Int.toNat_of_nonneg h0])
  have e2 := hide (show floatOfInt .f64 r = fv r.toNat by unfold fv; rw [Int.toNat_of_nonneg g0])
  go_enter Try.func33, Try.ntmps33
  go_wp2_with fail
  go_ret
  refine ⟨?_, boxed _ _⟩
  show Ending.returned (Value.complex .f64 (floatOfInt .f64 t) (floatOfInt .f64 r)) = _
  rw [e1.out, e2.out]

/-- Which of two stamps is less. -/
def lessB (t r t' r' : Int) : Bool := decide (t < t' ∨ t = t' ∧ r < r')

/-- Two boxes, one behind the other. -/
theorem two_boxes (w : World) (a b c d : Value) (T T' : TypeId) : ∃ w2, (w.alloc (.cells #[a, b] T)).alloc (.cells #[c, d] T') = w2 ∧ w2.cell? ⟨w.heap.size, 0, none⟩ = some a ∧ w2.cell? ⟨w.heap.size, 1, none⟩ = some b ∧ w2.cell? ⟨w.heap.size + 1, 0, none⟩ = some c ∧ w2.cell? ⟨w.heap.size + 1, 1, none⟩ = some d ∧ w.heap.size + 1 < w2.heap.size ∧ Below w.heap.size w w2 := by
  refine ⟨_, rfl, ?_, ?_, ?_, ?_, ?_, (boxed _ _).trans ((boxed _ _).mono (by simp))⟩
  · rw [World.cell?_alloc_lt _ _ _ (by simp), World.cell?_alloc_new]; rfl
  · rw [World.cell?_alloc_lt _ _ _ (by simp), World.cell?_alloc_new]; rfl
  · simp
  · simp
  · simp

/-- The bits of 'real', 'imag' of a difference, and what the tests on them answer. -/
theorem df_cases (a b : Int) (h0 : 0 ≤ a) (h1 : a < 4294967296) (g0 : 0 ≤ b) (g1 : b < 4294967296) :
    ((FloatKind.f64.format.order (dfv b.toNat a.toNat) 0 == some .gt) = decide (a < b)) ∧ ((FloatKind.f64.format.order (dfv b.toNat a.toNat) 0 == some .eq) = decide (a = b)) := by
  rcases Int.lt_trichotomy a b with h | h | h
  · rw [dfv_gt _ _ (by omega) (by omega)]
    exact ⟨by rw [decide_eq_true h]; rfl, by rw [decide_eq_false (by omega)]; rfl⟩
  · subst h
    rw [dfv_eq]
    exact ⟨by rw [decide_eq_false (by omega)]; rfl, by rw [decide_eq_true rfl]; rfl⟩
  · rw [dfv_lt _ _ (by omega) (by omega)]
    exact ⟨by rw [decide_eq_false (by omega)]; rfl, by rw [decide_eq_false (by omega)]; rfl⟩

set_option maxHeartbeats 1600000 in
set_option maxRecDepth 100000 in
theorem less_any (t r t' r' : Int) (w : World) (h0 : 0 ≤ t) (h1 : t < 4294967296) (g0 : 0 ≤ r) (g1 : r < 256) (h0' : 0 ≤ t') (h1' : t' < 4294967296) (g0' : 0 ≤ r') (g1' : r' < 256) :
    Calls Try.prog 21 #[.agg #[.int .u32 t, .int .u8 r], .agg #[.int .u32 t', .int .u8 r']] w fun e w' => e = .returned (.bool (lessB t r t' r')) ∧ Below w.heap.size w w' := by
  obtain ⟨c1, c2⟩ := df_cases t t' h0 h1 h0' h1'
  obtain ⟨c3, c4⟩ := df_cases r r' g0 (by omega) g0' (by omega)
  have hsub := fun w => run_complex_sum (P := Try.prog) w .sub (.inr rfl) 60 .f64 _ _ _ _ _ _ (sub_pair t'.toNat r'.toNat t.toNat r.toNat (by omega) (by omega) (by omega) (by omega))
  have A1 := hide (fun w => at_ok t r w h0 g0)
  have A2 := hide (fun w => at_ok t' r' w h0' g0')
  generalize dfv t'.toNat t.toNat = x at c1 c2 hsub
  generalize dfv r'.toNat r.toNat = y at c3 c4 hsub
  generalize fv t.toNat = ft at A1 hsub
  generalize fv r.toNat = fr at A1 hsub
  generalize fv t'.toNat = ft' at A2 hsub
  generalize fv r'.toNat = fr' at A2 hsub
  clear c4 h1 h1' g1 g1' h0 h0' g0 g0'
  have C1 := hide c1
  have C2 := hide c2
  have C3 := hide c3
  clear c1 c2 c3
  obtain ⟨w2, hw2, k0, k1, k2, k3, hs2, hb2⟩ := two_boxes w (.int .u32 t) (.int .u8 r) (.int .u32 t') (.int .u8 r') 31 31
  have Hw2 := hide hw2
  clear hw2
  go_enter Try.func21, Try.ntmps21
  go_wp2_with fail
  rw [Hw2.out]
  have hs1 : w.heap.size < w2.heap.size := by omega
  generalize w.heap.size = g at k0 k1 k2 k3 hs2 hs1 ⊢
  refine wp_region_past (by kernel_rfl) (by kernel_rfl) ?_
  repeat (quiet_step ((first
        | (go_at_call_of 33 (Value.agg #[Value.int .u32 t, Value.int .u8 r]); exact past_call (unhide A1 _))
        | (go_at_call_of 33 (Value.agg #[Value.int .u32 t', Value.int .u8 r']); exact past_call (unhide A2 _)))))
  refine wpQuiet_nil ?_
  intro w3 hw3
  obtain ⟨u, rfl⟩ := hw3
  have hb3 := hb2.trans ((below_past w2 u).mono hb2.size)
  clear hsub k0 k1 k2 k3
  rcases Int.lt_trichotomy t t' with h | h | h
  · have d1 : (FloatKind.f64.format.order x 0 == some .gt) = true := C1.out.trans (decide_eq_true h)
    have hfin := hide (show lessB t r t' r' = true from decide_eq_true (.inl h))
    clear h
    go_wp2_with fail
    go_ret
    exact ⟨ret_bool hfin.out.symm, hb3⟩
  · have d1 : (FloatKind.f64.format.order x 0 == some .gt) = false := C1.out.trans (decide_eq_false (by omega))
    have d2 : (FloatKind.f64.format.order x 0 == some .eq) = true := C2.out.trans (decide_eq_true h)
    by_cases h2 : r < r'
    · have d3 : (FloatKind.f64.format.order y 0 == some .gt) = true := C3.out.trans (decide_eq_true h2)
      have hfin := hide (show lessB t r t' r' = true from decide_eq_true (.inr ⟨h, h2⟩))
      clear h h2
      go_wp2_with fail
      go_ret
      exact ⟨ret_bool hfin.out.symm, hb3⟩
    · have d3 : (FloatKind.f64.format.order y 0 == some .gt) = false := C3.out.trans (decide_eq_false h2)
      have hfin := hide (show lessB t r t' r' = false from decide_eq_false (by omega))
      clear h h2
      go_wp2_with fail
      go_ret
      exact ⟨ret_bool hfin.out.symm, hb3⟩
  · have d1 : (FloatKind.f64.format.order x 0 == some .gt) = false := C1.out.trans (decide_eq_false (by omega))
    have d2 : (FloatKind.f64.format.order x 0 == some .eq) = false := C2.out.trans (decide_eq_false (by omega))
    have hfin := hide (show lessB t r t' r' = false from decide_eq_false (by omega))
    clear h
    go_wp2_with fail
    go_ret
    exact ⟨ret_bool hfin.out.symm, hb3⟩

set_option maxHeartbeats 800000 in
set_option maxRecDepth 100000 in
theorem refless_any (t r t' r' : Int) (w : World) :
    Calls Try.prog 22 #[.agg #[.int .u32 t, .int .u8 r], .agg #[.int .u32 t', .int .u8 r']] w fun e w' => e = .returned (.bool (lessB t r t' r')) ∧ Below w.heap.size w w' := by
  obtain ⟨w2, hw2, -, -, -, -, -, hb2⟩ := two_boxes w (.int .u32 t) (.int .u8 r) (.int .u32 t') (.int .u8 r') 31 31
  subst hw2
  rcases Int.lt_trichotomy t t' with h | h | h
  · have hfin := hide (show lessB t r t' r' = true from decide_eq_true (.inl h))
    go_enter Try.func22, Try.ntmps22
    go_wp2_with fail
    go_ret
    exact ⟨ret_bool hfin.out.symm, hb2⟩
  · subst h
    have h1 : ¬ t < t := by omega
    by_cases h2 : r < r'
    · have hfin := hide (show lessB t r t r' = true from decide_eq_true (.inr ⟨rfl, h2⟩))
      go_enter Try.func22, Try.ntmps22
      go_wp2_with fail
      go_ret
      exact ⟨ret_bool hfin.out.symm, hb2⟩
    · have hfin := hide (show lessB t r t r' = false from decide_eq_false (by omega))
      go_enter Try.func22, Try.ntmps22
      go_wp2_with fail
      go_ret
      exact ⟨ret_bool hfin.out.symm, hb2⟩
  · have hfin := hide (show lessB t r t' r' = false from decide_eq_false (by omega))
    have h1 : ¬ t < t' := by omega
    have h2 : (t == t') = false := by simp; omega
    clear h
    go_enter Try.func22, Try.ntmps22
    go_wp2_with fail
    go_ret
    exact ⟨ret_bool hfin.out.symm, hb2⟩

/-- May a stamp be? -/
def mayI (t r : Int) : Prop := 1 ≤ t ∧ t ≤ 1073741824 ∧ r < 8
instance (t r : Int) : Decidable (mayI t r) := by unfold mayI; infer_instance

set_option maxHeartbeats 800000 in
set_option maxRecDepth 100000 in
theorem scheck_yes (t r : Int) (w : World) (h : mayI t r) :
    Calls Try.prog 18 #[.agg #[.int .u32 t, .int .u8 r]] w fun e w' => e = .returned (.int .i64 0) ∧ Below w.heap.size w w' := by
  obtain ⟨h1, h2, h3⟩ := h
  have g1 : ¬ t < 1 := by omega
  have g2 : ¬ 1073741824 < t := by omega
  have g3 : ¬ 8 ≤ r := by omega
  clear h1 h2 h3
  go_enter Try.func18, Try.ntmps18
  go_wp2_with fail
  go_ret
  exact ⟨rfl, boxed _ _⟩
set_option maxHeartbeats 800000 in
set_option maxRecDepth 100000 in
theorem scheck_no (t r : Int) (w : World) (h : ¬ mayI t r) :
    Calls Try.prog 18 #[.agg #[.int .u32 t, .int .u8 r]] w fun e w' => e = .returned (.int .i64 8) ∧ Below w.heap.size w w' := by
  have hc : t < 1 ∨ (¬ t < 1 ∧ 1073741824 < t) ∨ (¬ t < 1 ∧ ¬ 1073741824 < t ∧ 8 ≤ r) := by unfold mayI at h; omega
  clear h
  rcases hc with h1 | ⟨h1, h2⟩ | ⟨h1, h2, h3⟩
  all_goals
    go_enter Try.func18, Try.ntmps18
    go_wp2_with fail
    go_ret
    exact ⟨rfl, boxed _ _⟩
set_option maxHeartbeats 800000 in
set_option maxRecDepth 100000 in
theorem refmay_any (t r : Int) (w : World) :
    Calls Try.prog 31 #[.agg #[.int .u32 t, .int .u8 r]] w fun e w' => e = .returned (.bool (decide (mayI t r))) ∧ Below w.heap.size w w' := by
  by_cases h : mayI t r
  · have hfin := hide (decide_eq_true h)
    obtain ⟨h1, h2, h3⟩ := h
    go_enter Try.func31, Try.ntmps31
    go_wp2_with fail
    go_ret
    exact ⟨ret_bool hfin.out.symm, boxed _ _⟩
  · have hfin := hide (decide_eq_false h)
    have hc : ¬ 1 ≤ t ∨ (1 ≤ t ∧ ¬ t ≤ 1073741824) ∨ (1 ≤ t ∧ t ≤ 1073741824 ∧ ¬ r < 8) := by unfold mayI at h; omega
    clear h
    rcases hc with h1 | ⟨h1, h2⟩ | ⟨h1, h2, h3⟩
    all_goals
      go_enter Try.func31, Try.ntmps31
      go_wp2_with fail
      go_ret
      exact ⟨ret_bool hfin.out.symm, boxed _ _⟩
end Go.Proofs.Ytllmlnbgfikeaaa
