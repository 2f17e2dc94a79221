/-
  Texts of this claim, put together: StampMath, IdBase, PlaceMath. What each theorem asks stands in its statement.
-/
import Derived.Test.YtmkpfdcnikgokaaRows
import Derived.Test.YtmkpfdcnikgokaaMc1
set_option linter.unusedVariables false
set_option linter.unusedSimpArgs false
namespace Go.Proofs.Ytmkpfdcnikgokaa
open Ieee
/-- The word of a difference of two whole numbers. -/
def dfv (a b : Nat) : Nat := if b ≤ a then fv (a - b) else double.word true (rungOf (b - a))
theorem diff_scale (a b s t : Nat) : ∃ r : Nat, Datum.sum (.number false (a * 2 ^ s) (-(s : Int))) (Datum.opposite (.number false (b * 2 ^ t) (-(t : Int)))) = some (if b ≤ a then .number false ((a - b) * 2 ^ r) (-(r : Int)) else .number true ((b - a) * 2 ^ r) (-(r : Int))) := by
  refine ⟨max s t, ?_⟩
  have hb : min (-(s : Int)) (-(t : Int)) = -((max s t : Nat) : Int) := by omega
  have e1 : (-(s : Int) - -((max s t : Nat) : Int)).toNat = max s t - s := by omega
  have e2 : (-(t : Int) - -((max s t : Nat) : Int)).toNat = max s t - t := by omega
  have k1 : a * 2 ^ s * 2 ^ (max s t - s) = a * 2 ^ (max s t) := by rw [Nat.mul_assoc, ← Nat.pow_add]; congr 2; omega
  have k2 : b * 2 ^ t * 2 ^ (max s t - t) = b * 2 ^ (max s t) := by rw [Nat.mul_assoc, ← Nat.pow_add]; congr 2; omega
  have tot : signed false (a * 2 ^ s) (max s t - s) + signed (!false) (b * 2 ^ t) (max s t - t) = ((a * 2 ^ (max s t) : Nat) : Int) - ((b * 2 ^ (max s t) : Nat) : Int) := by
    unfold signed
    rw [Nat.shiftLeft_eq, Nat.shiftLeft_eq, k1, k2]
    simp
    omega
  unfold Datum.opposite Datum.sum
  simp only [hb, e1, e2, tot]
  have hp := Nat.two_pow_pos (max s t)
  by_cases h : b ≤ a
  · have hm : b * 2 ^ (max s t) ≤ a * 2 ^ (max s t) := Nat.mul_le_mul_right _ h
    have hx : ((a * 2 ^ (max s t) : Nat) : Int) - ((b * 2 ^ (max s t) : Nat) : Int) = (((a - b) * 2 ^ (max s t) : Nat) : Int) := by rw [Nat.sub_mul]; omega
    rw [hx, if_pos h]
    generalize (a - b) * 2 ^ (max s t) = x
    have hn : decide ((x : Int) < 0) = false := by simp
    rw [hn, Int.natAbs_natCast]
    split <;> rfl
  · have hm : a * 2 ^ (max s t) < b * 2 ^ (max s t) := Nat.mul_lt_mul_of_pos_right (by omega) hp
    have hx : ((a * 2 ^ (max s t) : Nat) : Int) - ((b * 2 ^ (max s t) : Nat) : Int) = -(((b - a) * 2 ^ (max s t) : Nat) : Int) := by rw [Nat.sub_mul]; omega
    have hpos : 0 < (b - a) * 2 ^ (max s t) := Nat.mul_pos (by omega) hp
    rw [hx, if_neg h]
    generalize (b - a) * 2 ^ (max s t) = x at hpos
    have hn : decide (-(x : Int) < 0) = true := by simp; omega
    rw [hn, Int.natAbs_neg, Int.natAbs_natCast, if_neg (by omega)]
theorem sub_fv (a b : Nat) (ha : a < 2 ^ 53) (hb : b < 2 ^ 53) : floatBits .sub .f64 (fv a) (fv b) = some (dfv a b) := by
  obtain ⟨s, hs⟩ := read_fv a ha
  obtain ⟨t, ht⟩ := read_fv b hb
  show double.sub (fv a) (fv b) = _
  unfold Format.sub
  rw [hs, ht]
  obtain ⟨r, hr⟩ := diff_scale a b s t
  rw [hr]
  unfold dfv
  by_cases h : b ≤ a
  · rw [if_pos h, if_pos h]
    exact congrArg some (write_scale (a - b) r (by omega))
  · rw [if_neg h, if_neg h]
    exact congrArg some (nearest_scale true (b - a) r (by omega) (by omega))
theorem order_pos (m : Nat) (i j : Int) (h : 0 < m) : Datum.order (.number false m i) (.number false 0 j) = some .gt := by
  unfold Datum.order signed
  simp only [Bool.false_eq_true, if_false, Nat.shiftLeft_eq]
  have : 0 < m * 2 ^ (i - min i j).toNat := Nat.mul_pos h (Nat.two_pow_pos _)
  generalize m * 2 ^ (i - min i j).toNat = x at this
  congr 1
  simp only [compare, compareOfLessAndEq]
  rw [if_neg (by omega), if_neg (by omega)]
theorem order_zero (i j : Int) : Datum.order (.number false 0 i) (.number false 0 j) = some .eq := by
  unfold Datum.order signed
  simp only [Bool.false_eq_true, if_false, Nat.zero_shiftLeft]
  rfl
theorem order_neg (m : Nat) (i j : Int) (h : 0 < m) : Datum.order (.number true m i) (.number false 0 j) = some .lt := by
  unfold Datum.order signed
  simp only [Bool.false_eq_true, if_false, if_true, Nat.shiftLeft_eq]
  have : 0 < m * 2 ^ (i - min i j).toNat := Nat.mul_pos h (Nat.two_pow_pos _)
  generalize m * 2 ^ (i - min i j).toNat = x at this
  congr 1
  simp only [compare, compareOfLessAndEq]
  rw [if_pos (by omega)]
theorem dfv_gt (a b : Nat) (ha : a < 2 ^ 53) (h : b < a) : FloatKind.f64.format.order (dfv a b) 0 = some .gt := by
  show (double.read (dfv a b)).order (double.read 0) = _
  unfold dfv
  rw [if_pos (by omega), read_zero]
  obtain ⟨s, hs⟩ := read_fv (a - b) (by omega)
  rw [hs]
  exact order_pos _ _ _ (Nat.mul_pos (by omega) (Nat.two_pow_pos _))
theorem dfv_eq (a : Nat) : FloatKind.f64.format.order (dfv a a) 0 = some .eq := by
  show (double.read (dfv a a)).order (double.read 0) = _
  unfold dfv
  rw [if_pos (Nat.le_refl _), Nat.sub_self, fv_zero, read_zero]
  exact order_zero _ _
theorem dfv_lt (a b : Nat) (hb : b < 2 ^ 53) (h : a < b) : FloatKind.f64.format.order (dfv a b) 0 = some .lt := by
  show (double.read (dfv a b)).order (double.read 0) = _
  unfold dfv
  rw [if_neg (by omega), read_zero, read_word true (b - a) (by omega) (by omega)]
  exact order_neg _ _ _ (Nat.mul_pos (by omega) (Nat.two_pow_pos _))
theorem sub_pair (a b c d : Nat) (ha : a < 2 ^ 53) (hb : b < 2 ^ 53) (hc : c < 2 ^ 53) (hd : d < 2 ^ 53) : cSumBits .sub .f64 (fv a) (fv b) (fv c) (fv d) = some (dfv a c, dfv b d) := by
  unfold cSumBits
  rw [sub_fv a c ha hc, sub_fv b d hb hd]
  rfl
end Go.Proofs.Ytmkpfdcnikgokaa
namespace Go.Proofs.Ytmkpfdcnikgokaa
open Go.RowKit
theorem boxed (w : World) (o : Obj) : Below w.heap.size w (w.alloc o) := (Below.refl _ _).alloc (Nat.le_refl _) _
set_option maxHeartbeats 400000 in
set_option maxRecDepth 100000 in
theorem at_ok (t r : Int) (w : World) (h0 : 0 ≤ t) (g0 : 0 ≤ r) :
    Calls Try.prog 121 #[.agg #[.int .u32 t, .int .u8 r]] w fun e w' => e = .returned (.complex .f64 (fv t.toNat) (fv r.toNat)) ∧ Below w.heap.size w w' := by
  have e1 := hide (show floatOfInt .f64 t = fv t.toNat by unfold fv; rw [Int.toNat_of_nonneg h0])
  have e2 := hide (show floatOfInt .f64 r = fv r.toNat by unfold fv; rw [Int.toNat_of_nonneg g0])
  go_enter Try.func121, Try.ntmps121
  go_wp2_with fail
  go_ret
  refine ⟨?_, boxed _ _⟩
  show Ending.returned (Value.complex .f64 (floatOfInt .f64 t) (floatOfInt .f64 r)) = _
  rw [e1.out, e2.out]
/-- Which of two stamps is less. -/
def lessB (t r t' r' : Int) : Bool := decide (t < t' ∨ t = t' ∧ r < r')
/-- Two boxes, one behind the other. -/
theorem two_boxes (w : World) (a b c d : Value) (T T' : TypeId) : ∃ w2, (w.alloc (.cells #[a, b] T)).alloc (.cells #[c, d] T') = w2 ∧ w2.cell? ⟨w.heap.size, 0, none⟩ = some a ∧ w2.cell? ⟨w.heap.size, 1, none⟩ = some b ∧ w2.cell? ⟨w.heap.size + 1, 0, none⟩ = some c ∧ w2.cell? ⟨w.heap.size + 1, 1, none⟩ = some d ∧ w.heap.size + 1 < w2.heap.size ∧ Below w.heap.size w w2 := by
  refine ⟨_, rfl, ?_, ?_, ?_, ?_, ?_, (boxed _ _).trans ((boxed _ _).mono (by simp))⟩
  · rw [World.cell?_alloc_lt _ _ _ (by simp), World.cell?_alloc_new]; rfl
  · rw [World.cell?_alloc_lt _ _ _ (by simp), World.cell?_alloc_new]; rfl
  · simp
  · simp
  · simp
/-- The bits of 'real', 'imag' of a difference, and what the tests on them answer. -/
theorem df_cases (a b : Int) (h0 : 0 ≤ a) (h1 : a < 4294967296) (g0 : 0 ≤ b) (g1 : b < 4294967296) :
    ((FloatKind.f64.format.order (dfv b.toNat a.toNat) 0 == some .gt) = decide (a < b)) ∧ ((FloatKind.f64.format.order (dfv b.toNat a.toNat) 0 == some .eq) = decide (a = b)) := by
  rcases Int.lt_trichotomy a b with h | h | h
  · rw [dfv_gt _ _ (by omega) (by omega)]
    exact ⟨by rw [decide_eq_true h]; rfl, by rw [decide_eq_false (by omega)]; rfl⟩
  · subst h
    rw [dfv_eq]
    exact ⟨by rw [decide_eq_false (by omega)]; rfl, by rw [decide_eq_true rfl]; rfl⟩
  · rw [dfv_lt _ _ (by omega) (by omega)]
    exact ⟨by rw [decide_eq_false (by omega)]; rfl, by rw [decide_eq_false (by omega)]; rfl⟩
set_option maxHeartbeats 1600000 in
set_option maxRecDepth 100000 in
theorem less_any (t r t' r' : Int) (w : World) (h0 : 0 ≤ t) (h1 : t < 4294967296) (g0 : 0 ≤ r) (g1 : r < 256) (h0' : 0 ≤ t') (h1' : t' < 4294967296) (g0' : 0 ≤ r') (g1' : r' < 256) :
    Calls Try.prog 109 #[.agg #[.int .u32 t, .int .u8 r], .agg #[.int .u32 t', .int .u8 r']] w fun e w' => e = .returned (.bool (lessB t r t' r')) ∧ Below w.heap.size w w' := by
  obtain ⟨c1, c2⟩ := df_cases t t' h0 h1 h0' h1'
  obtain ⟨c3, c4⟩ := df_cases r r' g0 (by omega) g0' (by omega)
  have hsub := fun w => run_complex_sum (P := Try.prog) w .sub (.inr rfl) 128 .f64 _ _ _ _ _ _ (sub_pair t'.toNat r'.toNat t.toNat r.toNat (by omega) (by omega) (by omega) (by omega))
  have A1 := hide (fun w => at_ok t r w h0 g0)
  have A2 := hide (fun w => at_ok t' r' w h0' g0')
  generalize dfv t'.toNat t.toNat = x at c1 c2 hsub
  generalize dfv r'.toNat r.toNat = y at c3 c4 hsub
  generalize fv t.toNat = ft at A1 hsub
  generalize fv r.toNat = fr at A1 hsub
  generalize fv t'.toNat = ft' at A2 hsub
  generalize fv r'.toNat = fr' at A2 hsub
  clear c4 h1 h1' g1 g1' h0 h0' g0 g0'
  have C1 := hide c1
  have C2 := hide c2
  have C3 := hide c3
  clear c1 c2 c3
  obtain ⟨w2, hw2, k0, k1, k2, k3, hs2, hb2⟩ := two_boxes w (.int .u32 t) (.int .u8 r) (.int .u32 t') (.int .u8 r') 36 36
  have Hw2 := hide hw2
  clear hw2
  go_enter Try.func109, Try.ntmps109
  go_wp2_with fail
  rw [Hw2.out]
  have hs1 : w.heap.size < w2.heap.size := by omega
  generalize w.heap.size = g at k0 k1 k2 k3 hs2 hs1 ⊢
  refine wp_region_past (by kernel_rfl) (by kernel_rfl) ?_
  repeat (quiet_step ((first
        | (go_at_call_of 121 (Value.agg #[Value.int .u32 t, Value.int .u8 r]); exact past_call (unhide A1 _))
        | (go_at_call_of 121 (Value.agg #[Value.int .u32 t', Value.int .u8 r']); exact past_call (unhide A2 _)))))
  refine wpQuiet_nil ?_
  intro w3 hw3
  obtain ⟨u, rfl⟩ := hw3
  have hb3 := hb2.trans ((below_past w2 u).mono hb2.size)
  clear hsub k0 k1 k2 k3
  rcases Int.lt_trichotomy t t' with h | h | h
  · have d1 : (FloatKind.f64.format.order x 0 == some .gt) = true := C1.out.trans (decide_eq_true h)
    have hfin := hide (show lessB t r t' r' = true from decide_eq_true (.inl h))
    clear h
    go_wp2_with fail
    go_ret
    exact ⟨ret_bool hfin.out.symm, hb3⟩
  · have d1 : (FloatKind.f64.format.order x 0 == some .gt) = false := C1.out.trans (decide_eq_false (by omega))
    have d2 : (FloatKind.f64.format.order x 0 == some .eq) = true := C2.out.trans (decide_eq_true h)
    by_cases h2 : r < r'
    · have d3 : (FloatKind.f64.format.order y 0 == some .gt) = true := C3.out.trans (decide_eq_true h2)
      have hfin := hide (show lessB t r t' r' = true from decide_eq_true (.inr ⟨h, h2⟩))
      clear h h2
      go_wp2_with fail
      go_ret
      exact ⟨ret_bool hfin.out.symm, hb3⟩
    · have d3 : (FloatKind.f64.format.order y 0 == some .gt) = false := C3.out.trans (decide_eq_false h2)
      have hfin := hide (show lessB t r t' r' = false from decide_eq_false (by omega))
      clear h h2
      go_wp2_with fail
      go_ret
      exact ⟨ret_bool hfin.out.symm, hb3⟩
  · have d1 : (FloatKind.f64.format.order x 0 == some .gt) = false := C1.out.trans (decide_eq_false (by omega))
    have d2 : (FloatKind.f64.format.order x 0 == some .eq) = false := C2.out.trans (decide_eq_false (by omega))
    have hfin := hide (show lessB t r t' r' = false from decide_eq_false (by omega))
    clear h
    go_wp2_with fail
    go_ret
    exact ⟨ret_bool hfin.out.symm, hb3⟩
/-- May a stamp be? -/
def mayI (t r : Int) : Prop := 1 ≤ t ∧ t ≤ 1073741824 ∧ r < 8
instance (t r : Int) : Decidable (mayI t r) := by unfold mayI; infer_instance
set_option maxHeartbeats 800000 in
set_option maxRecDepth 100000 in
theorem scheck_yes (t r : Int) (w : World) (h : mayI t r) :
    Calls Try.prog 92 #[.agg #[.int .u32 t, .int .u8 r]] w fun e w' => e = .returned (.int .i64 0) ∧ Below w.heap.size w w' := by
  obtain ⟨h1, h2, h3⟩ := h
  have g1 : ¬ t < 1 := by omega
  have g2 : ¬ 1073741824 < t := by omega
  have g3 : ¬ 8 ≤ r := by omega
  clear h1 h2 h3
  go_enter Try.func92, Try.ntmps92
  go_wp2_with fail
  go_ret
  exact ⟨rfl, boxed _ _⟩
set_option maxHeartbeats 800000 in
set_option maxRecDepth 100000 in
theorem scheck_no (t r : Int) (w : World) (h : ¬ mayI t r) :
    Calls Try.prog 92 #[.agg #[.int .u32 t, .int .u8 r]] w fun e w' => e = .returned (.int .i64 8) ∧ Below w.heap.size w w' := by
  have hc : t < 1 ∨ (¬ t < 1 ∧ 1073741824 < t) ∨ (¬ t < 1 ∧ ¬ 1073741824 < t ∧ 8 ≤ r) := by unfold mayI at h; omega
  clear h
  rcases hc with h1 | ⟨h1, h2⟩ | ⟨h1, h2, h3⟩
  all_goals
    go_enter Try.func92, Try.ntmps92
    go_wp2_with fail
    go_ret
    exact ⟨rfl, boxed _ _⟩
/-- Stamps as cells. -/
def ids (l : List (Int × Int)) : List Value := l.flatMap fun a => [.int .u32 a.1, .int .u8 a.2]
theorem ids_len (l : List (Int × Int)) : (ids l).length = l.length * 2 := by
  induction l with
  | nil => rfl
  | cons a l ih => simp only [ids, List.flatMap_cons, List.length_append, List.length_cons, List.length_nil] at *; omega
theorem ids_get (l : List (Int × Int)) : ∀ (i : Nat) (h : i < l.length), (ids l)[i * 2]? = some (.int .u32 l[i].1) ∧ (ids l)[i * 2 + 1]? = some (.int .u8 l[i].2) := by
  induction l with
  | nil => intro i h; simp at h
  | cons a l ih =>
    intro i h
    have e : ids (a :: l) = .int .u32 a.1 :: .int .u8 a.2 :: ids l := rfl
    rw [e]
    cases i with
    | zero => exact ⟨rfl, rfl⟩
    | succ i =>
      have := ih i (by simpa using h)
      rw [show (i + 1) * 2 = i * 2 + 2 by omega]
      exact this
/-- A slice of stamps that reads as l. -/
def RI (w : World) (B : Nat) (A : Option Addr) (l : List (Int × Int)) : Prop := RD w B 2 A l.length (ids l)
theorem RI.cell {w : World} {B : Nat} {A : Option Addr} {l : List (Int × Int)} (h : RI w B A l) (hl : 0 < l.length) :
    ∃ b off, A = some ⟨b, off, none⟩ ∧ b < B ∧ ∀ j (hj : j < l.length), w.cell? ⟨b, off + j * 2, none⟩ = some (.int .u32 l[j].1) ∧ w.cell? ⟨b, off + j * 2 + 1, none⟩ = some (.int .u8 l[j].2) := by
  obtain ⟨b, off, e, hb, hc⟩ := h.2 hl
  exact ⟨b, off, e, hb, fun j hj => ⟨hc (j * 2) _ (ids_get l j hj).1, by have := hc (j * 2 + 1) _ (ids_get l j hj).2; rwa [← Nat.add_assoc] at this⟩⟩
/-- The parts of a stamp are of their types. -/
def okI (a : Int × Int) : Prop := 0 ≤ a.1 ∧ a.1 < 4294967296 ∧ 0 ≤ a.2 ∧ a.2 < 256
theorem RI.new (w : World) (cs : Array Value) (T : TypeId) (l : List (Int × Int)) (h : cs.toList = ids l) : RI (w.alloc (.cells cs T)) (w.alloc (.cells cs T)).heap.size (some ⟨w.heap.size, 0, none⟩) l := by
  refine ⟨ids_len l, fun _ => ⟨_, _, rfl, by rw [World.size_alloc]; omega, fun j u hu => ?_⟩⟩
  rw [Nat.zero_add, World.cell?_alloc_new, ← Array.getElem?_toList, h]
  exact hu
theorem keep_cell {w w' : World} {b o : Nat} {u : Value} (hb : Below w.heap.size w w') (hlt : b < w.heap.size) (h : w.cell? ⟨b, o, none⟩ = some u) : w'.cell? ⟨b, o, none⟩ = some u := (hb.cell (p := ⟨b, o, none⟩) hlt).trans h
/-- One box. -/
theorem one_box (w : World) (a b : Value) (T : TypeId) : ∃ w2, w.alloc (.cells #[a, b] T) = w2 ∧ w2.cell? ⟨w.heap.size, 0, none⟩ = some a ∧ w2.cell? ⟨w.heap.size, 1, none⟩ = some b ∧ w.heap.size < w2.heap.size ∧ Below w.heap.size w w2 := by
  refine ⟨_, rfl, ?_, ?_, by simp, boxed _ _⟩
  · rw [World.cell?_alloc_new]; rfl
  · rw [World.cell?_alloc_new]; rfl
/-- The number that Check answers. -/
def chkI (t r : Int) : Int := if mayI t r then 0 else 8
theorem scheck_any (t r : Int) (w : World) :
    Calls Try.prog 92 #[.agg #[.int .u32 t, .int .u8 r]] w fun e w' => e = .returned (.int .i64 (chkI t r)) ∧ Below w.heap.size w w' := by
  unfold chkI
  by_cases h : mayI t r
  · rw [if_pos h]; exact scheck_yes t r w h
  · rw [if_neg h]; exact scheck_no t r w h
end Go.Proofs.Ytmkpfdcnikgokaa
namespace Go.Proofs.Ytmkpfdcnikgokaa
/-- A run: T, R, Many. -/
abbrev Rn := Int × Int × Int
/-- A stamp: T, R. -/
abbrev Id2 := Int × Int
/-- A run's last time. -/
def rend (x : Rn) : Int := x.1 + x.2.2 - 1
/-- May a run be, by itself? -/
def oneR (x : Rn) : Prop := 1 ≤ x.1 ∧ x.1 ≤ 1073741824 ∧ x.2.1 < 8 ∧ 1 ≤ x.2.2 ∧ x.2.2 ≤ 4096 ∧ x.1 + x.2.2 - 1 ≤ 1073741824
instance (x : Rn) : Decidable (oneR x) := by unfold oneR; infer_instance
/-- May a run stand behind another one? -/
def stepR (x y : Rn) : Prop := x.1 + x.2.2 - 1 < y.1 ∧ ¬ (y.2.1 = x.2.1 ∧ y.1 = x.1 + x.2.2 - 1 + 1)
instance (x y : Rn) : Decidable (stepR x y) := by unfold stepR; infer_instance
/-- Runs that may stand behind one another, behind a run that stands ahead. -/
def chainA (x : Rn) : List Rn → Prop
  | [] => True
  | y :: l => oneR y ∧ stepR x y ∧ chainA y l
def chainR : List Rn → Prop
  | [] => True
  | x :: l => oneR x ∧ chainA x l
instance chainA_dec : (x : Rn) → (l : List Rn) → Decidable (chainA x l)
  | _, [] => isTrue trivial
  | x, y :: l => by unfold chainA; have := chainA_dec y l; infer_instance
instance (l : List Rn) : Decidable (chainR l) := by cases l <;> unfold chainR <;> infer_instance
/-- How many stamps. -/
def long (p : List Rn) : Int := p.foldl (fun n x => n + x.2.2) 0
theorem long_snoc (p : List Rn) (x : Rn) : long (p ++ [x]) = long p + x.2.2 := by simp [long]
/-- May a place be? -/
def mayR (p : List Rn) : Prop := 1 ≤ p.length ∧ p.length ≤ 64 ∧ chainR p ∧ long p ≤ 4096
instance (p : List Rn) : Decidable (mayR p) := by unfold mayR; infer_instance
/-- Is it the beginning, or may it be? -/
def anyR (p : List Rn) : Prop := p = [] ∨ mayR p
instance (p : List Rn) : Decidable (anyR p) := by unfold anyR; infer_instance
theorem chainA_snoc (y : Rn) : ∀ (l : List Rn) (x : Rn), chainA x (l ++ [y]) ↔ chainA x l ∧ oneR y ∧ stepR ((x :: l).getLast (by simp)) y := by
  intro l
  induction l with
  | nil => intro x; simp [chainA]
  | cons z l ih =>
    intro x
    simp only [List.cons_append, chainA, ih z]
    rw [List.getLast_cons (by simp : z :: l ≠ [])]
    constructor
    · rintro ⟨a, b, c, d, e⟩; exact ⟨⟨a, b, c⟩, d, e⟩
    · rintro ⟨⟨a, b, c⟩, d, e⟩; exact ⟨a, b, c, d, e⟩
theorem chainR_one (y : Rn) : chainR [y] ↔ oneR y := by simp [chainR, chainA]
theorem chainR_snoc {l : List Rn} (h : l ≠ []) (y : Rn) : chainR (l ++ [y]) ↔ chainR l ∧ oneR y ∧ stepR (l.getLast h) y := by
  match l, h with
  | x :: l, _ =>
    simp only [List.cons_append, chainR, chainA_snoc]
    constructor
    · rintro ⟨a, b, c, d⟩; exact ⟨⟨a, b⟩, c, d⟩
    · rintro ⟨⟨a, b⟩, c, d⟩; exact ⟨a, b, c, d⟩
theorem chainR_tail {x : Rn} {l : List Rn} (h : chainR (x :: l)) : chainR l := by
  cases l with
  | nil => trivial
  | cons y l => exact ⟨h.2.1, h.2.2.2⟩
theorem chainR_mem {l : List Rn} (h : chainR l) : ∀ x ∈ l, oneR x := by
  induction l with
  | nil => intro x hx; cases hx
  | cons y l ih =>
    intro x hx
    rcases List.mem_cons.1 hx with rfl | hx
    · exact h.1
    · exact ih (chainR_tail h) x hx
theorem chainR_append {p q : List Rn} (h : chainR (p ++ q)) : chainR p ∧ chainR q := by
  induction p with
  | nil => exact ⟨trivial, h⟩
  | cons x p ih =>
    obtain ⟨h1, h2⟩ := ih (chainR_tail h)
    refine ⟨?_, h2⟩
    cases p with
    | nil => exact ⟨h.1, trivial⟩
    | cons y p => exact ⟨h.1, h1.1, h.2.2.1, h1.2⟩
/-! ### the order of stamps' lists -/
/-! ### a place is made of its stamps -/
end Go.Proofs.Ytmkpfdcnikgokaa
