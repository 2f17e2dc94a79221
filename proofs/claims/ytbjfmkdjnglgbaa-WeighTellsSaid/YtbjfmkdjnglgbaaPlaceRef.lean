/-
  The document's places: end, one, Long. Condition: parts of their types.
-/
import Derived.Test.YtbjfmkdjnglgbaaPlaceOrder
import Derived.IntWalk
namespace Go.Proofs.Ytbjfmkdjnglgbaa
open Go.RowKit

theorem three_box (w : World) (a b c : Value) (T : TypeId) : ∃ w2, w.alloc (.cells #[a, b, c] T) = w2 ∧ w2.cell? ⟨w.heap.size, 0, none⟩ = some a ∧ w2.cell? ⟨w.heap.size, 1, none⟩ = some b ∧ w2.cell? ⟨w.heap.size, 2, none⟩ = some c ∧ w.heap.size < w2.heap.size ∧ Below w.heap.size w w2 := by
  refine ⟨_, rfl, ?_, ?_, ?_, by simp, boxed _ _⟩
  · rw [World.cell?_alloc_new]; rfl
  · rw [World.cell?_alloc_new]; rfl
  · rw [World.cell?_alloc_new]; rfl

set_option maxRecDepth 100000 in
theorem end_ok (t r m : Int) (w : World) (h1 : 0 ≤ t) (h2 : t ≤ 1073741824) (h3 : 1 ≤ m) (h4 : m ≤ 4096) :
    Calls Try.prog 119 #[.agg #[.int .u32 t, .int .u8 r, .int .i64 m]] w fun e w' => e = .returned (.int .i64 (t + m - 1)) ∧ Below w.heap.size w w' := by
  go_enter Try.func119, Try.ntmps119
  go_wp2_with fail
  go_ret
  exact ⟨rfl, boxed _ _⟩

set_option maxHeartbeats 1600000 in
set_option maxRecDepth 100000 in
theorem refone_any (t r m : Int) (w : World) (hok : okR (t, r, m)) :
    Calls Try.prog 120 #[.agg #[.int .u32 t, .int .u8 r, .int .i64 m]] w fun e w' => e = .returned (.bool (decide (oneR (t, r, m)))) ∧ Below w.heap.size w w' := by
  obtain ⟨i1, i2, i3, i4, i5, i6⟩ := hok
  simp only at i1 i2 i3 i4 i5 i6
  by_cases hh : 1 ≤ t ∧ t ≤ 1073741824 ∧ r < 8 ∧ 1 ≤ m ∧ m ≤ 4096
  · obtain ⟨g1, g2, g3, g4, g5⟩ := hh
    have E := hide (fun w => end_ok t r m w i1 g2 g4 g5)
    by_cases g6 : t + m - 1 ≤ 1073741824
    · have hf := hide (show decide (oneR (t, r, m)) = true from decide_eq_true ⟨g1, g2, g3, g4, g5, g6⟩)
      go_enter Try.func120, Try.ntmps120
      go_wp2_with fail
      obtain ⟨w1, hw1, k0, k1, k2, hs1, hb1⟩ := three_box w (.int .u32 t) (.int .u8 r) (.int .i64 m) 41
      simp only [hw1]
      clear hw1
      refine (unhide E w1).mono ?_
      rintro e w2 ⟨rfl, hb2⟩
      go_wp2_with fail
      go_ret
      exact ⟨ret_bool hf.out.symm, fresh hb1 hb2⟩
    · have hf := hide (show decide (oneR (t, r, m)) = false from decide_eq_false (fun h => g6 h.2.2.2.2.2))
      go_enter Try.func120, Try.ntmps120
      go_wp2_with fail
      obtain ⟨w1, hw1, k0, k1, k2, hs1, hb1⟩ := three_box w (.int .u32 t) (.int .u8 r) (.int .i64 m) 41
      simp only [hw1]
      clear hw1
      refine (unhide E w1).mono ?_
      rintro e w2 ⟨rfl, hb2⟩
      go_wp2_with fail
      go_ret
      exact ⟨ret_bool (by rw [hf.out]; exact decide_eq_false (by omega)), fresh hb1 hb2⟩
  · have hf := hide (show decide (oneR (t, r, m)) = false from decide_eq_false (fun h => hh ⟨h.1, h.2.1, h.2.2.1, h.2.2.2.1, h.2.2.2.2.1⟩))
    have hc : (¬ 1 ≤ t) ∨ (1 ≤ t ∧ ¬ t ≤ 1073741824) ∨ (1 ≤ t ∧ t ≤ 1073741824 ∧ ¬ r < 8) ∨ (1 ≤ t ∧ t ≤ 1073741824 ∧ r < 8 ∧ ¬ 1 ≤ m) ∨ (1 ≤ t ∧ t ≤ 1073741824 ∧ r < 8 ∧ 1 ≤ m ∧ ¬ m ≤ 4096) := by omega
    clear hh
    rcases hc with h1 | ⟨h1, h2⟩ | ⟨h1, h2, h3⟩ | ⟨h1, h2, h3, h4⟩ | ⟨h1, h2, h3, h4, h5⟩
    all_goals
      go_enter Try.func120, Try.ntmps120
      go_wp2_with fail
      go_ret
      exact ⟨ret_bool hf.out.symm, boxed _ _⟩

set_option maxHeartbeats 800000 in
set_option maxRecDepth 100000 in
theorem reflong_any (A : Option Addr) (n c : Nat) (p : List Rn) (w : World) (hr : RR w w.heap.size A p) (hn : p.length = n) (hl : n ≤ 65536) (hm : ∀ x ∈ p, 0 ≤ x.2.2 ∧ x.2.2 ≤ 4097) :
    Calls Try.prog 86 #[.slice A n c] w fun e w' => e = .returned (.int .i64 (long p)) ∧ Below w.heap.size w w' := by
  subst hn
  have Hm := hide hm
  clear hm
  go_enter Try.func86, Try.ntmps86
  go_wp2_with fail
  go_loopw [3, 4] (fun s i wr => ∃ (k : Nat) (y : Int), k ≤ p.length ∧ i = .int .i64 (k : Int) ∧ s = .int .i64 y ∧ 0 ≤ y ∧ y ≤ 4097 * (k : Int) ∧ Hid (y = long (p.take k)) ∧ Below w.heap.size w wr) (fun _ i _ => p.length - (intOf i).toNat)
  case atStart => exact ⟨0, 0, by omega, rfl, rfl, by decide, by decide, hide rfl, Below.refl _ _⟩
  case round =>
    obtain ⟨k, y, hk, rfl, rfl, hy0, hy1, hy, hb⟩ := hrel
    by_cases hlt : k < p.length
    · obtain ⟨b0, o0, rfl, hB0, hC0⟩ := RR.cell (RD.below hr hb) (by omega)
      obtain ⟨d0, d1, d2⟩ := hC0 k hlt
      clear hC0
      have z0 : (k : Int) < p.length := by omega
      have hone := Hm.out p[k] (List.getElem_mem hlt)
      obtain ⟨m, hm⟩ : ∃ m, p[k].2.2 = m := ⟨_, rfl⟩
      rw [hm] at hone d2
      obtain ⟨e4, e5⟩ := hone
      have hnext := hide (show y + m = long (p.take (k + 1)) by rw [List.take_succ_eq_append_getElem hlt, long_snoc, hy.out, hm])
      clear d0 d1 hm
      go_wp2_with fail
      go_roundw
      case rel => exact ⟨k + 1, y + m, by omega, by go_num, rfl, by omega, by omega, hnext, hb⟩
      case measure => simp [intOf]; omega
    · have hz : ¬ (k : Int) < p.length := by omega
      have hyn := hide (show y = long p by rw [hy.out, List.take_of_length_le (by omega)])
      go_wp2_with fail
      go_ret
      exact ⟨ret_int hyn.out, hb⟩
end Go.Proofs.Ytbjfmkdjnglgbaa
