/-
  octavoref06.cut. Condition: parts of their types.
-/
import Derived.Test.YtbjfmkdjnglgbaaPlaceRef
import Derived.Test.YtbjfmkdjnglgbaaPastQ
import Derived.Test.YtbjfmkdjnglgbaaStepAppend
namespace Go.Proofs.Ytbjfmkdjnglgbaa
open Go.RowKit

/-- What cut leaves. -/
def cutR (x : Rn) (l : List Rn) (k : Int) : List Rn := if x.2.2 = k then l else (x.1 + k, x.2.1, x.2.2 - k) :: l
theorem RR.rest {w : World} {B b off : Nat} {x : Rn} {l : List Rn} (h : RR w B (some ⟨b, off, none⟩) (x :: l)) : RR w B (some ⟨b, off + 3, none⟩) l := by
  refine ⟨rns_len l, fun hn => ?_⟩
  obtain ⟨b', off', e, hb, hc⟩ := h.2 (by simp)
  simp only [Option.some.injEq, Addr.mk.injEq, and_true] at e
  obtain ⟨rfl, rfl⟩ := e
  refine ⟨b, off + 3, rfl, hb, fun j u hu => ?_⟩
  have := hc (j + 3) u (by rw [rns_cons]; simpa using hu)
  rwa [show off + 3 + j = off + (j + 3) by omega]
theorem RR.empty (w : World) (B : Nat) (A : Option Addr) : RR w B A [] := ⟨rfl, fun h => absurd h (by decide)⟩

theorem own_one (w : World) (t r m : Int) : (w.alloc (.cells #[.int .u32 t, .int .u8 r, .int .i64 m] 41)).ownsRow w.heap.size 41 3 (.slice (some ⟨w.heap.size, 0, none⟩) 1 1) 1 (rns [(t, r, m)]) :=
  ⟨by simp [rns], .inr ⟨w.heap.size, 1, _, rfl, Nat.le_refl _, heap_alloc_new _ _, Nat.le_refl _, by decide, rfl, rfl⟩⟩

set_option maxHeartbeats 3200000 in
set_option maxRecDepth 100000 in
theorem refcut_ok (A : Option Addr) (n c : Nat) (t r m many : Int) (l : List Rn) (w : World) (hr : RR w w.heap.size A ((t, r, m) :: l)) (hn : l.length + 1 = n) (hnc : n ≤ c) (hl : n < 1073741824) (ho : oneR (t, r, m)) (h1 : 1 ≤ many) (h2 : many ≤ m) :
    Calls Try.prog 128 #[.slice A n c, .int .i64 many] w fun e w' => ∃ A' c', e = .returned (.slice A' (cutR (t, r, m) l many).length c') ∧ (cutR (t, r, m) l many).length ≤ c' ∧ RR w' w'.heap.size A' (cutR (t, r, m) l many) ∧ Below w.heap.size w w' := by
  obtain ⟨q1, q2, q3, q4, q5, q6⟩ := ho
  simp only at q1 q2 q3 q4 q5 q6
  obtain ⟨b0, o0, rfl, hB0, hC0⟩ := RR.cell hr (by simp)
  obtain ⟨d0, d1, d2⟩ := hC0 0 (by simp)
  simp only [List.getElem_cons_zero, Nat.zero_mul, Nat.add_zero] at d0 d1 d2
  clear hC0
  have hrest := hide hr.rest
  have z0 : (0 : Int) < n := by omega
  have zN : 0 < n := by omega
  have z1 : (1 : Int) ≤ n := by omega
  have z2 : (n : Int) ≤ c := by omega
  by_cases he : m = many
  · have hq := hide (show cutR (t, r, m) l many = l from if_pos he)
    subst he
    have hcs : c = 1 ∨ ¬ c = 1 := by omega
    rcases hcs with hc1 | hc1
    · have hl0 : l = [] := List.eq_nil_of_length_eq_zero (by omega)
      subst hc1
      have hn1 : n = 1 := by omega
      subst hn1
      go_enter Try.func128, Try.ntmps128
      go_wp2_with fail
      go_ret
      exact ⟨some ⟨b0, o0, none⟩, 0, by rw [hq.out, hl0]; rfl, by rw [hq.out, hl0]; exact Nat.le_refl _, by rw [hq.out, hl0]; exact RR.empty _ _ _, Below.refl _ _⟩
    · go_enter Try.func128, Try.ntmps128
      go_wp2_with fail
      go_ret
      have hnl : n - 1 = l.length := by omega
      exact ⟨some ⟨b0, o0 + 3, none⟩, c - 1, by rw [hq.out, ← hnl]; rfl, by rw [hq.out]; omega, by rw [hq.out]; exact hrest.out, Below.refl _ _⟩
  · have hq := hide (show cutR (t, r, m) l many = (t + many, r, m - many) :: l from if_neg he)
    have hz : (m == many) = false := by simpa using he
    have zq : IntKind.u32.wrap many = many := IntWalk.u32_in _ (by omega)
    have zt : IntKind.u32.wrap (t + many) = t + many := IntWalk.u32_in _ (by omega)
    have zm : IntKind.i64.wrap (m - many) = m - many := IntWalk.i64_in _ (by omega)
    obtain ⟨i0, hi0, hz0, hz1, hz2⟩ := info_parts rinfo
    go_enter Try.func128, Try.ntmps128
    go_wp2_with fail
    go_region_held3 (fun w' => w'.cell? ⟨b0, o0, none⟩ = some (.int .u32 t) ∧ w'.cell? ⟨b0, o0 + 1, none⟩ = some (.int .u8 r) ∧ w'.cell? ⟨b0, o0 + 2, none⟩ = some (.int .i64 m)) (go_keep) (fail)
    clear zq zt zm
    obtain ⟨w1, hw1⟩ : ∃ w1, (w.alloc (.cells #[.int .u32 (t + many), .int .u8 r, .int .i64 (m - many)] 41)).drew = w1 := ⟨_, rfl⟩
    have hb1 : Below w.heap.size w w1 := by rw [← hw1]; exact (boxed _ _).drew
    have hown : w1.ownsRow w.heap.size 41 3 (.slice (some ⟨w.heap.size, 0, none⟩) 1 1) 1 (rns [(t + many, r, m - many)]) := by rw [← hw1]; exact (own_one _ _ _ _).drew
    rw [hw1]
    clear hw1 d0 d1 d2
    have hcs : c = 1 ∨ ¬ c = 1 := by omega
    rcases hcs with hc1 | hc1
    · have hl0 : l = [] := List.eq_nil_of_length_eq_zero (by omega)
      have hn1 : n = 1 := by omega
      subst hc1
      subst hn1
      subst hl0
      go_wp2_with fail
      go_ret
      exact ⟨some ⟨w.heap.size, 0, none⟩, 1, by rw [hq.out]; rfl, by rw [hq.out]; exact Nat.le_refl _, by rw [hq.out]; exact RR.of_own hown rfl, hb1⟩
    · have hnl : n - 1 = l.length := by omega
      have hsrc : RD w1 w1.heap.size 3 (some ⟨b0, o0 + 3, none⟩) l.length (rns l) := RR.below' hrest.out hb1
      go_wp2_with (at_builtin; refine wpList_append_src _ rfl (.tmp 33) (.tmp 35) 22 rfl w.heap.size 41 i0 (.agg #[.int .u32 0, .int .u8 0, .int .i64 0]) 3 16 Try.underlying22 hi0 hz0 hz1 hz2 rfl (by decide) _ 1 (rns [(t + many, r, m - many)]) rfl hown w1.heap.size (some ⟨b0, o0 + 3, none⟩) l.length (c - 1) (rns l) rfl hsrc (rns_one _) (by omega) (by decide) hb1.size ?_; intro v8 w8 hown8 hb8)
      go_ret
      have hown8 : w8.ownsRow w.heap.size 41 3 v8 (1 + l.length) (rns ((t + many, r, m - many) :: l)) := hown8
      obtain ⟨A7, c7, rfl, hc7, -, -⟩ := own_slice hown8
      refine ⟨A7, c7, ?_, ?_, ?_, hb1.trans hb8⟩
      · rw [hq.out, List.length_cons, Nat.add_comm]; rfl
      · rw [hq.out, List.length_cons]; omega
      · rw [hq.out]; exact RR.of_own hown8 (by simp; omega)
end Go.Proofs.Ytbjfmkdjnglgbaa
