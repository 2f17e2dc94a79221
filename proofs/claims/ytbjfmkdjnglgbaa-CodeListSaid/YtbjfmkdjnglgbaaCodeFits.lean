/-
  What octavoref10's behind and fits do. Condition: numbers from 0 to 2^30.
-/
import Derived.Test.YtbjfmkdjnglgbaaCodeNumbers
namespace Go.Proofs.Ytbjfmkdjnglgbaa
open Go.RowKit

set_option maxRecDepth 100000 in
theorem behind_ok (k : Int) (w : World) : Calls Try.prog 104 #[.int .i64 k] w fun e w' => e = .returned (.int .i64 (behindN k : Int)) ∧ w' = w := by
  have hc : (k == 1) = true ∨ ((k == 1) = false ∧ (k == 2) = true) ∨ ((k == 1) = false ∧ (k == 2) = false) := by
    cases (k == 1) <;> cases (k == 2) <;> simp
  rcases hc with h | ⟨h, h2⟩ | ⟨h, h2⟩
  · have hb := hide (show behindN k = 1 from if_pos (by simpa using h))
    go_enter Try.func104, Try.ntmps104
    go_wp2_with fail
    go_ret
    exact ⟨by rw [hb.out]; rfl, rfl⟩
  · have hb := hide (show behindN k = 0 from (if_neg (by simpa using h)).trans (if_pos (by simpa using h2)))
    go_enter Try.func104, Try.ntmps104
    go_wp2_with fail
    go_ret
    exact ⟨by rw [hb.out]; rfl, rfl⟩
  · have hb := hide (show behindN k = 2 from (if_neg (by simpa using h)).trans (if_neg (by simpa using h2)))
    go_enter Try.func104, Try.ntmps104
    go_wp2_with fail
    go_ret
    exact ⟨by rw [hb.out]; rfl, rfl⟩

/-- A slice of numbers that is read. -/
def RN (w : World) (B : Nat) (A : Option Addr) (L : List Int) : Prop := RD w B 1 A L.length (i64s L)
theorem RN.cell {w : World} {B : Nat} {A : Option Addr} {L : List Int} (h : RN w B A L) (hl : 0 < L.length) : ∃ b off, A = some ⟨b, off, none⟩ ∧ b < B ∧ ∀ j (hj : j < L.length), w.cell? ⟨b, off + j, none⟩ = some (.int .i64 L[j]) := by
  obtain ⟨b, off, e, hb, hc⟩ := h.2 hl
  exact ⟨b, off, e, hb, fun j hj => hc j _ (by simp [i64s, hj])⟩

set_option maxHeartbeats 3200000 in
set_option maxRecDepth 100000 in
theorem fits_any (A : Option Addr) (n c m : Nat) (L : List Int) (w : World) (hr : RN w w.heap.size A L) (hn : L.length = n) (hm : n = 3 * m) (hm1 : 1 ≤ m) (hm9 : m ≤ 64) (hL : ∀ x ∈ L, 0 ≤ x ∧ x ≤ 1073741824) :
    Calls Try.prog 105 #[.slice A n c] w fun e w' => e = .returned (.bool (decide (fitsR 0 L))) ∧ Below w.heap.size w w' := by
  have HL := hide hL
  have Hn := hide hn
  obtain ⟨b0, o0, rfl, hB, hC⟩ := RN.cell hr (by omega)
  have HC := hide hC
  clear hL hn hr hC
  have hn9 : (n : Int) ≤ 192 := by omega
  have Hm := hide hm
  clear hm
  go_enter Try.func105, Try.ntmps105
  go_wp2_with fail
  go_loopw [3, 4] (fun v i wr => ∃ (j : Nat) (was : Int), j ≤ m ∧ i = .int .i64 ((3 * j : Nat) : Int) ∧ v = .int .i64 was ∧ 0 ≤ was ∧ was ≤ 1073741824 ∧ Hid (decide (fitsR 0 L) = decide (fitsR was (L.drop (3 * j)))) ∧ Below w.heap.size w wr) (fun _ i _ => n - (intOf i).toNat)
  case atStart => exact ⟨0, 0, by omega, rfl, rfl, by decide, by decide, hide rfl, Below.refl _ _⟩
  case round =>
    obtain ⟨j, was, hj, rfl, rfl, hw0, hw9, hG, hb⟩ := hrel
    have hm := Hm.out
    by_cases hlt : j < m
    · have h3 : 3 * j + 2 < L.length := by rw [Hn.out]; omega
      obtain ⟨i, hi⟩ : ∃ i, i = 3 * j := ⟨_, rfl⟩
      rw [← hi] at hG h3 ⊢
      obtain ⟨d, hd⟩ : ∃ x, L[i] = x := ⟨_, rfl⟩
      obtain ⟨r, hr⟩ : ∃ x, L[i + 1] = x := ⟨_, rfl⟩
      obtain ⟨x, hx⟩ : ∃ x, L[i + 2] = x := ⟨_, rfl⟩
      have bd := HL.out L[i] (List.getElem_mem (by omega))
      have br := HL.out L[i + 1] (List.getElem_mem (by omega))
      have bx := HL.out L[i + 2] (List.getElem_mem (by omega))
      have hdrop : L.drop i = d :: r :: x :: L.drop (i + 3) := by
        rw [List.drop_eq_getElem_cons (by omega), List.drop_eq_getElem_cons (by omega), List.drop_eq_getElem_cons (by omega), hd, hr, hx]
      rw [hdrop] at hG
      have e0 := HC.out i (by omega)
      have e1 := HC.out (i + 1) (by omega)
      have e2 := HC.out (i + 2) (by omega)
      rw [hd] at e0 bd
      rw [hr] at e1 br
      rw [hx] at e2 bx
      replace e0 := keep_cell hb hB e0
      replace e1 := keep_cell hb hB e1
      replace e2 := keep_cell hb hB e2
      have z0 : (i : Int) + 2 < n := by have := Hn.out; omega
      have z1 : (i : Int) + 1 < n := by omega
      have z2 : (i : Int) < n := by omega
      have z3 : (0 : Int) ≤ i := by omega
      have z4 : (0 : Int) ≤ (i : Int) + 1 := by omega
      have z5 : (0 : Int) ≤ (i : Int) + 2 := by omega
      have z6 : ((i : Int) + 1).toNat = i + 1 := by omega
      have z7 : ((i : Int) + 2).toNat = i + 2 := by omega
      have w1' : IntKind.i64.wrap ((i : Int) + 1) = (i : Int) + 1 := IntWalk.i64_in _ (by omega)
      have w2' : IntKind.i64.wrap ((i : Int) + 2) = (i : Int) + 2 := IntWalk.i64_in _ (by omega)
      have w3' : IntKind.i64.wrap ((i : Int) + 3) = (i : Int) + 3 := IntWalk.i64_in _ (by omega)
      obtain ⟨bd1, bd2⟩ := bd
      obtain ⟨br1, br2⟩ := br
      obtain ⟨bx1, bx2⟩ := bx
      have hways : (d < 1 ∧ ¬ fitsR was (d :: r :: x :: L.drop (i + 3))) ∨ (¬ d < 1 ∧ x < 1 ∧ ¬ fitsR was (d :: r :: x :: L.drop (i + 3))) ∨ (¬ d < 1 ∧ ¬ x < 1 ∧ 4096 < x ∧ ¬ fitsR was (d :: r :: x :: L.drop (i + 3))) ∨ (¬ d < 1 ∧ ¬ x < 1 ∧ ¬ 4096 < x ∧ 255 < r ∧ ¬ fitsR was (d :: r :: x :: L.drop (i + 3))) ∨
          (¬ d < 1 ∧ ¬ x < 1 ∧ ¬ 4096 < x ∧ ¬ 255 < r ∧ 1073741824 < was + (d + x - 1) ∧ ¬ fitsR was (d :: r :: x :: L.drop (i + 3))) ∨ (¬ d < 1 ∧ ¬ x < 1 ∧ ¬ 4096 < x ∧ ¬ 255 < r ∧ ¬ 1073741824 < was + (d + x - 1) ∧ (fitsR was (d :: r :: x :: L.drop (i + 3)) ↔ fitsR (was + d + x - 1) (L.drop (i + 3)))) := by
        by_cases g1 : d < 1
        · exact .inl ⟨g1, fun h => by have := h.1; omega⟩
        by_cases g2 : x < 1
        · exact .inr (.inl ⟨g1, g2, fun h => by have := h.2.1; omega⟩)
        by_cases g3 : 4096 < x
        · exact .inr (.inr (.inl ⟨g1, g2, g3, fun h => by have := h.2.2.1; omega⟩))
        by_cases g4 : 255 < r
        · exact .inr (.inr (.inr (.inl ⟨g1, g2, g3, g4, fun h => by have := h.2.2.2.1; omega⟩)))
        by_cases g5 : 1073741824 < was + (d + x - 1)
        · exact .inr (.inr (.inr (.inr (.inl ⟨g1, g2, g3, g4, g5, fun h => by have := h.2.2.2.2.1; omega⟩))))
        · exact .inr (.inr (.inr (.inr (.inr ⟨g1, g2, g3, g4, g5, ⟨fun h => h.2.2.2.2.2, fun h => ⟨by omega, by omega, by omega, by omega, by omega, h⟩⟩⟩))))
      have Hi := hide hi
      clear hd hr hx hdrop h3 hi hm
      rcases hways with ⟨g1, hf⟩ | ⟨g1, g2, hf⟩ | ⟨g1, g2, g3, hf⟩ | ⟨g1, g2, g3, g4, hf⟩ | ⟨g1, g2, g3, g4, g5, hf⟩ | ⟨g1, g2, g3, g4, g5, hf⟩
      · have Hf := hide (hG.out.trans (decide_eq_false hf))
        clear hG hf
        go_wp2_with fail
        go_ret
        exact ⟨ret_bool Hf.out.symm, hb⟩
      · have Hf := hide (hG.out.trans (decide_eq_false hf))
        clear hG hf
        go_wp2_with fail
        go_ret
        exact ⟨ret_bool Hf.out.symm, hb⟩
      · have Hf := hide (hG.out.trans (decide_eq_false hf))
        clear hG hf
        go_wp2_with fail
        go_ret
        exact ⟨ret_bool Hf.out.symm, hb⟩
      · have Hf := hide (hG.out.trans (decide_eq_false hf))
        clear hG hf
        go_wp2_with fail
        go_ret
        exact ⟨ret_bool Hf.out.symm, hb⟩
      · have Hf := hide (hG.out.trans (decide_eq_false hf))
        have w4' : IntKind.i64.wrap (d + x) = d + x := IntWalk.i64_in _ (by omega)
        have w5' : IntKind.i64.wrap (d + x - 1) = d + x - 1 := IntWalk.i64_in _ (by omega)
        have w6' : IntKind.i64.wrap (was + (d + x - 1)) = was + (d + x - 1) := IntWalk.i64_in _ (by omega)
        clear hG hf
        go_wp2_with fail
        go_quiet (fail)
        go_wp2_with fail
        go_ret
        exact ⟨ret_bool Hf.out.symm, below_drewN hb _⟩
      · have Hf := hide (show decide (fitsR 0 L) = decide (fitsR (was + d + x - 1) (L.drop (i + 3))) by
          rw [hG.out]
          exact decide_eq_decide.2 hf)
        have w4' : IntKind.i64.wrap (d + x) = d + x := IntWalk.i64_in _ (by omega)
        have w5' : IntKind.i64.wrap (d + x - 1) = d + x - 1 := IntWalk.i64_in _ (by omega)
        have w6' : IntKind.i64.wrap (was + (d + x - 1)) = was + (d + x - 1) := IntWalk.i64_in _ (by omega)
        clear hG hf
        go_wp2_with fail
        go_quiet (fail)
        go_wp2_with fail
        go_roundw
        case rel =>
          have e3 : 3 * (j + 1) = i + 3 := by have := Hi.out; omega
          refine ⟨j + 1, was + (d + x - 1), by omega, by rw [e3]; go_num, by go_num, by omega, by omega, hide ?_, below_drewN hb _⟩
          rw [e3, Hf.out, show was + d + x - 1 = was + (d + x - 1) by omega]
        case measure =>
          have := Hi.out
          have := Hm.out
          simp [intOf]
          omega
    · have hjm : j = m := by omega
      have Hf := hide (show decide (fitsR 0 L) = true by
        rw [hG.out, List.drop_eq_nil_of_le (by rw [Hn.out]; omega)]
        rfl)
      obtain ⟨i, hi⟩ : ∃ i, i = 3 * j := ⟨_, rfl⟩
      rw [← hi]
      have z0 : ¬ (i : Int) + 2 < n := by omega
      have w2' : IntKind.i64.wrap ((i : Int) + 2) = (i : Int) + 2 := IntWalk.i64_in _ (by omega)
      clear hG hi hm
      go_wp2_with fail
      go_ret
      exact ⟨ret_bool Hf.out.symm, hb⟩
end Go.Proofs.Ytbjfmkdjnglgbaa
