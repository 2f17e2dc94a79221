/-
  What stamp.Next does. Condition: fewer than 2^30 stamps, whose parts are of their types.
-/
import Derived.Test.YtllmlnbgfikeaaaStampLess
namespace Go.Proofs.Ytllmlnbgfikeaaa
open Go.RowKit

/-- Stamps as cells. -/
def ids (l : List (Int × Int)) : List Value := l.flatMap fun a => [.int .u32 a.1, .int .u8 a.2]
theorem ids_len (l : List (Int × Int)) : (ids l).length = l.length * 2 := by
  induction l with
  | nil => rfl
  | cons a l ih => simp only [ids, List.flatMap_cons, List.length_append, List.length_cons, List.length_nil] at *; omega
theorem ids_get (l : List (Int × Int)) : ∀ (i : Nat) (h : i < l.length), (ids l)[i * 2]? = some (.int .u32 l[i].1) ∧ (ids l)[i * 2 + 1]? = some (.int .u8 l[i].2) := by
  induction l with
  | nil => intro i h; simp at h
  | cons a l ih =>
    intro i h
    have e : ids (a :: l) = .int .u32 a.1 :: .int .u8 a.2 :: ids l := rfl
    rw [e]
    cases i with
    | zero => exact ⟨rfl, rfl⟩
    | succ i =>
      have := ih i (by simpa using h)
      rw [show (i + 1) * 2 = i * 2 + 2 by omega]
      exact this
/-- A slice of stamps that reads as l. -/
def RI (w : World) (B : Nat) (A : Option Addr) (l : List (Int × Int)) : Prop := RD w B 2 A l.length (ids l)
theorem RI.cell {w : World} {B : Nat} {A : Option Addr} {l : List (Int × Int)} (h : RI w B A l) (hl : 0 < l.length) :
    ∃ b off, A = some ⟨b, off, none⟩ ∧ b < B ∧ ∀ j (hj : j < l.length), w.cell? ⟨b, off + j * 2, none⟩ = some (.int .u32 l[j].1) ∧ w.cell? ⟨b, off + j * 2 + 1, none⟩ = some (.int .u8 l[j].2) := by
  obtain ⟨b, off, e, hb, hc⟩ := h.2 hl
  exact ⟨b, off, e, hb, fun j hj => ⟨hc (j * 2) _ (ids_get l j hj).1, by have := hc (j * 2 + 1) _ (ids_get l j hj).2; rwa [← Nat.add_assoc] at this⟩⟩
/-- The parts of a stamp are of their types. -/
def okI (a : Int × Int) : Prop := 0 ≤ a.1 ∧ a.1 < 4294967296 ∧ 0 ≤ a.2 ∧ a.2 < 256

def topI (l : List (Int × Int)) : Int := l.foldl (fun m a => max m a.1) 0
theorem topI_snoc (l : List (Int × Int)) (a : Int × Int) : topI (l ++ [a]) = max (topI l) a.1 := by simp [topI]
/-- A stamp that a list may hold: none, or one that may be. -/
def inI (a : Int × Int) : Prop := a = (0, 0) ∨ mayI a.1 a.2
instance (a : Int × Int) : Decidable (inI a) := by unfold inI; infer_instance
def nextI (r : Int) (l : List (Int × Int)) : (Int × Int) × Int :=
  if 1024 < l.length then ((0, 0), 4) else if 8 ≤ r then ((0, 0), 8) else if ∃ a ∈ l, ¬ inI a then ((0, 0), 8)
  else if topI l = 1073741824 then ((0, 0), 50) else ((topI l + 1, r), 0)

set_option maxHeartbeats 1600000 in
set_option maxRecDepth 100000 in
theorem next_any (r : Int) (A : Option Addr) (n c : Nat) (l : List (Int × Int)) (w : World) (hr : RI w w.heap.size A l) (hn : l.length = n) (hl : n < 1073741824) (hok : ∀ a ∈ l, okI a) :
    Calls Try.prog 15 #[.int .u8 r, .slice A n c] w fun e w' => e = .returned (.tuple #[idv (nextI r l).1.1 (nextI r l).1.2, .int .i64 (nextI r l).2]) ∧ Below w.heap.size w w' := by
  subst hn
  by_cases h1 : (1024 : Int) < (l.length : Int)
  · have hfin := hide (show nextI r l = ((0, 0), 4) from if_pos (by omega))
    go_enter Try.func15, Try.ntmps15
    go_wp2_with fail
    rw [hfin.out]
    exact bodyPost_ret (v := .tuple #[.agg #[.int .u32 0, .int .u8 0], .int .i64 4]) (by simp [results, Try.results15, go_sem]) rfl ⟨rfl, boxed _ _⟩
  by_cases h2 : (8 : Int) ≤ r
  · have hfin := hide (show nextI r l = ((0, 0), 8) by unfold nextI; rw [if_neg (by omega), if_pos h2])
    go_enter Try.func15, Try.ntmps15
    go_wp2_with fail
    rw [hfin.out]
    exact bodyPost_ret (v := .tuple #[.agg #[.int .u32 0, .int .u8 0], .int .i64 8]) (by simp [results, Try.results15, go_sem]) rfl ⟨rfl, boxed _ _⟩
  have hnext := hide (show nextI r l = if ∃ a ∈ l, ¬ inI a then ((0, 0), 8) else if topI l = 1073741824 then ((0, 0), 50) else ((topI l + 1, r), 0) by
    unfold nextI; rw [if_neg (by omega), if_neg h2])
  have Hok := hide hok
  clear hok
  go_enter Try.func15, Try.ntmps15
  go_wp2_with fail
  have hb1 := boxed w (.cells #[.int .u32 0, .int .u8 0] 31)
  have hr1 : RI (w.alloc (.cells #[.int .u32 0, .int .u8 0] 31)) w.heap.size A l := RD.alloc hr (Nat.le_refl _) _
  have hq : ∀ wr, Below (w.alloc (.cells #[.int .u32 0, .int .u8 0] 31)).heap.size (w.alloc (.cells #[.int .u32 0, .int .u8 0] 31)) wr → wr.cell? ⟨w.heap.size, 0, none⟩ = some (.int .u32 0) ∧ wr.cell? ⟨w.heap.size, 1, none⟩ = some (.int .u8 0) ∧ wr.frozen? ⟨w.heap.size, 0, none⟩ = false ∧ wr.frozen? ⟨w.heap.size, 1, none⟩ = false ∧ w.heap.size < wr.heap.size := by
    intro wr hb
    have hlt : w.heap.size < (w.alloc (.cells #[.int .u32 0, .int .u8 0] 31)).heap.size := by simp
    refine ⟨(hb.cell (p := ⟨w.heap.size, 0, none⟩) hlt).trans ?_, (hb.cell (p := ⟨w.heap.size, 1, none⟩) hlt).trans ?_, (hb.frozen (p := ⟨w.heap.size, 0, none⟩) hlt).trans ?_, (hb.frozen (p := ⟨w.heap.size, 1, none⟩) hlt).trans ?_, Nat.lt_of_lt_of_le hlt hb.size⟩
    · rw [World.cell?_alloc_new]; rfl
    · rw [World.cell?_alloc_new]; rfl
    · simp
    · simp
  have Hq := hide hq
  clear hq
  go_loopw [6, 18] (fun m i wr => ∃ (k : Nat) (y : Int), k ≤ l.length ∧ i = .int .i64 (k : Int) ∧ m = .int .u32 y ∧ Hid (y = topI (l.take k)) ∧ 0 ≤ y ∧ y ≤ 1073741824 ∧ Hid (∀ a ∈ l.take k, inI a) ∧ Below (w.alloc (.cells #[.int .u32 0, .int .u8 0] 31)).heap.size (w.alloc (.cells #[.int .u32 0, .int .u8 0] 31)) wr) (fun _ i _ => l.length - (intOf i).toNat)
  case atStart => exact ⟨0, 0, by omega, rfl, rfl, hide rfl, by decide, by decide, hide (fun a ha => by simp at ha), Below.refl _ _⟩
  case round =>
    obtain ⟨k, y, hk, rfl, rfl, hy, hy0, hy1, hT, hb⟩ := hrel
    have hbw := hb1.trans (hb.mono (by simp))
    by_cases hlt : k < l.length
    · obtain ⟨b0, o0, rfl, hB0, hC0⟩ := RI.cell (RD.below hr1 (hb.mono (by simp))) (by omega)
      obtain ⟨d0, d1⟩ := hC0 k hlt
      clear hC0
      have z0 : (k : Int) < l.length := by omega
      obtain ⟨t, ht⟩ : ∃ t, t = l[k].1 := ⟨_, rfl⟩
      obtain ⟨s, hs⟩ : ∃ s, s = l[k].2 := ⟨_, rfl⟩
      rw [← ht] at d0
      rw [← hs] at d1
      have hel : l[k] = (t, s) := by rw [ht, hs]
      have hokk := Hok.out l[k] (List.getElem_mem hlt)
      rw [hel] at hokk
      obtain ⟨t0, t1, s0, s1⟩ := hokk
      simp only at t0 t1 s0 s1
      have Hel := hide hel
      clear ht hs hel
      have hbox := (Below.refl (w.alloc (.cells #[.int .u32 0, .int .u8 0] 31)).heap.size wr).alloc hb.size (.cells #[.int .u32 t, .int .u8 s] 31)
      by_cases hin : inI (t, s)
      · have hT' := hide (show ∀ a ∈ l.take (k + 1), inI a by
          intro a ha
          rw [List.take_succ_eq_append_getElem hlt, Hel.out] at ha
          rcases List.mem_append.1 ha with h | h
          · exact hT.out a h
          · simp at h; subst h; exact hin)
        have hy' := hide (show max y t = topI (l.take (k + 1)) by rw [List.take_succ_eq_append_getElem hlt, Hel.out, topI_snoc, hy.out])
        have ht30 : t ≤ 1073741824 := by
          rcases hin with h | h
          · simp at h; omega
          · exact h.2.1
        rcases hin with h0 | hmay
        · simp only [Prod.mk.injEq] at h0
          obtain ⟨rfl, rfl⟩ := h0
          have hm : max y 0 = y := by omega
          have hyt := hide (show y = topI (l.take (k + 1)) by rw [← hy'.out, hm])
          have hbA := hb.trans hbox
          clear hy' hy
          go_wp2_with fail
          go_roundw
          case rel => exact ⟨k + 1, y, by omega, by go_num, rfl, hyt, hy0, hy1, hT', hbA⟩
          case measure => simp [intOf]; omega
        · have tn : ¬ t = 0 := by have := hmay.1; simp only at this; omega
          have Hmay := hide hmay
          clear hmay
          by_cases hm : y < t
          all_goals
            go_wp2_with fail
            refine (scheck_yes t s _ Hmay.out).mono ?_
            rintro e w2 ⟨rfl, hb2⟩
            have p0 : w2.cell? ⟨wr.heap.size, 0, none⟩ = some (.int .u32 t) := (hb2.cell (p := ⟨wr.heap.size, 0, none⟩) (by simp)).trans (by rw [World.cell?_alloc_new]; rfl)
            have hbB := hb.trans (hbox.trans (hb2.mono (by simp; have := hb.size; simp at this; omega)))
            go_wp2_with fail
            go_roundw
            case rel =>
              first
                | exact ⟨k + 1, t, by omega, by go_num, rfl, hide (by rw [← hy'.out]; omega), t0, ht30, hT', hbB⟩
                | exact ⟨k + 1, y, by omega, by go_num, rfl, hide (by rw [← hy'.out]; omega), hy0, hy1, hT', hbB⟩
            case measure => simp [intOf]; omega
      · have hfin := hide (show nextI r l = ((0, 0), 8) from hnext.out.trans (if_pos ⟨l[k], List.getElem_mem hlt, by rw [Hel.out]; exact hin⟩))
        have Hno := hide (show ¬ mayI t s from fun h => hin (.inr h))
        have hts : (t = 0 ∧ ¬ s = 0) ∨ ¬ t = 0 := by
          by_cases h : t = 0
          · exact .inl ⟨h, fun h2 => hin (.inl (by rw [h, h2]))⟩
          · exact .inr h
        clear hin
        rcases hts with ⟨rfl, sn⟩ | tn
        all_goals
          go_wp2_with fail
          refine (scheck_no _ s _ Hno.out).mono ?_
          rintro e w2 ⟨rfl, hb2⟩
          obtain ⟨q0, q1, q2, q3, q4⟩ := Hq.out w2 (hb.trans (hbox.trans (hb2.mono (by simp; have := hb.size; simp at this; omega))))
          have hbw2 := hbw.trans ((fresh (boxed _ _) hb2).mono hbw.size)
          go_wp2_with fail
          rw [hfin.out]
          exact bodyPost_ret (v := .tuple #[.agg #[.int .u32 0, .int .u8 0], .int .i64 8]) (by simp [results, Try.results15, go_sem, q0, q1]) rfl ⟨rfl, (hbw2.setCell (Nat.le_refl _) _).setCell (Nat.le_refl _) _⟩
    · have hkl : ¬ (k : Int) < l.length := by omega
      have hall : l.take k = l := List.take_of_length_le (by omega)
      have hT' := hT.out
      have hy' := hy.out
      rw [hall] at hT' hy'
      obtain ⟨q0, q1, q2, q3, q4⟩ := Hq.out wr hb
      by_cases htop : y = 1073741824
      · have hfin := hide (show nextI r l = ((0, 0), 50) from hnext.out.trans (by rw [if_neg (fun ⟨a, ha, hna⟩ => hna (hT' a ha)), if_pos (by rw [← hy', htop])]))
        have hbe : (y == 1073741824) = true := by simp [htop]
        clear hT' hy' hall htop hT hy
        go_wp2_with fail
        rw [hfin.out]
        exact bodyPost_ret (v := .tuple #[.agg #[.int .u32 0, .int .u8 0], .int .i64 50]) (by simp [results, Try.results15, go_sem, q0, q1]) rfl ⟨rfl, (hbw.setCell (Nat.le_refl _) _).setCell (Nat.le_refl _) _⟩
      · have hfin := hide (show nextI r l = ((y + 1, r), 0) from hnext.out.trans (by rw [if_neg (fun ⟨a, ha, hna⟩ => hna (hT' a ha)), if_neg (by rw [← hy']; exact htop), ← hy']))
        have hbe : (y == 1073741824) = false := by simpa using htop
        clear hT' hy' hall htop hT hy
        go_wp2_with fail
        rw [hfin.out]
        exact bodyPost_ret (v := .tuple #[.agg #[.int .u32 (y + 1), .int .u8 r], .int .i64 0]) (by simp [results, Try.results15, go_sem, q0, q1]) rfl ⟨rfl, (hbw.setCell (Nat.le_refl _) _).setCell (Nat.le_refl _) _⟩
end Go.Proofs.Ytllmlnbgfikeaaa
