/-
  What octavoref05 does: Check, Top, Next: the same as stamp. Condition: fewer than 2^30 stamps, whose parts are of their types.
-/
import Derived.Test.YtllmlnbgfikeaaaStampNames
namespace Go.Proofs.Ytllmlnbgfikeaaa
open Go.RowKit

/-- The number that Check answers. -/
def chkI (t r : Int) : Int := if mayI t r then 0 else 8
theorem scheck_any (t r : Int) (w : World) :
    Calls Try.prog 18 #[.agg #[.int .u32 t, .int .u8 r]] w fun e w' => e = .returned (.int .i64 (chkI t r)) ∧ Below w.heap.size w w' := by
  unfold chkI
  by_cases h : mayI t r
  · rw [if_pos h]; exact scheck_yes t r w h
  · rw [if_neg h]; exact scheck_no t r w h

set_option maxHeartbeats 400000 in
set_option maxRecDepth 100000 in
theorem refcheck_any (t r : Int) (w : World) :
    Calls Try.prog 20 #[.agg #[.int .u32 t, .int .u8 r]] w fun e w' => e = .returned (.int .i64 (chkI t r)) ∧ Below w.heap.size w w' := by
  by_cases h : mayI t r
  · have hf := hide (show chkI t r = 0 from if_pos h)
    have hd := hide (decide_eq_true h)
    clear h
    go_enter Try.func20, Try.ntmps20
    go_wp2_with fail
    refine (refmay_any t r _).mono ?_
    rintro e w1 ⟨rfl, hb1⟩
    rw [hd.out]
    go_wp2_with fail
    go_ret
    exact ⟨ret_int hf.out.symm, fresh (boxed w _) hb1⟩
  · have hf := hide (show chkI t r = 8 from if_neg h)
    have hd := hide (decide_eq_false h)
    clear h
    go_enter Try.func20, Try.ntmps20
    go_wp2_with fail
    refine (refmay_any t r _).mono ?_
    rintro e w1 ⟨rfl, hb1⟩
    rw [hd.out]
    go_wp2_with fail
    go_ret
    exact ⟨ret_int hf.out.symm, fresh (boxed w _) hb1⟩

set_option maxHeartbeats 800000 in
set_option maxRecDepth 100000 in
theorem reftop_any (A : Option Addr) (n c : Nat) (l : List (Int × Int)) (w : World) (hr : RI w w.heap.size A l) (hn : l.length = n) (hl : n < 1073741824) :
    Calls Try.prog 32 #[.slice A n c] w fun e w' => e = .returned (.int .u32 (topI l)) ∧ w = w' := by
  subst hn
  go_enter Try.func32, Try.ntmps32
  go_wp2_with fail
  go_loop [3, 4] (fun m i => ∃ (k : Nat) (y : Int), k ≤ l.length ∧ i = .int .i64 (k : Int) ∧ m = .int .u32 y ∧ Hid (y = topI (l.take k))) (fun _ i => l.length - (intOf i).toNat)
  case atStart => exact ⟨0, 0, by omega, rfl, rfl, hide rfl⟩
  case round =>
    obtain ⟨k, y, hk, rfl, rfl, hy⟩ := hrel
    by_cases hlt : k < l.length
    · obtain ⟨b0, o0, rfl, hB0, hC0⟩ := RI.cell hr (by omega)
      obtain ⟨d0, -⟩ := hC0 k hlt
      clear hC0
      have z0 : (k : Int) < l.length := by omega
      obtain ⟨t, ht⟩ : ∃ t, t = l[k].1 := ⟨_, rfl⟩
      rw [← ht] at d0
      have hy' := hide (show max y t = topI (l.take (k + 1)) by rw [List.take_succ_eq_append_getElem hlt, topI_snoc, hy.out, ht])
      clear ht
      by_cases hm : y < t
      · go_wp2_with fail
        go_round
        case rel => exact ⟨k + 1, t, by omega, by go_num, rfl, hide (by rw [← hy'.out]; omega)⟩
        case measure => simp [intOf]; omega
      · go_wp2_with fail
        go_round
        case rel => exact ⟨k + 1, y, by omega, by go_num, rfl, hide (by rw [← hy'.out]; omega)⟩
        case measure => simp [intOf]; omega
    · have hkl : ¬ (k : Int) < l.length := by omega
      have hfin := hide (show y = topI l by rw [hy.out, List.take_of_length_le (by omega)])
      go_wp2_with fail
      go_ret
      exact ⟨ret_int hfin.out, rfl⟩

set_option maxHeartbeats 1600000 in
set_option maxRecDepth 100000 in
theorem refnext_any (r : Int) (A : Option Addr) (n c : Nat) (l : List (Int × Int)) (w : World) (hr : RI w w.heap.size A l) (hn : l.length = n) (hl : n < 1073741824) (hok : ∀ a ∈ l, okI a) :
    Calls Try.prog 19 #[.int .u8 r, .slice A n c] w fun e w' => e = .returned (.tuple #[idv (nextI r l).1.1 (nextI r l).1.2, .int .i64 (nextI r l).2]) ∧ Below w.heap.size w w' := by
  subst hn
  by_cases h1 : (1024 : Int) < (l.length : Int)
  · have hfin := hide (show nextI r l = ((0, 0), 4) from if_pos (by omega))
    go_enter Try.func19, Try.ntmps19
    go_wp2_with fail
    rw [hfin.out]
    exact bodyPost_ret (v := .tuple #[.agg #[.int .u32 0, .int .u8 0], .int .i64 4]) (by simp [results, Try.results19, go_sem]) rfl ⟨rfl, boxed _ _⟩
  by_cases h2 : (8 : Int) ≤ r
  · have hfin := hide (show nextI r l = ((0, 0), 8) by unfold nextI; rw [if_neg (by omega), if_pos h2])
    go_enter Try.func19, Try.ntmps19
    go_wp2_with fail
    rw [hfin.out]
    exact bodyPost_ret (v := .tuple #[.agg #[.int .u32 0, .int .u8 0], .int .i64 8]) (by simp [results, Try.results19, go_sem]) rfl ⟨rfl, boxed _ _⟩
  have hnext := hide (show nextI r l = if ∃ a ∈ l, ¬ inI a then ((0, 0), 8) else if topI l = 1073741824 then ((0, 0), 50) else ((topI l + 1, r), 0) by
    unfold nextI; rw [if_neg (by omega), if_neg h2])
  have Hok := hide hok
  clear hok
  go_enter Try.func19, Try.ntmps19
  go_wp2_with fail
  have hb1 := boxed w (.cells #[.int .u32 0, .int .u8 0] 31)
  have hr1 : RI (w.alloc (.cells #[.int .u32 0, .int .u8 0] 31)) w.heap.size A l := RD.alloc hr (Nat.le_refl _) _
  have hq : ∀ wr, Below (w.alloc (.cells #[.int .u32 0, .int .u8 0] 31)).heap.size (w.alloc (.cells #[.int .u32 0, .int .u8 0] 31)) wr → wr.cell? ⟨w.heap.size, 0, none⟩ = some (.int .u32 0) ∧ wr.cell? ⟨w.heap.size, 1, none⟩ = some (.int .u8 0) ∧ wr.frozen? ⟨w.heap.size, 0, none⟩ = false ∧ wr.frozen? ⟨w.heap.size, 1, none⟩ = false ∧ w.heap.size < wr.heap.size := by
    intro wr hb
    have hlt : w.heap.size < (w.alloc (.cells #[.int .u32 0, .int .u8 0] 31)).heap.size := by simp
    refine ⟨(hb.cell (p := ⟨w.heap.size, 0, none⟩) hlt).trans ?_, (hb.cell (p := ⟨w.heap.size, 1, none⟩) hlt).trans ?_, (hb.frozen (p := ⟨w.heap.size, 0, none⟩) hlt).trans ?_, (hb.frozen (p := ⟨w.heap.size, 1, none⟩) hlt).trans ?_, Nat.lt_of_lt_of_le hlt hb.size⟩
    · rw [World.cell?_alloc_new]; rfl
    · rw [World.cell?_alloc_new]; rfl
    · simp
    · simp
  have Hq := hide hq
  clear hq
  go_loopw [6] (fun i wr => ∃ (k : Nat), k ≤ l.length ∧ i = .int .i64 (k : Int) ∧ Hid (∀ a ∈ l.take k, inI a) ∧ Below (w.alloc (.cells #[.int .u32 0, .int .u8 0] 31)).heap.size (w.alloc (.cells #[.int .u32 0, .int .u8 0] 31)) wr) (fun i _ => l.length - (intOf i).toNat)
  case atStart => exact ⟨0, by omega, rfl, hide (fun a ha => by simp at ha), Below.refl _ _⟩
  case round =>
    obtain ⟨k, hk, rfl, hT, hb⟩ := hrel
    have hbw := hb1.trans (hb.mono (by simp))
    by_cases hlt : k < l.length
    · obtain ⟨b0, o0, rfl, hB0, hC0⟩ := RI.cell (RD.below hr1 (hb.mono (by simp))) (by omega)
      obtain ⟨d0, d1⟩ := hC0 k hlt
      clear hC0
      have z0 : (k : Int) < l.length := by omega
      obtain ⟨t, ht⟩ : ∃ t, t = l[k].1 := ⟨_, rfl⟩
      obtain ⟨s, hs⟩ : ∃ s, s = l[k].2 := ⟨_, rfl⟩
      rw [← ht] at d0
      rw [← hs] at d1
      have hel : l[k] = (t, s) := by rw [ht, hs]
      have Hel := hide hel
      clear ht hs hel
      by_cases hin : inI (t, s)
      · have hT' := hide (show ∀ a ∈ l.take (k + 1), inI a by
          intro a ha
          rw [List.take_succ_eq_append_getElem hlt, Hel.out] at ha
          rcases List.mem_append.1 ha with h | h
          · exact hT.out a h
          · simp at h; subst h; exact hin)
        rcases hin with h0 | hmay
        · simp only [Prod.mk.injEq] at h0
          obtain ⟨rfl, rfl⟩ := h0
          go_wp2_with fail
          go_roundw
          case rel => exact ⟨k + 1, by omega, by go_num, hT', hb⟩
          case measure => simp [intOf]; omega
        · have tn : ¬ t = 0 := by have := hmay.1; simp only at this; omega
          have hd := hide (decide_eq_true hmay)
          clear hmay
          go_wp2_with fail
          refine (refmay_any t s _).mono ?_
          rintro e w2 ⟨rfl, hb2⟩
          rw [hd.out]
          have hbB := hb.trans (hb2.mono hb.size)
          go_wp2_with fail
          go_roundw
          case rel => exact ⟨k + 1, by omega, by go_num, hT', hbB⟩
          case measure => simp [intOf]; omega
      · have hfin := hide (show nextI r l = ((0, 0), 8) from hnext.out.trans (if_pos ⟨l[k], List.getElem_mem hlt, by rw [Hel.out]; exact hin⟩))
        have hd := hide (decide_eq_false (show ¬ mayI t s from fun h => hin (.inr h)))
        have hts : (t = 0 ∧ ¬ s = 0) ∨ ¬ t = 0 := by
          by_cases h : t = 0
          · exact .inl ⟨h, fun h2 => hin (.inl (by rw [h, h2]))⟩
          · exact .inr h
        clear hin
        rcases hts with ⟨rfl, sn⟩ | tn
        all_goals
          go_wp2_with fail
          refine (refmay_any _ s _).mono ?_
          rintro e w2 ⟨rfl, hb2⟩
          rw [hd.out]
          obtain ⟨q0, q1, q2, q3, q4⟩ := Hq.out w2 (hb.trans (hb2.mono hb.size))
          have hbw2 := hbw.trans (hb2.mono hbw.size)
          go_wp2_with fail
          rw [hfin.out]
          exact bodyPost_ret (v := .tuple #[.agg #[.int .u32 0, .int .u8 0], .int .i64 8]) (by simp [results, Try.results19, go_sem, q0, q1]) rfl ⟨rfl, (hbw2.setCell (Nat.le_refl _) _).setCell (Nat.le_refl _) _⟩
    · have hkl : ¬ (k : Int) < l.length := by omega
      have hT' := hT.out
      rw [List.take_of_length_le (by omega)] at hT'
      obtain ⟨q0, q1, q2, q3, q4⟩ := Hq.out wr hb
      have hrr : RI wr wr.heap.size A l := (RD.below hr1 (hb.mono (by simp))).more hbw.size
      obtain ⟨y, hy⟩ : ∃ y, y = topI l := ⟨_, rfl⟩
      have hyb : 0 ≤ y ∧ y ≤ 1073741824 := by
        have key : ∀ (l : List (Int × Int)), (∀ a ∈ l, inI a) → ∀ m : Int, 0 ≤ m → m ≤ 1073741824 → 0 ≤ l.foldl (fun m a => max m a.1) m ∧ l.foldl (fun m a => max m a.1) m ≤ 1073741824 := by
          intro l
          induction l with
          | nil => intro _ m h0 h1; exact ⟨h0, h1⟩
          | cons a l ih =>
            intro hin m h0 h1
            simp only [List.foldl_cons]
            refine ih (fun b hb => hin b (List.mem_cons_of_mem _ hb)) _ (by omega) ?_
            rcases hin a List.mem_cons_self with h | h
            · rw [h]; simp only; omega
            · have := h.2.1; omega
        rw [hy]
        exact key l hT' 0 (by decide) (by decide)
      obtain ⟨hy0, hy1⟩ := hyb
      by_cases htop : y = 1073741824
      · have hfin := hide (show nextI r l = ((0, 0), 50) from hnext.out.trans (by rw [if_neg (fun ⟨a, ha, hna⟩ => hna (hT' a ha)), if_pos (by rw [← hy, htop])]))
        have hbe : (y == 1073741824) = true := by simp [htop]
        have Hy := hide hy
        clear hT' htop hT hy
        go_wp2_with fail
        refine (reftop_any A l.length c l wr hrr rfl hl).mono ?_
        rintro e w' ⟨rfl, rfl⟩
        rw [← Hy.out]
        go_wp2_with fail
        rw [hfin.out]
        exact bodyPost_ret (v := .tuple #[.agg #[.int .u32 0, .int .u8 0], .int .i64 50]) (by simp [results, Try.results19, go_sem, q0, q1]) rfl ⟨rfl, (hbw.setCell (Nat.le_refl _) _).setCell (Nat.le_refl _) _⟩
      · have hfin := hide (show nextI r l = ((y + 1, r), 0) from hnext.out.trans (by rw [if_neg (fun ⟨a, ha, hna⟩ => hna (hT' a ha)), if_neg (by rw [← hy]; exact htop), ← hy]))
        have hbe : (y == 1073741824) = false := by simpa using htop
        have Hy := hide hy
        clear hT' htop hT hy
        go_wp2_with fail
        refine (reftop_any A l.length c l wr hrr rfl hl).mono ?_
        rintro e w' ⟨rfl, rfl⟩
        rw [← Hy.out]
        go_wp2_with fail
        refine (reftop_any A l.length c l wr hrr rfl hl).mono ?_
        rintro e w' ⟨rfl, rfl⟩
        rw [← Hy.out]
        go_wp2_with fail
        rw [hfin.out]
        exact bodyPost_ret (v := .tuple #[.agg #[.int .u32 (y + 1), .int .u8 r], .int .i64 0]) (by simp [results, Try.results19, go_sem, q0, q1]) rfl ⟨rfl, (hbw.setCell (Nat.le_refl _) _).setCell (Nat.le_refl _) _⟩
end Go.Proofs.Ytllmlnbgfikeaaa
