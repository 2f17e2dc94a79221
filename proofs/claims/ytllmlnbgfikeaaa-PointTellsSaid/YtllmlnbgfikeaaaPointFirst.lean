/-
  What octavoref04.first does: the code point that a text begins with, or none. Condition: a text that is not empty, fewer than 2^28 bytes.
-/
import Derived.Test.YtllmlnbgfikeaaaPointRef
namespace Go.Proofs.Ytllmlnbgfikeaaa
open Go.RowKit

/-- What first answers. -/
def fsted (l : List UInt8) (e : Ending) : Prop := match fst l with
  | none => e = .returned (.tuple #[.int .i64 0, .int .i64 0])
  | some (p, k) => e = .returned (.tuple #[.int .i64 (p : Int), .int .i64 (k : Int)])
theorem fsted_none {l : List UInt8} (h : fst l = none) : fsted l (.returned (.tuple #[.int .i64 0, .int .i64 0])) := by rw [fsted, h]
theorem fsted_some {l : List UInt8} {p k : Nat} {z y : Int} (h : fst l = some (p, k)) (hz : z = (p : Int)) (hy : y = (k : Int)) : fsted l (.returned (.tuple #[.int .i64 z, .int .i64 y])) := by rw [fsted, h, hz, hy]

theorem accP_lt (m : List UInt8) : ∀ k, accP m k < 256 * 64 ^ k := by
  intro k
  induction k with
  | zero =>
    simp only [accP, hdP]
    have := UInt8.toNat_lt (m.getD 0 0)
    repeat' split
    all_goals omega
  | succ k ih =>
    rw [accP, Nat.pow_succ]
    have := Nat.mod_lt (m.getD (k + 1) 0).toNat (show 0 < 64 by decide)
    omega
theorem getD_of (l : List UInt8) (k : Nat) (h : k < l.length) : l.getD k 0 = l[k] := by simp [List.getD_eq_getElem?_getD, h]
theorem idx_l (l : List UInt8) (k : Nat) (h : k < (⟨l.toArray⟩ : ByteArray).size) : ((((⟨l.toArray⟩ : ByteArray)[k]'h).toNat : Nat) : Int) = ((l.getD k 0).toNat : Int) := by
  rw [getD_of l k h]
  rfl
theorem fst_short {m : List UInt8} {s : Nat} (hs : szP (m.getD 0 0).toNat = s) (h : m.length < s) : fst m = none := by unfold fst; rw [hs, if_pos h]
theorem fst_try {m : List UInt8} {s n : Nat} (hs : szP (m.getD 0 0).toNat = s) (h : s ≤ m.length) (hn : accP m (s - 1) = n) : fst m = if isP n ∧ encP n = m.take s then some (n, s) else none := by
  unfold fst
  rw [hs, if_neg (by omega), hn]

set_option maxHeartbeats 2000000 in
set_option maxRecDepth 100000 in
theorem first_any (l : List UInt8) (w : World) (h0 : 0 < l.length) (hl : l.length < 268435456) :
    Calls Try.prog 36 #[.string ⟨l.toArray⟩] w fun e w' => fsted l e ∧ Below w.heap.size w w' := by
  obtain ⟨c, hc⟩ : ∃ c : Int, c = ((l.getD 0 0).toNat : Int) := ⟨_, rfl⟩
  have hidx := fun h => idx_l l 0 h
  rw [← hc] at hidx
  have hc0 : 0 ≤ c := by omega
  have hc1 : c < 256 := by have := UInt8.toNat_lt (l.getD 0 0); omega
  have hlz : (0 : Int) < l.length := by omega
  have hcs : 240 ≤ c ∨ (¬ 240 ≤ c ∧ 224 ≤ c) ∨ (¬ 240 ≤ c ∧ ¬ 224 ≤ c ∧ 192 ≤ c) ∨ (¬ 240 ≤ c ∧ ¬ 224 ≤ c ∧ ¬ 192 ≤ c) := by omega
  rcases hcs with f1 | ⟨f1, f2⟩ | ⟨f1, f2, f3⟩ | ⟨f1, f2, f3⟩
  · have hsz : szP (l.getD 0 0).toNat = 4 := by unfold szP; rw [if_pos (by omega)]
    have ha0 : c - 240 = (accP l 0 : Int) := by
      rw [accP]
      unfold hdP
      rw [if_pos (by omega)]
      omega
    have Hc := hide hc
    clear hc
    have Hsz := hide hsz
    clear hsz
    have Ha0 := hide ha0
    clear ha0
    by_cases hS : (l.length : Int) < 4
    · go_enter Try.func36, Try.ntmps36
      go_wp2_with fail
      go_ret2
      exact ⟨fsted_none (fst_short Hsz.out (by omega)), Below.refl _ _⟩
    · go_enter Try.func36, Try.ntmps36
      go_wp2_with fail
      clear hidx
      go_loop [5, 7] (fun n i => ∃ (k : Nat) (y : Int), 1 ≤ k ∧ k ≤ 4 ∧ i = .int .i64 (k : Int) ∧ n = .int .i64 y ∧ Hid (y = (accP l (k - 1) : Int))) (fun _ i => 4 - (intOf i).toNat)
      case atStart => exact ⟨1, c - 240, by omega, by omega, rfl, rfl, hide Ha0.out⟩
      case round =>
        obtain ⟨k, y, hk1, hk4, rfl, rfl, hy⟩ := hrel
        have hlt := accP_lt l (k - 1)
        have hp : 64 ^ (k - 1) ≤ 64 ^ 3 := Nat.pow_le_pow_right (by decide) (by omega)
        have y0 : 0 ≤ y := by have := hy.out; omega
        have y1 : y < 67108864 := by have := hy.out; omega
        clear hlt hp
        by_cases hlt : (k : Int) < 4
        · have hidx := fun h => idx_l l k h
          obtain ⟨b, hb⟩ : ∃ b : Int, b = ((l.getD k 0).toNat : Int) := ⟨_, rfl⟩
          rw [← hb] at hidx
          have b0 : 0 ≤ b := by omega
          have b1 : b < 256 := by have := UInt8.toNat_lt (l.getD k 0); omega
          have Hb := hide hb
          clear hb
          have hkl : (k : Int) < l.length := by omega
          go_wp2_with fail
          go_round
          case rel =>
            refine ⟨k + 1, 64 * y + b % 64, by omega, by omega, by go_num, rfl, hide ?_⟩
            rw [Nat.add_sub_cancel, show k = (k - 1) + 1 by omega, accP, show k - 1 + 1 = k by omega]
            have := hy.out
            have := Hb.out
            omega
          case measure => simp [intOf]; omega
        · obtain rfl : k = 4 := by omega
          have hn := hide (fst_try Hsz.out (by omega) rfl)
          have Hy := hide (show y = (accP l (4 - 1) : Int) from hy.out)
          clear hy hk1 hk4
          generalize accP l (4 - 1) = n at hn Hy
          have hx : (⟨l.toArray⟩ : ByteArray).extract 0 4 = ⟨(l.take 4).toArray⟩ := by rw [ext_l]; rfl
          have hSl : (4 : Int) ≤ l.length := by omega
          go_wp2_with fail
          by_cases hz : isP n
          · have hyes := hide hz
            clear hz
            go_region_with (first
              | (go_at_call 37; refine (is_yes y n _ Hy.out hyes.out).mono ?_; rintro e wx ⟨rfl, rfl⟩)
              | (go_at_call 38; refine (refenc_ok y n _ Hy.out hyes.out).mono ?_; rintro e wx ⟨vx, rfl, hownx, hbx⟩; obtain ⟨Ax, cx, rfl, -, -, -⟩ := own_slice hownx; have kx := conv_bytes (P := Try.prog) (RD.of_own hownx : RB wx wx.heap.size Ax (encP n)) Try.underlying46 Try.underlying5 Try.underlying9 cx; clear hownx))
            all_goals
              have hbw : Below w.heap.size w wx := (Below.refl _ _).drew.trans hbx
              by_cases hq : encP n = l.take 4
              · have hne : (!encP n == l.take 4) = false := by simp [hq]
                have hfin := hide (hn.out.trans (if_pos ⟨hyes.out, hq⟩))
                rw [hne]
                clear hne hq kx hx
                go_wp2_with fail
                go_ret2
                exact ⟨fsted_some hfin.out Hy.out rfl, hbw⟩
              · have hne : (!encP n == l.take 4) = true := by simp [hq]
                have hfin := hide (hn.out.trans (if_neg (fun h => hq h.2)))
                rw [hne]
                clear hne hq kx hx
                go_wp2_with fail
                go_ret2
                exact ⟨fsted_none hfin.out, hbw⟩
          · have hnz := hide (show ¬ isZ y by have := Hy.out; intro h; exact hz (by have h2 := h.2; rwa [this, Int.toNat_natCast] at h2))
            have hfin := hide (hn.out.trans (if_neg (fun h => hz h.1)))
            clear hz
            have hq := hide (fun W => (is_no y W hnz.out).mono fun e w' h => (⟨h.1, h.2.symm⟩ : e = Ending.returned (.bool false) ∧ w' = W))
            go_quiet ((go_at_call 37; exact Calls.quiet_of_same (unhide hq _)))
            go_wp2_with fail
            go_ret2
            exact ⟨fsted_none hfin.out, below_drewN (Below.refl _ _) _⟩
  · have hsz : szP (l.getD 0 0).toNat = 3 := by unfold szP; rw [if_neg (by omega), if_pos (by omega)]
    have ha0 : c - 224 = (accP l 0 : Int) := by
      rw [accP]
      unfold hdP
      rw [if_neg (by omega), if_pos (by omega)]
      omega
    have Hc := hide hc
    clear hc
    have Hsz := hide hsz
    clear hsz
    have Ha0 := hide ha0
    clear ha0
    by_cases hS : (l.length : Int) < 3
    · go_enter Try.func36, Try.ntmps36
      go_wp2_with fail
      go_ret2
      exact ⟨fsted_none (fst_short Hsz.out (by omega)), Below.refl _ _⟩
    · go_enter Try.func36, Try.ntmps36
      go_wp2_with fail
      clear hidx
      go_loop [5, 7] (fun n i => ∃ (k : Nat) (y : Int), 1 ≤ k ∧ k ≤ 3 ∧ i = .int .i64 (k : Int) ∧ n = .int .i64 y ∧ Hid (y = (accP l (k - 1) : Int))) (fun _ i => 3 - (intOf i).toNat)
      case atStart => exact ⟨1, c - 224, by omega, by omega, rfl, rfl, hide Ha0.out⟩
      case round =>
        obtain ⟨k, y, hk1, hk4, rfl, rfl, hy⟩ := hrel
        have hlt := accP_lt l (k - 1)
        have hp : 64 ^ (k - 1) ≤ 64 ^ 3 := Nat.pow_le_pow_right (by decide) (by omega)
        have y0 : 0 ≤ y := by have := hy.out; omega
        have y1 : y < 67108864 := by have := hy.out; omega
        clear hlt hp
        by_cases hlt : (k : Int) < 3
        · have hidx := fun h => idx_l l k h
          obtain ⟨b, hb⟩ : ∃ b : Int, b = ((l.getD k 0).toNat : Int) := ⟨_, rfl⟩
          rw [← hb] at hidx
          have b0 : 0 ≤ b := by omega
          have b1 : b < 256 := by have := UInt8.toNat_lt (l.getD k 0); omega
          have Hb := hide hb
          clear hb
          have hkl : (k : Int) < l.length := by omega
          go_wp2_with fail
          go_round
          case rel =>
            refine ⟨k + 1, 64 * y + b % 64, by omega, by omega, by go_num, rfl, hide ?_⟩
            rw [Nat.add_sub_cancel, show k = (k - 1) + 1 by omega, accP, show k - 1 + 1 = k by omega]
            have := hy.out
            have := Hb.out
            omega
          case measure => simp [intOf]; omega
        · obtain rfl : k = 3 := by omega
          have hn := hide (fst_try Hsz.out (by omega) rfl)
          have Hy := hide (show y = (accP l (3 - 1) : Int) from hy.out)
          clear hy hk1 hk4
          generalize accP l (3 - 1) = n at hn Hy
          have hx : (⟨l.toArray⟩ : ByteArray).extract 0 3 = ⟨(l.take 3).toArray⟩ := by rw [ext_l]; rfl
          have hSl : (3 : Int) ≤ l.length := by omega
          go_wp2_with fail
          by_cases hz : isP n
          · have hyes := hide hz
            clear hz
            go_region_with (first
              | (go_at_call 37; refine (is_yes y n _ Hy.out hyes.out).mono ?_; rintro e wx ⟨rfl, rfl⟩)
              | (go_at_call 38; refine (refenc_ok y n _ Hy.out hyes.out).mono ?_; rintro e wx ⟨vx, rfl, hownx, hbx⟩; obtain ⟨Ax, cx, rfl, -, -, -⟩ := own_slice hownx; have kx := conv_bytes (P := Try.prog) (RD.of_own hownx : RB wx wx.heap.size Ax (encP n)) Try.underlying46 Try.underlying5 Try.underlying9 cx; clear hownx))
            all_goals
              have hbw : Below w.heap.size w wx := (Below.refl _ _).drew.trans hbx
              by_cases hq : encP n = l.take 3
              · have hne : (!encP n == l.take 3) = false := by simp [hq]
                have hfin := hide (hn.out.trans (if_pos ⟨hyes.out, hq⟩))
                rw [hne]
                clear hne hq kx hx
                go_wp2_with fail
                go_ret2
                exact ⟨fsted_some hfin.out Hy.out rfl, hbw⟩
              · have hne : (!encP n == l.take 3) = true := by simp [hq]
                have hfin := hide (hn.out.trans (if_neg (fun h => hq h.2)))
                rw [hne]
                clear hne hq kx hx
                go_wp2_with fail
                go_ret2
                exact ⟨fsted_none hfin.out, hbw⟩
          · have hnz := hide (show ¬ isZ y by have := Hy.out; intro h; exact hz (by have h2 := h.2; rwa [this, Int.toNat_natCast] at h2))
            have hfin := hide (hn.out.trans (if_neg (fun h => hz h.1)))
            clear hz
            have hq := hide (fun W => (is_no y W hnz.out).mono fun e w' h => (⟨h.1, h.2.symm⟩ : e = Ending.returned (.bool false) ∧ w' = W))
            go_quiet ((go_at_call 37; exact Calls.quiet_of_same (unhide hq _)))
            go_wp2_with fail
            go_ret2
            exact ⟨fsted_none hfin.out, below_drewN (Below.refl _ _) _⟩
  · have hsz : szP (l.getD 0 0).toNat = 2 := by unfold szP; rw [if_neg (by omega), if_neg (by omega), if_pos (by omega)]
    have ha0 : c - 192 = (accP l 0 : Int) := by
      rw [accP]
      unfold hdP
      rw [if_neg (by omega), if_neg (by omega), if_pos (by omega)]
      omega
    have Hc := hide hc
    clear hc
    have Hsz := hide hsz
    clear hsz
    have Ha0 := hide ha0
    clear ha0
    by_cases hS : (l.length : Int) < 2
    · go_enter Try.func36, Try.ntmps36
      go_wp2_with fail
      go_ret2
      exact ⟨fsted_none (fst_short Hsz.out (by omega)), Below.refl _ _⟩
    · go_enter Try.func36, Try.ntmps36
      go_wp2_with fail
      clear hidx
      go_loop [5, 7] (fun n i => ∃ (k : Nat) (y : Int), 1 ≤ k ∧ k ≤ 2 ∧ i = .int .i64 (k : Int) ∧ n = .int .i64 y ∧ Hid (y = (accP l (k - 1) : Int))) (fun _ i => 2 - (intOf i).toNat)
      case atStart => exact ⟨1, c - 192, by omega, by omega, rfl, rfl, hide Ha0.out⟩
      case round =>
        obtain ⟨k, y, hk1, hk4, rfl, rfl, hy⟩ := hrel
        have hlt := accP_lt l (k - 1)
        have hp : 64 ^ (k - 1) ≤ 64 ^ 3 := Nat.pow_le_pow_right (by decide) (by omega)
        have y0 : 0 ≤ y := by have := hy.out; omega
        have y1 : y < 67108864 := by have := hy.out; omega
        clear hlt hp
        by_cases hlt : (k : Int) < 2
        · have hidx := fun h => idx_l l k h
          obtain ⟨b, hb⟩ : ∃ b : Int, b = ((l.getD k 0).toNat : Int) := ⟨_, rfl⟩
          rw [← hb] at hidx
          have b0 : 0 ≤ b := by omega
          have b1 : b < 256 := by have := UInt8.toNat_lt (l.getD k 0); omega
          have Hb := hide hb
          clear hb
          have hkl : (k : Int) < l.length := by omega
          go_wp2_with fail
          go_round
          case rel =>
            refine ⟨k + 1, 64 * y + b % 64, by omega, by omega, by go_num, rfl, hide ?_⟩
            rw [Nat.add_sub_cancel, show k = (k - 1) + 1 by omega, accP, show k - 1 + 1 = k by omega]
            have := hy.out
            have := Hb.out
            omega
          case measure => simp [intOf]; omega
        · obtain rfl : k = 2 := by omega
          have hn := hide (fst_try Hsz.out (by omega) rfl)
          have Hy := hide (show y = (accP l (2 - 1) : Int) from hy.out)
          clear hy hk1 hk4
          generalize accP l (2 - 1) = n at hn Hy
          have hx : (⟨l.toArray⟩ : ByteArray).extract 0 2 = ⟨(l.take 2).toArray⟩ := by rw [ext_l]; rfl
          have hSl : (2 : Int) ≤ l.length := by omega
          go_wp2_with fail
          by_cases hz : isP n
          · have hyes := hide hz
            clear hz
            go_region_with (first
              | (go_at_call 37; refine (is_yes y n _ Hy.out hyes.out).mono ?_; rintro e wx ⟨rfl, rfl⟩)
              | (go_at_call 38; refine (refenc_ok y n _ Hy.out hyes.out).mono ?_; rintro e wx ⟨vx, rfl, hownx, hbx⟩; obtain ⟨Ax, cx, rfl, -, -, -⟩ := own_slice hownx; have kx := conv_bytes (P := Try.prog) (RD.of_own hownx : RB wx wx.heap.size Ax (encP n)) Try.underlying46 Try.underlying5 Try.underlying9 cx; clear hownx))
            all_goals
              have hbw : Below w.heap.size w wx := (Below.refl _ _).drew.trans hbx
              by_cases hq : encP n = l.take 2
              · have hne : (!encP n == l.take 2) = false := by simp [hq]
                have hfin := hide (hn.out.trans (if_pos ⟨hyes.out, hq⟩))
                rw [hne]
                clear hne hq kx hx
                go_wp2_with fail
                go_ret2
                exact ⟨fsted_some hfin.out Hy.out rfl, hbw⟩
              · have hne : (!encP n == l.take 2) = true := by simp [hq]
                have hfin := hide (hn.out.trans (if_neg (fun h => hq h.2)))
                rw [hne]
                clear hne hq kx hx
                go_wp2_with fail
                go_ret2
                exact ⟨fsted_none hfin.out, hbw⟩
          · have hnz := hide (show ¬ isZ y by have := Hy.out; intro h; exact hz (by have h2 := h.2; rwa [this, Int.toNat_natCast] at h2))
            have hfin := hide (hn.out.trans (if_neg (fun h => hz h.1)))
            clear hz
            have hq := hide (fun W => (is_no y W hnz.out).mono fun e w' h => (⟨h.1, h.2.symm⟩ : e = Ending.returned (.bool false) ∧ w' = W))
            go_quiet ((go_at_call 37; exact Calls.quiet_of_same (unhide hq _)))
            go_wp2_with fail
            go_ret2
            exact ⟨fsted_none hfin.out, below_drewN (Below.refl _ _) _⟩
  · have hsz : szP (l.getD 0 0).toNat = 1 := by unfold szP; rw [if_neg (by omega), if_neg (by omega), if_neg (by omega)]
    have ha0 : c = (accP l 0 : Int) := by
      rw [accP]
      unfold hdP
      rw [if_neg (by omega), if_neg (by omega), if_neg (by omega)]
      omega
    have Hc := hide hc
    clear hc
    have Hsz := hide hsz
    clear hsz
    have Ha0 := hide ha0
    clear ha0
    by_cases hS : (l.length : Int) < 1
    · go_enter Try.func36, Try.ntmps36
      go_wp2_with fail
      go_ret2
      exact ⟨fsted_none (fst_short Hsz.out (by omega)), Below.refl _ _⟩
    · go_enter Try.func36, Try.ntmps36
      go_wp2_with fail
      clear hidx
      go_loop [5, 7] (fun n i => ∃ (k : Nat) (y : Int), 1 ≤ k ∧ k ≤ 1 ∧ i = .int .i64 (k : Int) ∧ n = .int .i64 y ∧ Hid (y = (accP l (k - 1) : Int))) (fun _ i => 1 - (intOf i).toNat)
      case atStart => exact ⟨1, c, by omega, by omega, rfl, rfl, hide Ha0.out⟩
      case round =>
        obtain ⟨k, y, hk1, hk4, rfl, rfl, hy⟩ := hrel
        have hlt := accP_lt l (k - 1)
        have hp : 64 ^ (k - 1) ≤ 64 ^ 3 := Nat.pow_le_pow_right (by decide) (by omega)
        have y0 : 0 ≤ y := by have := hy.out; omega
        have y1 : y < 67108864 := by have := hy.out; omega
        clear hlt hp
        by_cases hlt : (k : Int) < 1
        · have hidx := fun h => idx_l l k h
          obtain ⟨b, hb⟩ : ∃ b : Int, b = ((l.getD k 0).toNat : Int) := ⟨_, rfl⟩
          rw [← hb] at hidx
          have b0 : 0 ≤ b := by omega
          have b1 : b < 256 := by have := UInt8.toNat_lt (l.getD k 0); omega
          have Hb := hide hb
          clear hb
          have hkl : (k : Int) < l.length := by omega
          go_wp2_with fail
          go_round
          case rel =>
            refine ⟨k + 1, 64 * y + b % 64, by omega, by omega, by go_num, rfl, hide ?_⟩
            rw [Nat.add_sub_cancel, show k = (k - 1) + 1 by omega, accP, show k - 1 + 1 = k by omega]
            have := hy.out
            have := Hb.out
            omega
          case measure => simp [intOf]; omega
        · obtain rfl : k = 1 := by omega
          have hn := hide (fst_try Hsz.out (by omega) rfl)
          have Hy := hide (show y = (accP l (1 - 1) : Int) from hy.out)
          clear hy hk1 hk4
          generalize accP l (1 - 1) = n at hn Hy
          have hx : (⟨l.toArray⟩ : ByteArray).extract 0 1 = ⟨(l.take 1).toArray⟩ := by rw [ext_l]; rfl
          have hSl : (1 : Int) ≤ l.length := by omega
          go_wp2_with fail
          by_cases hz : isP n
          · have hyes := hide hz
            clear hz
            go_region_with (first
              | (go_at_call 37; refine (is_yes y n _ Hy.out hyes.out).mono ?_; rintro e wx ⟨rfl, rfl⟩)
              | (go_at_call 38; refine (refenc_ok y n _ Hy.out hyes.out).mono ?_; rintro e wx ⟨vx, rfl, hownx, hbx⟩; obtain ⟨Ax, cx, rfl, -, -, -⟩ := own_slice hownx; have kx := conv_bytes (P := Try.prog) (RD.of_own hownx : RB wx wx.heap.size Ax (encP n)) Try.underlying46 Try.underlying5 Try.underlying9 cx; clear hownx))
            all_goals
              have hbw : Below w.heap.size w wx := (Below.refl _ _).drew.trans hbx
              by_cases hq : encP n = l.take 1
              · have hne : (!encP n == l.take 1) = false := by simp [hq]
                have hfin := hide (hn.out.trans (if_pos ⟨hyes.out, hq⟩))
                rw [hne]
                clear hne hq kx hx
                go_wp2_with fail
                go_ret2
                exact ⟨fsted_some hfin.out Hy.out rfl, hbw⟩
              · have hne : (!encP n == l.take 1) = true := by simp [hq]
                have hfin := hide (hn.out.trans (if_neg (fun h => hq h.2)))
                rw [hne]
                clear hne hq kx hx
                go_wp2_with fail
                go_ret2
                exact ⟨fsted_none hfin.out, hbw⟩
          · have hnz := hide (show ¬ isZ y by have := Hy.out; intro h; exact hz (by have h2 := h.2; rwa [this, Int.toNat_natCast] at h2))
            have hfin := hide (hn.out.trans (if_neg (fun h => hz h.1)))
            clear hz
            have hq := hide (fun W => (is_no y W hnz.out).mono fun e w' h => (⟨h.1, h.2.symm⟩ : e = Ending.returned (.bool false) ∧ w' = W))
            go_quiet ((go_at_call 37; exact Calls.quiet_of_same (unhide hq _)))
            go_wp2_with fail
            go_ret2
            exact ⟨fsted_none hfin.out, below_drewN (Below.refl _ _) _⟩
end Go.Proofs.Ytllmlnbgfikeaaa
