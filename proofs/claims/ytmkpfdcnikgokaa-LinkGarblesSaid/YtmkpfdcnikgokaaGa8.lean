/-
  Texts of this claim, put together: LinkDelete, Float, StampMath. What each theorem asks stands in its statement.
-/
import Derived.Shelf.RegionOpenPlain
import Derived.WalkKit
import Derived.Deep.LoopGhost
import Derived.Deep.RegionLaw
import Derived.Lib.Walk
import Derived.Lib.SliceRun
import Derived.Laws.ComplexArith
import Derived.Test.YtmkpfdcnikgokaaGa7
namespace Go.Proofs.Ytmkpfdcnikgokaa
open Go.RowKit Go.Lib
theorem cells_heap (g : Nat) (e : TypeId) : ∀ (vs : List Value) (o : Nat) (w : World) (cur : Array Value), w.heap[g]? = some (.cells cur e (0, 0)) → o + vs.length ≤ cur.size →
    (w.setCells g o vs).heap[g]? = some (.cells (cur.toList.take o ++ vs ++ cur.toList.drop (o + vs.length)).toArray e (0, 0))
  | [], o, w, cur, h, _ => by
    rw [World.setCells, h, List.append_nil, List.length_nil, Nat.add_zero, List.take_append_drop]
  | v :: r, o, w, cur, h, hl => by
    rw [List.length_cons] at hl
    rw [World.setCells, cells_heap g e r (o + 1) _ _ (heap_setCell_same _ _ _ _ _ _ h) (by simp; omega)]
    have e1 : (cur.setIfInBounds o v).toList.take (o + 1) = cur.toList.take o ++ [v] := by
      rw [Array.toList_setIfInBounds, List.take_set, List.take_succ_eq_append_getElem (by simpa using (by omega : o < cur.size)), List.set_append_right _ _ (by simp; omega), List.length_take, Nat.min_eq_left (by simp; omega), Nat.sub_self]
      rfl
    have e2 : (cur.setIfInBounds o v).toList.drop (o + 1 + r.length) = cur.toList.drop (o + (v :: r).length) := by
      rw [Array.toList_setIfInBounds, List.drop_set_of_lt (by omega), List.length_cons, Nat.add_assoc, Nat.add_comm 1]
    rw [e1, e2, List.append_assoc (cur.toList.take o)]
    rfl
theorem cells_other (g : Nat) : ∀ (vs : List Value) (o : Nat) (w : World) (k : Nat), k ≠ g → (w.setCells g o vs).heap[k]? = w.heap[k]?
  | [], _, _, _, _ => rfl
  | v :: r, o, w, k, h => by rw [World.setCells, cells_other g r (o + 1) _ k h, heap_setCell_other _ _ _ _ h]
theorem cells_below (g : Nat) {B : Nat} {w0 : World} (hB : B ≤ g) : ∀ (vs : List Value) (o : Nat) (w : World), Below B w0 w → Below B w0 (w.setCells g o vs)
  | [], _, _, h => h
  | v :: r, o, _, h => cells_below g hB r (o + 1) _ (h.setCell (p := ⟨g, o, none⟩) hB v)
set_option maxHeartbeats 4000000 in
set_option maxRecDepth 1000000 in
theorem ldelete (g c n i j base : Nat) (Q : List FrL) (w : World) (hO : OF w base (some ⟨g, 0, none⟩) c Q) (hn : Q.length = n) (hlt : i < j) (hj : j ≤ n) (_hn9 : n ≤ 64) :
    Calls Try.prog 33 #[.slice (some ⟨g, 0, none⟩) n c, .int .i64 i, .int .i64 j] w fun e w' => e = .returned (.slice (some ⟨g, 0, none⟩) (n - (j - i)) c) ∧ OF w' base (some ⟨g, 0, none⟩) c (Q.take i ++ Q.drop j) ∧ (∀ B, B ≤ base → Below B w w') := by
  obtain ⟨i0, hi0, hz0, hz1, hz2⟩ := info_parts frinfo
  obtain ⟨hl0, h0⟩ := hO.1
  rcases h0 with ⟨h1, -⟩ | ⟨q, cap, cur, h1, h2, h3, h4, h5, h6, h7⟩
  · simp at h1
  simp only [Value.slice.injEq, Option.some.injEq, Addr.mk.injEq, and_true, true_and] at h1
  obtain ⟨rfl, rfl⟩ := h1
  rw [Nat.mul_one] at h6 h7
  rw [hn] at h4 h7
  have hcm : c ≤ 9223372036854775807 := by unfold maxLen at h5; omega
  have hget : ∀ t, t < n → cur[t]? = (frs Q)[t]? := by
    intro t ht
    rw [← h7, List.getElem?_take, if_pos (by omega), Array.getElem?_toList]
  have hcell : ∀ t, t < n → ∀ W : World, W.heap[g]? = some (.cells cur 28 (0, 0)) → W.cell? ⟨g, t, none⟩ = (frs Q)[t]? := fun t ht W hW => by rw [cell_of_row _ _ _ _ _ _ hW, hget t ht]
  obtain ⟨news, hnews⟩ : ∃ news, news = frs (Q.drop j) := ⟨_, rfl⟩
  have hlen : news.length = n - j := by rw [hnews, frs_len, List.length_drop, hn]
  have hdr : frs (Q.drop j) = (frs Q).drop j := by simp [frs]
  obtain ⟨A, hA, hsrc⟩ : ∃ A : Addr, (if c = j then some (⟨g, 0, none⟩ : Addr) else some ⟨g, j, none⟩) = some A ∧ Hid (∀ t u, news[t]? = some u → w.drew.cell? (A.add t) = some u) := by
    by_cases h : c = j
    · refine ⟨⟨g, 0, none⟩, by simp [h], fun t u hu => ?_⟩
      have h0 : news.length = 0 := by rw [hlen]; omega
      rw [List.length_eq_zero_iff.1 h0] at hu
      simp at hu
    · refine ⟨⟨g, j, none⟩, by simp [h], fun t u hu => ?_⟩
      have ht : t < n - j := by
        have := (List.getElem?_eq_some_iff.1 hu).1
        rwa [hlen] at this
      rw [hnews, hdr, List.getElem?_drop] at hu
      rw [Addr.add_lit, hcell (j + t) (by omega) w.drew h3]
      exact hu
  have s1 : Hid (news.length = (n - j) * 1) := by rw [Nat.mul_one]; exact hlen
  have s2 : Hid (∀ u ∈ news, u.oneCell' = true) := by rw [hnews]; exact frs_one _
  have s3 : Hid (∀ t, t < news.length → (w.drew.cell? ⟨g, 0 + i * 1 + t, none⟩).isSome = true ∧ w.drew.frozen? ⟨g, 0 + i * 1 + t, none⟩ = false) := by
    intro t ht
    rw [hlen] at ht
    refine ⟨?_, frozen_of_row w.drew g _ _ _ h3⟩
    rw [Nat.mul_one, Nat.zero_add, hcell (i + t) (by omega) w.drew h3, List.getElem?_eq_getElem (by rw [frs_len]; omega)]
    rfl
  obtain ⟨W1, hW1⟩ : ∃ W1, W1 = w.drew.setCells g (0 + i * 1) news := ⟨_, rfl⟩
  have hW1h : W1.heap[g]? = some (.cells (cur.toList.take i ++ news ++ cur.toList.drop (i + (n - j))).toArray 28 (0, 0)) := by
    rw [hW1, Nat.mul_one, Nat.zero_add, ← hlen]
    exact cells_heap g _ news i w.drew cur h3 (by omega)
  obtain ⟨cur1, hcur1⟩ : ∃ q, q = (cur.toList.take i ++ news ++ cur.toList.drop (i + (n - j))).toArray := ⟨_, rfl⟩
  rw [← hcur1] at hW1h
  have hs1 : cur1.size = c := by rw [hcur1]; simp [hlen]; omega
  have hcl : ∀ ty, (Builtin.clear_ #[22] ty #[.slice (some ⟨g, i + (n - j), none⟩) (n - (i + (n - j))) (c - (i + (n - j)))]).run Try.prog W1 = .ok (.tuple #[]) (W1.setCells g (i + (n - j)) (List.replicate (n - (i + (n - j))) (.slice none 0 0))) :=
    fun ty => Lib.run_clear_slice W1 _ 28 ty _ Try.underlying22 (fun w => by first | rfl | simp [go_sem]) rfl rfl g (i + (n - j)) _ _ (by omega) (fun t ht => by rw [cell_of_row _ _ _ _ _ _ hW1h, Array.getElem?_eq_getElem (by omega)]; rfl) (fun t ht => frozen_of_row W1 g _ _ _ hW1h)
  have hW : Hid (W1 = w.drew.setCells g (0 + i * 1) news) := hide hW1
  have hfin : Hid (OF (W1.setCells g (i + (n - j)) (List.replicate (n - (i + (n - j))) (.slice none 0 0))) base (some ⟨g, 0, none⟩) c (Q.take i ++ Q.drop j) ∧ ∀ B, B ≤ base → Below B w (W1.setCells g (i + (n - j)) (List.replicate (n - (i + (n - j))) (.slice none 0 0)))) := hide (by
    have hql : (Q.take i ++ Q.drop j).length = i + (n - j) := by rw [List.length_append, List.length_take, List.length_drop]; omega
    have hh := cells_heap g 28 (List.replicate (n - (i + (n - j))) (.slice none 0 0)) (i + (n - j)) W1 cur1 hW1h (by rw [List.length_replicate]; omega)
    have hk : ∀ k, k ≠ g → (W1.setCells g (i + (n - j)) (List.replicate (n - (i + (n - j))) (.slice none 0 0))).heap[k]? = w.heap[k]? := fun k hk => by
      rw [cells_other g _ _ _ _ hk, hW1, cells_other g _ _ _ _ hk]
      rfl
    refine ⟨⟨⟨by rw [frs_len, Nat.mul_one], .inr ⟨g, c, _, rfl, h2, hh, by rw [hql]; omega, h5, ?_, ?_⟩⟩, fun x hx => fr_at (hO.2 x ?_) h3 (by decide) hk⟩, fun B hB => cells_below g (Nat.le_trans hB h2) _ _ _ (by rw [hW1]; exact cells_below g (Nat.le_trans hB h2) _ _ _ (Below.refl B w).drew)⟩
    · simp [hs1]; omega
    · rw [Nat.mul_one, hql, List.toList_toArray, List.append_assoc, List.take_append_of_le_length (by simp [hs1]; omega), List.take_take, Nat.min_self, hcur1, List.toList_toArray]
      have e1 : cur.toList.take i = frs (Q.take i) := by
        have : (cur.toList.take n).take i = (frs Q).take i := by rw [h7]
        rw [List.take_take, Nat.min_eq_left (by omega)] at this
        rw [this]
        simp [frs]
      rw [e1, hnews, ← frs_append]
      have h8 : (frs (Q.take i ++ Q.drop j)).length = i + (n - j) := by rw [frs_len, hql]
      rw [← h8, List.take_left]
    · rcases List.mem_append.1 hx with h | h
      · exact List.mem_of_mem_take h
      · exact List.mem_of_mem_drop h)
  have hic : i ≤ c := by omega
  have hjc : j ≤ c := by omega
  have heq : ¬ i = j := by omega
  have mixed : Try.prog.follows .mixedOrders = true := by kernel_rfl
  clear hW1 hW1h hget hnews hlen hcell hdr hcur1 hs1 hO hn h3 h6 h7 hl0 h2 h5
  go_enter Try.func33, Try.ntmps33
  go_wp2_with fail
  go_region_law_o (refine step_append_room rfl (.tmp 22) (.tmp 25) 22 rfl 28 i0 1 Try.underlying22 hi0 hz1 g 0 i c (by simp [Act.eval, Act.put]) A (n - j) (c - j) news (by simp [Act.eval, Act.put]) s1.out hsrc.out s2.out (by omega) s3.out ?_; rw [← hW.out])
  go_wp2_with fail
  go_ret
  exact ⟨by rw [show n - (j - i) = i + (n - j) by omega]; rfl, hfin.out⟩
end Go.Proofs.Ytmkpfdcnikgokaa
namespace Go.Proofs.Ytmkpfdcnikgokaa
open Ieee
/-- The rung of a whole number. -/
def rungOf (n : Nat) : Nat := (n.log2 + 1022) * 2 ^ 52 + n * 2 ^ (52 - n.log2)
theorem log2_le52 {n : Nat} (h0 : 0 < n) (h : n < 2 ^ 53) : n.log2 ≤ 52 := by
  have := (Nat.log2_lt (by omega : n ≠ 0)).2 h
  omega
theorem log2_pow (n s : Nat) (h0 : 0 < n) : (n * 2 ^ s).log2 = n.log2 + s := by
  have hne : n * 2 ^ s ≠ 0 := Nat.mul_ne_zero (by omega) (by have := Nat.two_pow_pos s; omega)
  rw [Nat.log2_eq_iff hne]
  have h1 := (Nat.log2_eq_iff (by omega : n ≠ 0)).1 rfl
  refine ⟨?_, ?_⟩
  · rw [Nat.pow_add]; exact Nat.mul_le_mul_right _ h1.1
  · rw [show n.log2 + s + 1 = (n.log2 + 1) + s by omega, Nat.pow_add]
    exact Nat.mul_lt_mul_of_pos_right h1.2 (Nat.two_pow_pos s)
theorem frac_bounds {n : Nat} (h0 : 0 < n) (h : n < 2 ^ 53) : 2 ^ 52 ≤ n * 2 ^ (52 - n.log2) ∧ n * 2 ^ (52 - n.log2) < 2 ^ 53 := by
  have h1 := (Nat.log2_eq_iff (by omega : n ≠ 0)).1 rfl
  have hl := log2_le52 h0 h
  constructor
  · calc 2 ^ 52 = 2 ^ n.log2 * 2 ^ (52 - n.log2) := by rw [← Nat.pow_add]; congr 1; omega
      _ ≤ _ := Nat.mul_le_mul_right _ h1.1
  · calc n * 2 ^ (52 - n.log2) < 2 ^ (n.log2 + 1) * 2 ^ (52 - n.log2) := Nat.mul_lt_mul_of_pos_right h1.2 (Nat.two_pow_pos _)
      _ = 2 ^ 53 := by rw [← Nat.pow_add]; congr 1; omega
theorem rung_lt {n : Nat} (h0 : 0 < n) (h : n < 2 ^ 53) : rungOf n < 2047 * 2 ^ 52 := by
  have hl := log2_le52 h0 h
  have hfb := frac_bounds h0 h
  unfold rungOf
  have : (n.log2 + 1022) * 2 ^ 52 ≤ 1074 * 2 ^ 52 := Nat.mul_le_mul_right _ (by omega)
  omega
theorem cut_zero (neg : Bool) (n : Nat) : Toward.even.cut neg n 0 = n := by
  unfold Toward.cut
  simp [Nat.mod_one]
theorem cut_exact (neg : Bool) (n r : Nat) (hn : 0 < n) : Toward.even.cut neg (n * 2 ^ r) r = n := by
  unfold Toward.cut
  have hm : min r ((n * 2 ^ r).log2 + 2) = r := by rw [log2_pow n r hn]; omega
  rw [hm, Nat.one_shiftLeft]
  simp only [Nat.mul_mod_left, Nat.mul_div_cancel _ (Nat.two_pow_pos r)]
  have := Nat.two_pow_pos r
  have e1 : (2 ^ r < 2 * 0) = False := by simp
  have e2 : (2 ^ r == 2 * 0) = false := by simp
  simp [e2]
/-- A whole number, however it is scaled, has one word. -/
theorem nearest_scale (neg : Bool) (n s : Nat) (h0 : 0 < n) (h : n < 2 ^ 53) : double.nearest neg (n * 2 ^ s) (-(s : Int)) = double.word neg (rungOf n) := by
  have hl := log2_le52 h0 h
  have hfb := frac_bounds h0 h
  have hne : n * 2 ^ s ≠ 0 := Nat.mul_ne_zero (by omega) (by have := Nat.two_pow_pos s; omega)
  have hlp : double.leastPlace = -1074 := by decide
  have hlast : max (-(s : Int) + ((n * 2 ^ s).log2 : Nat) - (double.fractionBits : Nat)) (-1074) = (n.log2 : Int) - 52 := by
    rw [log2_pow n s h0]
    have : (double.fractionBits : Nat) = 52 := rfl
    rw [this]
    omega
  unfold Format.nearest
  rw [if_neg hne]
  simp only [hlp]
  rw [hlast]
  have hkept : Toward.even.cut neg ((n * 2 ^ s) <<< (-(s : Int) - ((n.log2 : Int) - 52)).toNat) (((n.log2 : Int) - 52) - -(s : Int)).toNat = n * 2 ^ (52 - n.log2) := by
    by_cases hs : s ≤ 52 - n.log2
    · have e1 : (-(s : Int) - ((n.log2 : Int) - 52)).toNat = 52 - n.log2 - s := by omega
      have e2 : (((n.log2 : Int) - 52) - -(s : Int)).toNat = 0 := by omega
      rw [e1, e2, cut_zero, Nat.shiftLeft_eq, Nat.mul_assoc, ← Nat.pow_add]
      congr 2
      omega
    · have e1 : (-(s : Int) - ((n.log2 : Int) - 52)).toNat = 0 := by omega
      obtain ⟨r, hr⟩ : ∃ r, s = (52 - n.log2) + r := ⟨s - (52 - n.log2), by omega⟩
      have e2 : (((n.log2 : Int) - 52) - -(s : Int)).toNat = r := by omega
      rw [e1, e2, Nat.shiftLeft_zero, hr, Nat.pow_add, ← Nat.mul_assoc]
      exact cut_exact neg _ r (by omega)
  rw [hkept]
  have ei : ((n.log2 : Int) - 52 - -1074).toNat = n.log2 + 1022 := by omega
  have hinf : double.infRung = 2047 * 2 ^ 52 := by decide
  have hbin : double.binade = 2 ^ 52 := by decide
  have hmin : min ((n.log2 + 1022) * 2 ^ 52 + n * 2 ^ (52 - n.log2)) (2047 * 2 ^ 52) = rungOf n := by
    show min (rungOf n) (2047 * 2 ^ 52) = rungOf n
    exact Nat.min_eq_left (Nat.le_of_lt (rung_lt h0 h))
  rw [ei, hinf, hbin, hmin]
/-- What the word of a whole number stands for. -/
theorem read_word (neg : Bool) (n : Nat) (h0 : 0 < n) (h : n < 2 ^ 53) : double.read (double.word neg (rungOf n)) = .number neg (n * 2 ^ (52 - n.log2)) ((n.log2 : Int) - 52) := by
  have hl := log2_le52 h0 h
  have hfb := frac_bounds h0 h
  have hinf : double.infRung = 2047 * 2 ^ 52 := by decide
  have hbin : double.binade = 2 ^ 52 := by decide
  have hsw : double.signWeight = 2 ^ 63 := by decide
  have hlp : double.leastPlace = -1074 := by decide
  have hr1 := rung_lt h0 h
  have hr2 : 2 ^ 52 ≤ rungOf n := by unfold rungOf; omega
  have hdiv : rungOf n / 2 ^ 52 = n.log2 + 1023 := by unfold rungOf; omega
  have hmod : rungOf n % 2 ^ 52 = n * 2 ^ (52 - n.log2) - 2 ^ 52 := by unfold rungOf; omega
  have hw : double.word neg (rungOf n) % 2 ^ 63 = rungOf n := by
    unfold Format.word
    rw [hsw]
    cases neg
    · simp only [Bool.false_eq_true, if_false]; exact Nat.mod_eq_of_lt (by omega)
    · simp only [if_true]; rw [Nat.add_mod_left]; exact Nat.mod_eq_of_lt (by omega)
  have hneg : (double.word neg (rungOf n) / 2 ^ 63 % 2 == 1) = neg := by
    unfold Format.word
    rw [hsw]
    cases neg
    · simp only [Bool.false_eq_true, if_false]
      have : rungOf n / 2 ^ 63 = 0 := Nat.div_eq_of_lt (by omega)
      rw [this]; rfl
    · simp only [if_true]
      have : (2 ^ 63 + rungOf n) / 2 ^ 63 = 1 := by omega
      rw [this]; rfl
  unfold Format.read
  simp only [hsw, hw, hneg, hbin, hinf, hlp]
  rw [if_neg (by omega), if_pos hr1, hdiv, hmod]
  have a : 2 ^ 52 + (n * 2 ^ (52 - n.log2) - 2 ^ 52) = n * 2 ^ (52 - n.log2) := by omega
  have b : (-1074 : Int) + ((n.log2 + 1023 - 1 : Nat) : Int) = (n.log2 : Int) - 52 := by omega
  rw [a, b]
/-- A whole number's word. -/
def fv (n : Nat) : Nat := floatOfInt .f64 (n : Int)
theorem fv_zero : fv 0 = 0 := by decide +kernel
theorem fv_eq (n : Nat) (h0 : 0 < n) (h : n < 2 ^ 53) : fv n = double.word false (rungOf n) := by
  have := nearest_scale false n 0 h0 h
  simp only [Nat.pow_zero, Nat.mul_one, Int.ofNat_zero, Int.neg_zero] at this
  rw [← this]
  have hn : decide ((n : Int) < 0) = false := by simp
  show double.write (.number (decide ((n : Int) < 0)) (n : Int).natAbs 0) = _
  rw [hn, Int.natAbs_natCast]
  rfl
theorem read_zero : double.read 0 = .number false 0 (-1074) := by decide +kernel
/-- What it stands for, zero or not: the number is its magnitude, scaled. -/
theorem read_fv (n : Nat) (h : n < 2 ^ 53) : ∃ s : Nat, double.read (fv n) = .number false (n * 2 ^ s) (-(s : Int)) := by
  rcases Nat.eq_zero_or_pos n with rfl | h0
  · obtain ⟨s, hs⟩ : ∃ s : Nat, s = 1074 := ⟨_, rfl⟩
    exact ⟨s, by rw [fv_zero, read_zero, Nat.zero_mul, hs]; rfl⟩
  · refine ⟨52 - n.log2, ?_⟩
    have hl := log2_le52 h0 h
    rw [fv_eq n h0 h, read_word false n h0 h]
    have b : (n.log2 : Int) - 52 = -((52 - n.log2 : Nat) : Int) := by omega
    rw [b]
/-- The word of what is a whole number, scaled. -/
theorem write_scale (n s : Nat) (h : n < 2 ^ 53) : double.write (.number false (n * 2 ^ s) (-(s : Int))) = fv n := by
  rcases Nat.eq_zero_or_pos n with rfl | h0
  · rw [Nat.zero_mul, fv_zero]; rfl
  · rw [fv_eq n h0 h]; exact nearest_scale false n s h0 h
theorem mul_fv (a b : Nat) (ha : a < 2 ^ 53) (hb : b < 2 ^ 53) (h : a * b < 2 ^ 53) : floatBits .mul .f64 (fv a) (fv b) = some (fv (a * b)) := by
  obtain ⟨s, hs⟩ := read_fv a ha
  obtain ⟨t, ht⟩ := read_fv b hb
  show double.mul (fv a) (fv b) = _
  unfold Format.mul
  rw [hs, ht]
  show some (double.write (.number (false ^^ false) (a * 2 ^ s * (b * 2 ^ t)) (-(s : Int) + -(t : Int)))) = _
  have e1 : a * 2 ^ s * (b * 2 ^ t) = a * b * 2 ^ (s + t) := by rw [Nat.pow_add]; simp only [Nat.mul_assoc, Nat.mul_left_comm]
  have e2 : -(s : Int) + -(t : Int) = -((s + t : Nat) : Int) := by omega
  rw [e1, e2]
  exact congrArg some (write_scale (a * b) (s + t) h)
theorem sum_scale (a b s t : Nat) : ∃ r : Nat, Datum.sum (.number false (a * 2 ^ s) (-(s : Int))) (.number false (b * 2 ^ t) (-(t : Int))) = some (.number false ((a + b) * 2 ^ r) (-(r : Int))) := by
  refine ⟨max s t, ?_⟩
  have hb : min (-(s : Int)) (-(t : Int)) = -((max s t : Nat) : Int) := by omega
  have e1 : (-(s : Int) - -((max s t : Nat) : Int)).toNat = max s t - s := by omega
  have e2 : (-(t : Int) - -((max s t : Nat) : Int)).toNat = max s t - t := by omega
  have k1 : a * 2 ^ s * 2 ^ (max s t - s) = a * 2 ^ (max s t) := by rw [Nat.mul_assoc, ← Nat.pow_add]; congr 2; omega
  have k2 : b * 2 ^ t * 2 ^ (max s t - t) = b * 2 ^ (max s t) := by rw [Nat.mul_assoc, ← Nat.pow_add]; congr 2; omega
  have tot : signed false (a * 2 ^ s) (max s t - s) + signed false (b * 2 ^ t) (max s t - t) = (((a + b) * 2 ^ (max s t) : Nat) : Int) := by
    unfold signed
    rw [Nat.shiftLeft_eq, Nat.shiftLeft_eq, k1, k2, Nat.add_mul]
    simp
  unfold Datum.sum
  simp only [hb, e1, e2, tot]
  generalize (a + b) * 2 ^ (max s t) = x
  have hn : decide ((x : Int) < 0) = false := by simp
  rw [hn, Int.natAbs_natCast]
  split <;> rfl
theorem add_fv (a b : Nat) (ha : a < 2 ^ 53) (hb : b < 2 ^ 53) (h : a + b < 2 ^ 53) : floatBits .add .f64 (fv a) (fv b) = some (fv (a + b)) := by
  obtain ⟨s, hs⟩ := read_fv a ha
  obtain ⟨t, ht⟩ := read_fv b hb
  show double.add (fv a) (fv b) = _
  unfold Format.add
  rw [hs, ht]
  obtain ⟨r, hr⟩ := sum_scale a b s t
  rw [hr]
  exact congrArg some (write_scale (a + b) r h)
theorem int_fv (n : Nat) (h : n < 2 ^ 53) : floatToIntVal .f64 (fv n) .i64 = some (n : Int) := by
  obtain ⟨s, hs⟩ := read_fv n h
  unfold floatToIntVal
  have : (FloatKind.f64.decode (fv n)).toInt .zero = some (n : Int) := by
    show (double.read (fv n)).toInt .zero = _
    rw [hs]
    unfold Datum.toInt Datum.integral
    have e1 : (-(s : Int)).toNat = 0 := by omega
    have e2 : (- -(s : Int)).toNat = s := by omega
    simp only [e1, e2, Nat.shiftLeft_zero]
    have hc : Toward.zero.cut false (n * 2 ^ s) s = n := by
      rcases Nat.eq_zero_or_pos n with rfl | h0
      · unfold Toward.cut; simp
      · unfold Toward.cut
        have hm : min s ((n * 2 ^ s).log2 + 2) = s := by rw [log2_pow n s h0]; omega
        rw [hm, Nat.one_shiftLeft]
        simp [Nat.mul_div_cancel _ (Nat.two_pow_pos s)]
    rw [hc]
    simp [signed]
  rw [this]
  have h1 : IntKind.i64.min ≤ (n : Int) ∧ (n : Int) ≤ IntKind.i64.max := by
    have e1 : IntKind.i64.min = -9223372036854775808 := by decide
    have e2 : IntKind.i64.max = 9223372036854775807 := by decide
    rw [e1, e2]
    omega
  simp only [h1, and_self, if_true]
end Go.Proofs.Ytmkpfdcnikgokaa
namespace Go.Proofs.Ytmkpfdcnikgokaa
open Ieee
/-- The word of a difference of two whole numbers. -/
def dfv (a b : Nat) : Nat := if b ≤ a then fv (a - b) else double.word true (rungOf (b - a))
theorem diff_scale (a b s t : Nat) : ∃ r : Nat, Datum.sum (.number false (a * 2 ^ s) (-(s : Int))) (Datum.opposite (.number false (b * 2 ^ t) (-(t : Int)))) = some (if b ≤ a then .number false ((a - b) * 2 ^ r) (-(r : Int)) else .number true ((b - a) * 2 ^ r) (-(r : Int))) := by
  refine ⟨max s t, ?_⟩
  have hb : min (-(s : Int)) (-(t : Int)) = -((max s t : Nat) : Int) := by omega
  have e1 : (-(s : Int) - -((max s t : Nat) : Int)).toNat = max s t - s := by omega
  have e2 : (-(t : Int) - -((max s t : Nat) : Int)).toNat = max s t - t := by omega
  have k1 : a * 2 ^ s * 2 ^ (max s t - s) = a * 2 ^ (max s t) := by rw [Nat.mul_assoc, ← Nat.pow_add]; congr 2; omega
  have k2 : b * 2 ^ t * 2 ^ (max s t - t) = b * 2 ^ (max s t) := by rw [Nat.mul_assoc, ← Nat.pow_add]; congr 2; omega
  have tot : signed false (a * 2 ^ s) (max s t - s) + signed (!false) (b * 2 ^ t) (max s t - t) = ((a * 2 ^ (max s t) : Nat) : Int) - ((b * 2 ^ (max s t) : Nat) : Int) := by
    unfold signed
    rw [Nat.shiftLeft_eq, Nat.shiftLeft_eq, k1, k2]
    simp
    omega
  unfold Datum.opposite Datum.sum
  simp only [hb, e1, e2, tot]
  have hp := Nat.two_pow_pos (max s t)
  by_cases h : b ≤ a
  · have hm : b * 2 ^ (max s t) ≤ a * 2 ^ (max s t) := Nat.mul_le_mul_right _ h
    have hx : ((a * 2 ^ (max s t) : Nat) : Int) - ((b * 2 ^ (max s t) : Nat) : Int) = (((a - b) * 2 ^ (max s t) : Nat) : Int) := by rw [Nat.sub_mul]; omega
    rw [hx, if_pos h]
    generalize (a - b) * 2 ^ (max s t) = x
    have hn : decide ((x : Int) < 0) = false := by simp
    rw [hn, Int.natAbs_natCast]
    split <;> rfl
  · have hm : a * 2 ^ (max s t) < b * 2 ^ (max s t) := Nat.mul_lt_mul_of_pos_right (by omega) hp
    have hx : ((a * 2 ^ (max s t) : Nat) : Int) - ((b * 2 ^ (max s t) : Nat) : Int) = -(((b - a) * 2 ^ (max s t) : Nat) : Int) := by rw [Nat.sub_mul]; omega
    have hpos : 0 < (b - a) * 2 ^ (max s t) := Nat.mul_pos (by omega) hp
    rw [hx, if_neg h]
    generalize (b - a) * 2 ^ (max s t) = x at hpos
    have hn : decide (-(x : Int) < 0) = true := by simp; omega
    rw [hn, Int.natAbs_neg, Int.natAbs_natCast, if_neg (by omega)]
theorem sub_fv (a b : Nat) (ha : a < 2 ^ 53) (hb : b < 2 ^ 53) : floatBits .sub .f64 (fv a) (fv b) = some (dfv a b) := by
  obtain ⟨s, hs⟩ := read_fv a ha
  obtain ⟨t, ht⟩ := read_fv b hb
  show double.sub (fv a) (fv b) = _
  unfold Format.sub
  rw [hs, ht]
  obtain ⟨r, hr⟩ := diff_scale a b s t
  rw [hr]
  unfold dfv
  by_cases h : b ≤ a
  · rw [if_pos h, if_pos h]
    exact congrArg some (write_scale (a - b) r (by omega))
  · rw [if_neg h, if_neg h]
    exact congrArg some (nearest_scale true (b - a) r (by omega) (by omega))
theorem order_pos (m : Nat) (i j : Int) (h : 0 < m) : Datum.order (.number false m i) (.number false 0 j) = some .gt := by
  unfold Datum.order signed
  simp only [Bool.false_eq_true, if_false, Nat.shiftLeft_eq]
  have : 0 < m * 2 ^ (i - min i j).toNat := Nat.mul_pos h (Nat.two_pow_pos _)
  generalize m * 2 ^ (i - min i j).toNat = x at this
  congr 1
  simp only [compare, compareOfLessAndEq]
  rw [if_neg (by omega), if_neg (by omega)]
theorem order_zero (i j : Int) : Datum.order (.number false 0 i) (.number false 0 j) = some .eq := by
  unfold Datum.order signed
  simp only [Bool.false_eq_true, if_false, Nat.zero_shiftLeft]
  rfl
theorem order_neg (m : Nat) (i j : Int) (h : 0 < m) : Datum.order (.number true m i) (.number false 0 j) = some .lt := by
  unfold Datum.order signed
  simp only [Bool.false_eq_true, if_false, if_true, Nat.shiftLeft_eq]
  have : 0 < m * 2 ^ (i - min i j).toNat := Nat.mul_pos h (Nat.two_pow_pos _)
  generalize m * 2 ^ (i - min i j).toNat = x at this
  congr 1
  simp only [compare, compareOfLessAndEq]
  rw [if_pos (by omega)]
theorem dfv_gt (a b : Nat) (ha : a < 2 ^ 53) (h : b < a) : FloatKind.f64.format.order (dfv a b) 0 = some .gt := by
  show (double.read (dfv a b)).order (double.read 0) = _
  unfold dfv
  rw [if_pos (by omega), read_zero]
  obtain ⟨s, hs⟩ := read_fv (a - b) (by omega)
  rw [hs]
  exact order_pos _ _ _ (Nat.mul_pos (by omega) (Nat.two_pow_pos _))
theorem dfv_eq (a : Nat) : FloatKind.f64.format.order (dfv a a) 0 = some .eq := by
  show (double.read (dfv a a)).order (double.read 0) = _
  unfold dfv
  rw [if_pos (Nat.le_refl _), Nat.sub_self, fv_zero, read_zero]
  exact order_zero _ _
theorem dfv_lt (a b : Nat) (hb : b < 2 ^ 53) (h : a < b) : FloatKind.f64.format.order (dfv a b) 0 = some .lt := by
  show (double.read (dfv a b)).order (double.read 0) = _
  unfold dfv
  rw [if_neg (by omega), read_zero, read_word true (b - a) (by omega) (by omega)]
  exact order_neg _ _ _ (Nat.mul_pos (by omega) (Nat.two_pow_pos _))
theorem sub_pair (a b c d : Nat) (ha : a < 2 ^ 53) (hb : b < 2 ^ 53) (hc : c < 2 ^ 53) (hd : d < 2 ^ 53) : cSumBits .sub .f64 (fv a) (fv b) (fv c) (fv d) = some (dfv a c, dfv b d) := by
  unfold cSumBits
  rw [sub_fv a c ha hc, sub_fv b d hb hd]
  rfl
end Go.Proofs.Ytmkpfdcnikgokaa
