/-
  Texts of this claim, put together: LinkDelete. What each theorem asks stands in its statement.
-/
import Derived.Shelf.RegionOpenPlain
import Derived.WalkKit
import Derived.Deep.LoopGhost
import Derived.Deep.RegionLaw
import Derived.Lib.Walk
import Derived.Lib.SliceRun
import Derived.Test.YtmkpfdcnikgokaaMb41
set_option linter.unusedVariables false
set_option linter.unusedSimpArgs false
namespace Go.Proofs.Ytmkpfdcnikgokaa
open Go.RowKit Go.Lib
theorem cells_heap (g : Nat) (e : TypeId) : ∀ (vs : List Value) (o : Nat) (w : World) (cur : Array Value), w.heap[g]? = some (.cells cur e (0, 0)) → o + vs.length ≤ cur.size →
    (w.setCells g o vs).heap[g]? = some (.cells (cur.toList.take o ++ vs ++ cur.toList.drop (o + vs.length)).toArray e (0, 0))
  | [], o, w, cur, h, _ => by
    rw [World.setCells, h, List.append_nil, List.length_nil, Nat.add_zero, List.take_append_drop]
  | v :: r, o, w, cur, h, hl => by
    rw [List.length_cons] at hl
    rw [World.setCells, cells_heap g e r (o + 1) _ _ (heap_setCell_same _ _ _ _ _ _ h) (by simp; omega)]
    have e1 : (cur.setIfInBounds o v).toList.take (o + 1) = cur.toList.take o ++ [v] := by
      rw [Array.toList_setIfInBounds, List.take_set, List.take_succ_eq_append_getElem (by simpa using (by omega : o < cur.size)), List.set_append_right _ _ (by simp; omega), List.length_take, Nat.min_eq_left (by simp; omega), Nat.sub_self]
      rfl
    have e2 : (cur.setIfInBounds o v).toList.drop (o + 1 + r.length) = cur.toList.drop (o + (v :: r).length) := by
      rw [Array.toList_setIfInBounds, List.drop_set_of_lt (by omega), List.length_cons, Nat.add_assoc, Nat.add_comm 1]
    rw [e1, e2, List.append_assoc (cur.toList.take o)]
    rfl
theorem cells_other (g : Nat) : ∀ (vs : List Value) (o : Nat) (w : World) (k : Nat), k ≠ g → (w.setCells g o vs).heap[k]? = w.heap[k]?
  | [], _, _, _, _ => rfl
  | v :: r, o, w, k, h => by rw [World.setCells, cells_other g r (o + 1) _ k h, heap_setCell_other _ _ _ _ h]
theorem cells_below (g : Nat) {B : Nat} {w0 : World} (hB : B ≤ g) : ∀ (vs : List Value) (o : Nat) (w : World), Below B w0 w → Below B w0 (w.setCells g o vs)
  | [], _, _, h => h
  | v :: r, o, _, h => cells_below g hB r (o + 1) _ (h.setCell (p := ⟨g, o, none⟩) hB v)
set_option maxHeartbeats 4000000 in
set_option maxRecDepth 1000000 in
theorem ldelete (g c n i j base : Nat) (Q : List FrL) (w : World) (hO : OF w base (some ⟨g, 0, none⟩) c Q) (hn : Q.length = n) (hlt : i < j) (hj : j ≤ n) (_hn9 : n ≤ 64) :
    Calls Try.prog 33 #[.slice (some ⟨g, 0, none⟩) n c, .int .i64 i, .int .i64 j] w fun e w' => e = .returned (.slice (some ⟨g, 0, none⟩) (n - (j - i)) c) ∧ OF w' base (some ⟨g, 0, none⟩) c (Q.take i ++ Q.drop j) ∧ (∀ B, B ≤ base → Below B w w') := by
  obtain ⟨i0, hi0, hz0, hz1, hz2⟩ := info_parts frinfo
  obtain ⟨hl0, h0⟩ := hO.1
  rcases h0 with ⟨h1, -⟩ | ⟨q, cap, cur, h1, h2, h3, h4, h5, h6, h7⟩
  · simp at h1
  simp only [Value.slice.injEq, Option.some.injEq, Addr.mk.injEq, and_true, true_and] at h1
  obtain ⟨rfl, rfl⟩ := h1
  rw [Nat.mul_one] at h6 h7
  rw [hn] at h4 h7
  have hcm : c ≤ 9223372036854775807 := by unfold maxLen at h5; omega
  have hget : ∀ t, t < n → cur[t]? = (frs Q)[t]? := by
    intro t ht
    rw [← h7, List.getElem?_take, if_pos (by omega), Array.getElem?_toList]
  have hcell : ∀ t, t < n → ∀ W : World, W.heap[g]? = some (.cells cur 28 (0, 0)) → W.cell? ⟨g, t, none⟩ = (frs Q)[t]? := fun t ht W hW => by rw [cell_of_row _ _ _ _ _ _ hW, hget t ht]
  obtain ⟨news, hnews⟩ : ∃ news, news = frs (Q.drop j) := ⟨_, rfl⟩
  have hlen : news.length = n - j := by rw [hnews, frs_len, List.length_drop, hn]
  have hdr : frs (Q.drop j) = (frs Q).drop j := by simp [frs]
  obtain ⟨A, hA, hsrc⟩ : ∃ A : Addr, (if c = j then some (⟨g, 0, none⟩ : Addr) else some ⟨g, j, none⟩) = some A ∧ Hid (∀ t u, news[t]? = some u → w.drew.cell? (A.add t) = some u) := by
    by_cases h : c = j
    · refine ⟨⟨g, 0, none⟩, by simp [h], fun t u hu => ?_⟩
      have h0 : news.length = 0 := by rw [hlen]; omega
      rw [List.length_eq_zero_iff.1 h0] at hu
      simp at hu
    · refine ⟨⟨g, j, none⟩, by simp [h], fun t u hu => ?_⟩
      have ht : t < n - j := by
        have := (List.getElem?_eq_some_iff.1 hu).1
        rwa [hlen] at this
      rw [hnews, hdr, List.getElem?_drop] at hu
      rw [Addr.add_lit, hcell (j + t) (by omega) w.drew h3]
      exact hu
  have s1 : Hid (news.length = (n - j) * 1) := by rw [Nat.mul_one]; exact hlen
  have s2 : Hid (∀ u ∈ news, u.oneCell' = true) := by rw [hnews]; exact frs_one _
  have s3 : Hid (∀ t, t < news.length → (w.drew.cell? ⟨g, 0 + i * 1 + t, none⟩).isSome = true ∧ w.drew.frozen? ⟨g, 0 + i * 1 + t, none⟩ = false) := by
    intro t ht
    rw [hlen] at ht
    refine ⟨?_, frozen_of_row w.drew g _ _ _ h3⟩
    rw [Nat.mul_one, Nat.zero_add, hcell (i + t) (by omega) w.drew h3, List.getElem?_eq_getElem (by rw [frs_len]; omega)]
    rfl
  obtain ⟨W1, hW1⟩ : ∃ W1, W1 = w.drew.setCells g (0 + i * 1) news := ⟨_, rfl⟩
  have hW1h : W1.heap[g]? = some (.cells (cur.toList.take i ++ news ++ cur.toList.drop (i + (n - j))).toArray 28 (0, 0)) := by
    rw [hW1, Nat.mul_one, Nat.zero_add, ← hlen]
    exact cells_heap g _ news i w.drew cur h3 (by omega)
  obtain ⟨cur1, hcur1⟩ : ∃ q, q = (cur.toList.take i ++ news ++ cur.toList.drop (i + (n - j))).toArray := ⟨_, rfl⟩
  rw [← hcur1] at hW1h
  have hs1 : cur1.size = c := by rw [hcur1]; simp [hlen]; omega
  have hcl : ∀ ty, (Builtin.clear_ #[22] ty #[.slice (some ⟨g, i + (n - j), none⟩) (n - (i + (n - j))) (c - (i + (n - j)))]).run Try.prog W1 = .ok (.tuple #[]) (W1.setCells g (i + (n - j)) (List.replicate (n - (i + (n - j))) (.slice none 0 0))) :=
    fun ty => Lib.run_clear_slice W1 _ 28 ty _ Try.underlying22 (fun w => by first | rfl | simp [go_sem]) rfl rfl g (i + (n - j)) _ _ (by omega) (fun t ht => by rw [cell_of_row _ _ _ _ _ _ hW1h, Array.getElem?_eq_getElem (by omega)]; rfl) (fun t ht => frozen_of_row W1 g _ _ _ hW1h)
  have hW : Hid (W1 = w.drew.setCells g (0 + i * 1) news) := hide hW1
  have hfin : Hid (OF (W1.setCells g (i + (n - j)) (List.replicate (n - (i + (n - j))) (.slice none 0 0))) base (some ⟨g, 0, none⟩) c (Q.take i ++ Q.drop j) ∧ ∀ B, B ≤ base → Below B w (W1.setCells g (i + (n - j)) (List.replicate (n - (i + (n - j))) (.slice none 0 0)))) := hide (by
    have hql : (Q.take i ++ Q.drop j).length = i + (n - j) := by rw [List.length_append, List.length_take, List.length_drop]; omega
    have hh := cells_heap g 28 (List.replicate (n - (i + (n - j))) (.slice none 0 0)) (i + (n - j)) W1 cur1 hW1h (by rw [List.length_replicate]; omega)
    have hk : ∀ k, k ≠ g → (W1.setCells g (i + (n - j)) (List.replicate (n - (i + (n - j))) (.slice none 0 0))).heap[k]? = w.heap[k]? := fun k hk => by
      rw [cells_other g _ _ _ _ hk, hW1, cells_other g _ _ _ _ hk]
      rfl
    refine ⟨⟨⟨by rw [frs_len, Nat.mul_one], .inr ⟨g, c, _, rfl, h2, hh, by rw [hql]; omega, h5, ?_, ?_⟩⟩, fun x hx => fr_at (hO.2 x ?_) h3 (by decide) hk⟩, fun B hB => cells_below g (Nat.le_trans hB h2) _ _ _ (by rw [hW1]; exact cells_below g (Nat.le_trans hB h2) _ _ _ (Below.refl B w).drew)⟩
    · simp [hs1]; omega
    · rw [Nat.mul_one, hql, List.toList_toArray, List.append_assoc, List.take_append_of_le_length (by simp [hs1]; omega), List.take_take, Nat.min_self, hcur1, List.toList_toArray]
      have e1 : cur.toList.take i = frs (Q.take i) := by
        have : (cur.toList.take n).take i = (frs Q).take i := by rw [h7]
        rw [List.take_take, Nat.min_eq_left (by omega)] at this
        rw [this]
        simp [frs]
      rw [e1, hnews, ← frs_append]
      have h8 : (frs (Q.take i ++ Q.drop j)).length = i + (n - j) := by rw [frs_len, hql]
      rw [← h8, List.take_left]
    · rcases List.mem_append.1 hx with h | h
      · exact List.mem_of_mem_take h
      · exact List.mem_of_mem_drop h)
  have hic : i ≤ c := by omega
  have hjc : j ≤ c := by omega
  have heq : ¬ i = j := by omega
  have mixed : Try.prog.follows .mixedOrders = true := by kernel_rfl
  clear hW1 hW1h hget hnews hlen hcell hdr hcur1 hs1 hO hn h3 h6 h7 hl0 h2 h5
  go_enter Try.func33, Try.ntmps33
  go_wp2_with fail
  go_region_law_o (refine step_append_room rfl (.tmp 22) (.tmp 25) 22 rfl 28 i0 1 Try.underlying22 hi0 hz1 g 0 i c (by simp [Act.eval, Act.put]) A (n - j) (c - j) news (by simp [Act.eval, Act.put]) s1.out hsrc.out s2.out (by omega) s3.out ?_; rw [← hW.out])
  go_wp2_with fail
  go_ret
  exact ⟨by rw [show n - (j - i) = i + (n - j) by omega]; rfl, hfin.out⟩
end Go.Proofs.Ytmkpfdcnikgokaa
