/-
  Texts of this claim, put together: FrameMath, Frame. What each theorem asks stands in its statement.
-/
import Derived.Test.YtmkpfdcnikgokaaMc6
import Derived.Test.YtmkpfdcnikgokaaMc7
import Derived.Test.YtmkpfdcnikgokaaMc29
set_option linter.unusedVariables false
set_option linter.unusedSimpArgs false
namespace Go.Proofs.Ytmkpfdcnikgokaa
/-- Bytes with their sum behind. -/
def shut4 (t : List UInt8) : List UInt8 := t ++ [byteOf (sm t) 0, byteOf (sm t) 1, byteOf (sm t) 2, byteOf (sm t) 3]
theorem shut4_len (t : List UInt8) : (shut4 t).length = t.length + 4 := by simp [shut4]
/-- A frame's bytes ahead of its sum. -/
def head (l : List UInt8) : List UInt8 := 70 :: (nb l.length ++ l)
def frm (l : List UInt8) : List UInt8 := shut4 (head l)
theorem head_len (l : List UInt8) : (head l).length = 1 + (nb l.length).length + l.length := by simp [head]; omega
theorem frm_len (l : List UInt8) : (frm l).length = 5 + (nb l.length).length + l.length := by rw [frm, shut4_len, head_len]; omega
/-- What Open takes out of bytes, as frame.Open does it. -/
def opn (b : List UInt8) : Option (List UInt8) :=
  if b.length < 6 ∨ b.head? ≠ some 70 then none else
  match gget ((b.take (b.length - 4)).drop 1) with
  | none => none
  | some (n, s) => if n > 16384 ∨ 1 + s + n ≠ b.length - 4 ∨ shut4 (b.take (b.length - 4)) ≠ b then none else some ((b.take (b.length - 4)).drop (1 + s))
theorem shut4_take (t : List UInt8) : (shut4 t).take ((shut4 t).length - 4) = t := by
  rw [shut4_len, Nat.add_sub_cancel, shut4, List.take_left']
  rfl
theorem opn_frm (l : List UInt8) (h : l.length ≤ 16384) : opn (frm l) = some l := by
  have hp := nb_pos l.length
  have hs : gget (((frm l).take ((frm l).length - 4)).drop 1) = some (l.length, (nb l.length).length) := by
    rw [frm, shut4_take, head, List.drop_one, List.tail_cons]
    exact gget_nb l.length l (by omega)
  unfold opn
  rw [if_neg (by rw [frm_len]; simp [frm, shut4, head]; omega), hs]
  simp only
  rw [if_neg, frm, shut4_take]
  · congr 1
    rw [head, Nat.add_comm, List.drop_succ_cons, List.drop_left']
    rfl
  · rw [frm, shut4_take, shut4_len, head_len]
    simp
    omega
theorem opn_inv {b l : List UInt8} (h : opn b = some l) : b = frm l ∧ l.length ≤ 16384 := by
  unfold opn at h
  by_cases h1 : b.length < 6 ∨ b.head? ≠ some 70
  · rw [if_pos h1] at h; cases h
  rw [if_neg h1] at h
  cases hg : gget ((b.take (b.length - 4)).drop 1) with
  | none => rw [hg] at h; cases h
  | some ns =>
    obtain ⟨n, s⟩ := ns
    rw [hg] at h
    simp only at h
    by_cases h2 : n > 16384 ∨ 1 + s + n ≠ b.length - 4 ∨ shut4 (b.take (b.length - 4)) ≠ b
    · rw [if_pos h2] at h; cases h
    rw [if_neg h2] at h
    simp only [Option.some.injEq] at h
    obtain ⟨t, ht⟩ : ∃ t, t = b.take (b.length - 4) := ⟨_, rfl⟩
    rw [← ht] at h hg h2
    have htl : t.length = b.length - 4 := by rw [ht, List.length_take]; omega
    have hseal : shut4 t = b := by
      rcases Classical.em (shut4 t = b) with e | e
      · exact e
      · exact absurd (.inr (.inr e)) h2
    have hn : n ≤ 16384 := by omega
    have hsum : 1 + s + n = t.length := by omega
    obtain ⟨hm, hs, hnb, hnl⟩ := gget_inv hg
    have hll : l.length = n := by rw [← h, List.length_drop]; omega
    have hhead : t = 70 :: t.drop 1 := by
      cases t with
      | nil => simp at htl; omega
      | cons x t =>
        have : b.head? = some x := by rw [← hseal]; rfl
        have h70 : b.head? = some 70 := by
          rcases Classical.em (b.head? = some 70) with e | e
          · exact e
          · exact absurd (.inr e) h1
        rw [this] at h70
        simp only [Option.some.injEq] at h70
        rw [h70]; rfl
    refine ⟨?_, by omega⟩
    rw [← hseal, frm]
    congr 1
    rw [hhead, head, hll, hnb]
    congr 1
    rw [← h, ← List.drop_drop]
    exact (List.take_append_drop s _).symm
end Go.Proofs.Ytmkpfdcnikgokaa
namespace Go.Proofs.Ytmkpfdcnikgokaa
open Go.RowKit
/-- The first k bytes of a text's sum behind it. -/
def part4 (t : List UInt8) (k : Nat) : List UInt8 := t ++ [byteOf (sm t) 0, byteOf (sm t) 1, byteOf (sm t) 2, byteOf (sm t) 3].take k
theorem part4_len (t : List UInt8) (k : Nat) (h : k ≤ 4) : (part4 t k).length = t.length + k := by simp [part4]; omega
theorem part4_next (t : List UInt8) (k : Nat) (h : k < 4) : part4 t (k + 1) = part4 t k ++ [byteOf (sm t) k] := by
  unfold part4
  rw [List.append_assoc]
  congr 1
  have : k = 0 ∨ k = 1 ∨ k = 2 ∨ k = 3 := by omega
  rcases this with rfl | rfl | rfl | rfl <;> rfl
set_option maxHeartbeats 800000 in
set_option maxRecDepth 100000 in
theorem sealed_ok (B : Nat) (v : Value) (t : List UInt8) (w : World) (hown : w.ownsRow B 5 1 v t.length (u8s t)) (hB : B ≤ w.heap.size) (ht : t.length < 100000) :
    Calls Try.prog 40 #[v] w fun e w' => ∃ v', e = .returned v' ∧ w'.ownsRow B 5 1 v' (shut4 t).length (u8s (shut4 t)) ∧ Below B w w' := by
  obtain ⟨i0, hi0, hz0, hz1, hz2⟩ := info_parts u8info
  obtain ⟨A, c, rfl, hc, hcm, -⟩ := own_slice hown
  have hr : RB w w.heap.size A t := RD.of_own hown
  go_enter Try.func40, Try.ntmps40
  go_wp2_with fail
  refine (table_ok _).mono ?_
  rintro e w1 ⟨rfl, hb1⟩
  have hr1 : RB w1 w1.heap.size A t := (RD.below hr hb1).more hb1.size
  have hown1 := own_below hown hb1 (Nat.le_refl _)
  go_wp2_with fail
  refine (sum_any tb A c t w1 hr1 (by omega)).mono ?_
  rintro e w2 ⟨rfl, hb2⟩
  have hown2 := own_below hown1 hb2 (Nat.le_refl _)
  have hb12 := (fresh hb1 hb2).mono hB
  clear hr hr1 hown hown1 hb1 hb2 hc hcm
  go_wp2_with fail
  have hs := (smT tb t).isLt
  obtain ⟨y0, y1, y2, y3⟩ : ((smT tb t).toNat : Int) % 256 = ((byteOf (sm t) 0).toNat : Int) ∧ ((smT tb t).toNat : Int) / 256 % 256 = ((byteOf (sm t) 1).toNat : Int) ∧ ((smT tb t).toNat : Int) / 65536 % 256 = ((byteOf (sm t) 2).toNat : Int) ∧
      ((smT tb t).toNat : Int) / 16777216 = ((byteOf (sm t) 3).toNat : Int) := by
    show ((sm t).toNat : Int) % 256 = _ ∧ ((sm t).toNat : Int) / 256 % 256 = _ ∧ ((sm t).toNat : Int) / 65536 % 256 = _ ∧ ((sm t).toNat : Int) / 16777216 = _
    unfold byteOf
    simp only [UInt8.toNat_ofNat']
    have hv := (sm t).isLt
    refine ⟨?_, ?_, ?_, ?_⟩ <;> omega
  go_loopw [0, 8] (fun v i wr => ∃ k : Nat, k ≤ 4 ∧ i = .int .i64 (k : Int) ∧ wr.ownsRow B 5 1 v (part4 t k).length (u8s (part4 t k)) ∧ Below B w wr) (fun _ i _ => 4 - (intOf i).toNat)
  case atStart => exact ⟨0, by omega, rfl, by simpa [part4] using hown2, hb12⟩
  case round =>
    obtain ⟨k, hk, rfl, hown, hbr⟩ := hrel
    by_cases hlt : k < 4
    · have hpl := part4_len t k (by omega)
      have hnext := hide (part4_next t k hlt)
      have hBr := Nat.le_trans hB hbr.size
      have hlen : (part4 t k).length < 1073741824 := by omega
      clear hpl
      have : k = 0 ∨ k = 1 ∨ k = 2 ∨ k = 3 := by omega
      rcases this with rfl | rfl | rfl | rfl
      · go_wp2_with (at_builtin; refine wpList_push rfl _ _ 28 rfl B i0 (.int .u8 0) 1 1 Try.underlying28 hi0 hz0 hz1 hz2 rfl (by decide) _ _ _ rfl hown 1 rfl rfl rfl hlen (by decide) hBr ?_; intro v1 w1 hown1 hb1)
        go_roundw
        case rel => exact ⟨1, by omega, rfl, by rw [hnext.out, u8s_append, List.length_append]; exact hown1, hbr.trans hb1⟩
        case measure => simp [intOf]
      · go_wp2_with (at_builtin; refine wpList_push rfl _ _ 28 rfl B i0 (.int .u8 0) 1 1 Try.underlying28 hi0 hz0 hz1 hz2 rfl (by decide) _ _ _ rfl hown 1 rfl rfl rfl hlen (by decide) hBr ?_; intro v1 w1 hown1 hb1)
        go_roundw
        case rel => exact ⟨2, by omega, rfl, by rw [hnext.out, u8s_append, List.length_append]; exact hown1, hbr.trans hb1⟩
        case measure => simp [intOf]
      · go_wp2_with (at_builtin; refine wpList_push rfl _ _ 28 rfl B i0 (.int .u8 0) 1 1 Try.underlying28 hi0 hz0 hz1 hz2 rfl (by decide) _ _ _ rfl hown 1 rfl rfl rfl hlen (by decide) hBr ?_; intro v1 w1 hown1 hb1)
        go_roundw
        case rel => exact ⟨3, by omega, rfl, by rw [hnext.out, u8s_append, List.length_append]; exact hown1, hbr.trans hb1⟩
        case measure => simp [intOf]
      · go_wp2_with (at_builtin; refine wpList_push rfl _ _ 28 rfl B i0 (.int .u8 0) 1 1 Try.underlying28 hi0 hz0 hz1 hz2 rfl (by decide) _ _ _ rfl hown 1 rfl rfl rfl hlen (by decide) hBr ?_; intro v1 w1 hown1 hb1)
        go_roundw
        case rel => exact ⟨4, by omega, rfl, by rw [hnext.out, u8s_append, List.length_append]; exact hown1, hbr.trans hb1⟩
        case measure => simp [intOf]
    · obtain rfl : k = 4 := by omega
      have hlt' : ¬ ((4 : Nat) : Int) < 4 := by omega
      go_wp2_with fail
      go_ret
      exact ⟨_, rfl, hown, hbr⟩
theorem first_row (w : World) (cs : Array Value) (e : TypeId) (o : Obj) : ((w.alloc (.cells cs e)).alloc o).heap[w.heap.size]? = some (.cells cs e (0, 0)) := by
  show ((w.heap.push (.cells cs e)).push o)[w.heap.size]? = _
  rw [Array.getElem?_push, if_neg (by rw [Array.size_push]; omega), Array.getElem?_push, if_pos rfl]
set_option maxHeartbeats 400000 in
set_option maxRecDepth 100000 in
theorem wrap_many (A : Option Addr) (c : Nat) (l : List UInt8) (w : World) (h : (16384 : Int) < (l.length : Int)) :
    Calls Try.prog 17 #[.slice A l.length c] w fun e w' => e = .returned (.tuple #[.slice none 0 0, .int .i64 4]) ∧ w = w' := by
  go_enter Try.func17, Try.ntmps17
  go_wp2_with fail
  go_ret2
  exact ⟨rfl, rfl⟩
set_option maxHeartbeats 800000 in
set_option maxRecDepth 100000 in
theorem wrap_ok (A : Option Addr) (c : Nat) (l : List UInt8) (w : World) (hr : RB w w.heap.size A l) (h : l.length ≤ 16384) :
    Calls Try.prog 17 #[.slice A l.length c] w fun e w' => ∃ v, e = .returned (.tuple #[v, .int .i64 0]) ∧ w'.ownsRow w.heap.size 5 1 v (frm l).length (u8s (frm l)) ∧ Below w.heap.size w w' := by
  have hle : (l.length : Int) ≤ 16384 := by omega
  have C := hide (put_ok l.length w (by omega))
  have hsix := nb_six (n := l.length) (by omega)
  go_enter Try.func17, Try.ntmps17
  go_wp2_with fail
  refine (unhide C).mono ?_
  rintro e w1 ⟨v1, rfl, hown1, hb1⟩
  obtain ⟨A1, c1, rfl, -, -, -⟩ := own_slice hown1
  have hr1 : RB w1 w1.heap.size A1 (nb l.length) := RD.of_own hown1
  have hrl : RB w1 w1.heap.size A l := (RD.below hr hb1).more hb1.size
  clear hown1 C
  go_wp2_with fail
  have hfl : flat [(some ⟨w1.heap.size, 0, none⟩, [70], 1), (A1, nb l.length, c1), (A, l, c)] 3 = head l := by simp [flat, head]
  refine (concat_any (w1.heap.size + 1) 3 [(some ⟨w1.heap.size, 0, none⟩, [70], 1), (A1, nb l.length, c1), (A, l, c)] _ ?_ ?_ ?_ ?_ (by simp)).mono ?_
  · rw [World.size_alloc, World.size_alloc]; exact Nat.lt_succ_self _
  · intro j hj
    have : j = 0 ∨ j = 1 ∨ j = 2 := by simp at hj; omega
    rcases this with rfl | rfl | rfl
    · exact World.cell?_alloc2_new _ _ _ 0
    · exact World.cell?_alloc2_new _ _ _ 1
    · exact World.cell?_alloc2_new _ _ _ 2
  · intro j hj
    have : j = 0 ∨ j = 1 ∨ j = 2 := by simp at hj; omega
    rcases this with rfl | rfl | rfl
    · refine RB.row (cs := #[.int .u8 70]) (e := 5) (fr := (0, 0)) ?_ rfl
      exact first_row w1 _ _ _
    · exact (RD.alloc (RD.alloc hr1 (Nat.le_refl _) _) (by rw [World.size_alloc]; exact Nat.le_succ _) _).more (by rw [World.size_alloc, World.size_alloc]; exact Nat.le_add_right _ 2)
    · exact (RD.alloc (RD.alloc hrl (Nat.le_refl _) _) (by rw [World.size_alloc]; exact Nat.le_succ _) _).more (by rw [World.size_alloc, World.size_alloc]; exact Nat.le_add_right _ 2)
  · show (flat _ 3).length < _
    rw [hfl, head_len]
    omega
  rintro e w2 ⟨v2, rfl, hown2, hb2⟩
  change w2.ownsRow _ _ 1 v2 (flat _ 3).length (u8s (flat _ 3)) at hown2
  rw [hfl] at hown2
  have hb12 : Below w1.heap.size w1 w2 := (((Below.refl w1.heap.size w1).alloc (Nat.le_refl _) _).alloc (by rw [World.size_alloc]; exact Nat.le_succ _) _).trans (hb2.mono (by rw [World.size_alloc, World.size_alloc]; exact Nat.le_add_right _ 2))
  have hown3 := own_base (base' := w1.heap.size) hown2 (by rw [World.size_alloc, World.size_alloc]; exact Nat.le_add_right _ 2)
  clear hown2 hb2
  go_wp2_with fail
  refine (sealed_ok w1.heap.size v2 (head l) w2 hown3 hb12.size (by rw [head_len]; omega)).mono ?_
  rintro e w3 ⟨v3, rfl, hown4, hb3⟩
  go_wp2_with fail
  go_ret2
  exact ⟨_, rfl, own_base hown4 hb1.size, fresh hb1 (hb12.trans hb3)⟩
end Go.Proofs.Ytmkpfdcnikgokaa
