/-
  StampNames: true. No condition.
-/
import Derived.Test.YtllmlnbgfikeaaaStampAlive
import Derived.Test.YtllmlnbgfikeaaaAppend
namespace Go.Proofs.Ytllmlnbgfikeaaa
open Go.RowKit

theorem idinfo : (Try.prog.info? 31).map (fun i => (i.zero, i.size, i.bytes)) = some (some (.agg #[.int .u32 0, .int .u8 0]), 2, 8) := by kernel_rfl
theorem made_ids (n : Nat) : (madeCells #[.int .u32 0, .int .u8 0] (n * 2)).toList = ids (List.replicate n (0, 0)) := by
  apply List.ext_getElem?
  intro j
  by_cases hj : j < n * 2
  · have hi : j / 2 < (List.replicate n ((0, 0) : Int × Int)).length := by rw [List.length_replicate]; omega
    obtain ⟨g0, g1⟩ := ids_get (List.replicate n ((0, 0) : Int × Int)) (j / 2) hi
    rw [List.getElem_replicate] at g0 g1
    have hm : (madeCells #[Value.int .u32 0, Value.int .u8 0] (n * 2)).toList[j]? = some ((#[Value.int .u32 0, Value.int .u8 0] : Array Value)[j % 2]!) := by simp [madeCells, hj]
    rw [hm]
    rcases Nat.mod_two_eq_zero_or_one j with hp | hp
    · have e : j / 2 * 2 = j := by omega
      rw [e] at g0
      rw [g0, hp]
      rfl
    · have e : j / 2 * 2 + 1 = j := by omega
      rw [e] at g1
      rw [g1, hp]
      rfl
  · rw [List.getElem?_eq_none (by simp [size_madeCells]; omega), List.getElem?_eq_none (by rw [ids_len, List.length_replicate]; omega)]
/-- make([]api.Id, n): n zeroes in a block of the call's own. -/
theorem make_ids (w : World) (n : Nat) (z : Int) (hz : z = (n : Int)) (h : n < 100000) :
    ∃ w', (Instr.makeSlice 35 (.int .i64 z) (.int .i64 z)).run Try.prog w = .ok (.slice (some ⟨w.heap.size, 0, none⟩) n n) w' ∧ RI w' w'.heap.size (some ⟨w.heap.size, 0, none⟩) (List.replicate n (0, 0)) ∧ Below w.heap.size w w' := by
  subst hz
  obtain ⟨i0, hi0, hz0, hz1, hz2⟩ := info_parts idinfo
  obtain ⟨w', h1, h2, h3⟩ := run_makeSlice_full (P := Try.prog) w w.heap.size 35 31 i0 (.agg #[.int .u32 0, .int .u8 0]) 2 Try.underlying35 hi0 hz0 hz1 .i64 .i64 n (by omega) (by rw [hz2]; omega) (by unfold maxLen; omega) (Nat.le_refl _)
  refine ⟨w', h1, ?_, grown_below (World.ownsRow_nil _ _ _ _ : w.ownsRow w.heap.size 31 2 (.slice none 0 0) 0 []) h3 (Nat.le_refl _)⟩
  have e := made_ids n
  change w'.ownsRow _ _ 2 _ n (madeCells #[.int .u32 0, .int .u8 0] (n * 2)).toList at h2
  rw [e] at h2
  unfold RI
  rw [List.length_replicate]
  exact RD.of_own h2
theorem topI_zeros (n : Nat) : topI (List.replicate n (0, 0)) = 0 := by
  induction n with
  | zero => rfl
  | succ n ih => rw [List.replicate_succ', topI_snoc, ih]; rfl
theorem nextI_zeros (n : Nat) (h : n ≤ 1024) : nextI 0 (List.replicate n (0, 0)) = ((1, 0), 0) := by
  unfold nextI
  rw [if_neg (by rw [List.length_replicate]; omega), if_neg (by decide), if_neg, topI_zeros]
  · rfl
  · rintro ⟨a, ha, hn⟩
    rw [List.mem_replicate] at ha
    exact hn (.inl ha.2)
theorem nextI_long (l : List (Int × Int)) (r : Int) (h : 1024 < l.length) : nextI r l = ((0, 0), 4) := by
  unfold nextI
  rw [if_pos h]
theorem zeros_ok (n : Nat) : ∀ a ∈ List.replicate n ((0, 0) : Int × Int), okI a := by
  intro a ha
  rw [List.mem_replicate] at ha
  rw [ha.2]
  unfold okI
  decide
theorem no_ok : ∀ a ∈ ([] : List (Int × Int)), okI a := fun a ha => by cases ha

/-- A contract of Next whose answer is known. -/
theorem next_is (r : Int) (A : Option Addr) (n c : Nat) (l : List (Int × Int)) (t s e' : Int) (w : World) (hr : RI w w.heap.size A l) (hn : l.length = n) (hl : n < 1073741824) (hok : ∀ a ∈ l, okI a) (h : nextI r l = ((t, s), e')) :
    Calls Try.prog 15 #[.int .u8 r, .slice A n c] w fun e w' => e = .returned (.tuple #[.agg #[.int .u32 t, .int .u8 s], .int .i64 e']) ∧ Below w.heap.size w w' :=
  (next_any r A n c l w hr hn hl hok).mono fun _ _ ⟨he, hb⟩ => ⟨by rw [he, h], hb⟩

/-- One box. -/
theorem one_box (w : World) (a b : Value) (T : TypeId) : ∃ w2, w.alloc (.cells #[a, b] T) = w2 ∧ w2.cell? ⟨w.heap.size, 0, none⟩ = some a ∧ w2.cell? ⟨w.heap.size, 1, none⟩ = some b ∧ w.heap.size < w2.heap.size ∧ Below w.heap.size w w2 := by
  refine ⟨_, rfl, ?_, ?_, by simp, boxed _ _⟩
  · rw [World.cell?_alloc_new]; rfl
  · rw [World.cell?_alloc_new]; rfl

set_option maxHeartbeats 1600000 in
set_option maxRecDepth 100000 in
theorem stampNames_walk (w : World) : Calls Try.prog 4 #[] w fun e w' => e = .returned (.bool true) ∧ Below w.heap.size w w' := by
  have C1 := hide (fun w => scheck_no 0 0 w (by decide))
  have C2 := hide (fun w => scheck_no 1 8 w (by decide))
  have C3 := hide (fun w => scheck_yes 1073741824 7 w (by decide))
  have C4 := hide (fun w => scheck_no 1073741825 7 w (by decide))
  go_enter Try.func4, Try.ntmps4
  go_wp2_with fail
  refine (next_is 2 none 0 0 [] 1 2 0 w RD.nil_ rfl (by decide) no_ok (by decide)).mono ?_
  rintro e w1 ⟨rfl, hb1⟩
  go_wp2_with fail
  obtain ⟨w2, hw2, k0, k1, hs2, hb2⟩ := one_box w1 (.int .u32 1) (.int .u8 2) 31
  have hbw2 := fresh hb1 hb2
  rw [hw2]
  generalize w1.heap.size = g at k0 k1 hs2 ⊢
  clear hw2
  refine (by_ok 1073741824 0 w2).mono ?_
  rintro e w3 ⟨rfl, hb3⟩
  replace k0 := keep_cell hb3 hs2 k0
  replace k1 := keep_cell hb3 hs2 k1
  replace hs2 := Nat.lt_of_lt_of_le hs2 hb3.size
  have hbw3 := fresh hbw2 hb3
  go_wp2_with fail
  have hbx := boxed w3 (.cells #[.int .u32 1073741824, .int .u8 0] 31)
  refine (next_is 2 _ 1 1 [(1073741824, 0)] 0 0 50 _ (RI.new w3 _ _ [(1073741824, 0)] rfl) rfl (by decide) (by intro a ha; simp at ha; subst ha; unfold okI; decide) (by decide)).mono ?_
  rintro e w4 ⟨rfl, hb4⟩
  have hb34 := fresh hbx hb4
  clear hb4 hbx
  replace k0 := keep_cell hb34 hs2 k0
  replace k1 := keep_cell hb34 hs2 k1
  replace hs2 := Nat.lt_of_lt_of_le hs2 hb34.size
  have hbw4 := fresh hbw3 hb34
  go_wp2_with fail
  have hb45 := boxed w4 (.cells #[.int .u32 0, .int .u8 0] 31)
  generalize w4.alloc (.cells #[.int .u32 0, .int .u8 0] 31) = w5 at hb45 ⊢
  generalize w4.heap.size = g5
  refine (next_is 8 none 0 0 [] 0 0 8 w5 RD.nil_ rfl (by decide) no_ok (by decide)).mono ?_
  rintro e w6 ⟨rfl, hb6⟩
  have hb46 := fresh hb45 hb6
  go_wp2_with fail
  have hb67 := boxed w6 (.cells #[.int .u32 0, .int .u8 0] 31)
  generalize w6.alloc (.cells #[.int .u32 0, .int .u8 0] 31) = w7 at hb67 ⊢
  generalize w6.heap.size = g7
  have hb47 := fresh hb46 hb67
  obtain ⟨w8, hmk, hr8, hb8⟩ := make_ids w7 1025 1025 rfl (by decide)
  rw [hmk]
  clear hmk
  have hb48 := fresh hb47 hb8
  generalize w7.heap.size = g8 at hr8 ⊢
  go_wp2_with fail
  refine (next_is 0 _ 1025 1025 (List.replicate 1025 (0, 0)) 0 0 4 w8 hr8 (List.length_replicate ..) (by decide) (zeros_ok _) (nextI_long _ _ (by rw [List.length_replicate]; decide))).mono ?_
  rintro e w9 ⟨rfl, hb9⟩
  have hb49 := fresh hb48 hb9
  clear hr8
  go_wp2_with fail
  have hb9a := boxed w9 (.cells #[.int .u32 0, .int .u8 0] 31)
  generalize w9.alloc (.cells #[.int .u32 0, .int .u8 0] 31) = wa at hb9a ⊢
  generalize w9.heap.size = ga
  have hb4a := fresh hb49 hb9a
  obtain ⟨wb, hmk, hrb, hbb⟩ := make_ids wa 1024 1024 rfl (by decide)
  rw [hmk]
  clear hmk
  have hb4b := fresh hb4a hbb
  generalize wa.heap.size = gb at hrb ⊢
  go_wp2_with fail
  refine (next_is 0 _ 1024 1024 (List.replicate 1024 (0, 0)) 1 0 0 wb hrb (List.length_replicate ..) (by decide) (zeros_ok _) (nextI_zeros _ (by decide))).mono ?_
  rintro e wc ⟨rfl, hbc⟩
  have hb4c := fresh hb4b hbc
  clear hrb
  go_wp2_with fail
  obtain ⟨wd, hwd, m0, m1, hsd, hbd⟩ := one_box wc (.int .u32 1) (.int .u8 0) 31
  have hb4d := fresh hb4c hbd
  rw [hwd]
  generalize wc.heap.size = gd at m0 m1 hsd ⊢
  clear hwd
  replace k0 := keep_cell hb4d hs2 k0
  replace k1 := keep_cell hb4d hs2 k1
  replace hs2 := Nat.lt_of_lt_of_le hs2 hb4d.size
  have hbwd := fresh hbw4 hb4d
  refine wp_region_past (by kernel_rfl) (by kernel_rfl) ?_
  repeat (quiet_step ((first
        | (go_at_call 16; exact past_call (by_ok _ _ _))
        | (go_at_call 17; exact past_call (salive_ok _))
        | (go_at_call 18; with_reducible exact past_call (unhide C1 _))
        | (go_at_call 18; with_reducible exact past_call (unhide C2 _))
        | (go_at_call 18; with_reducible exact past_call (unhide C3 _))
        | (go_at_call 18; with_reducible exact past_call (unhide C4 _)))))
  refine wpQuiet_nil ?_
  intro we hwe
  obtain ⟨u, rfl⟩ := hwe
  have hbe := fresh hbwd (below_past wd u)
  clear k0 k1 m0 m1
  go_wp2_with fail
  go_ret
  exact ⟨rfl, hbe⟩
end Go.Proofs.Ytllmlnbgfikeaaa
