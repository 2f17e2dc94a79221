/-
  CodeNames: the chapter's examples. No condition.
-/
import Derived.Test.YtbjfmkdjnglgbaaCodeAlive
import Derived.Laws.OwnMore
namespace Go.Proofs.Ytbjfmkdjnglgbaa
open Go.RowKit

theorem read_seven : nxt [0, 7] 0 0 1024 = some (0, 1) := by decide +kernel
theorem read_great : nxt [129, 8] 0 0 1024 = none := by decide +kernel
theorem zero_not : ¬ mayO 0 0 0 [] 0 := by decide

theorem opinfo : (Try.prog.info? 47).map (fun i => (i.zero, i.size, i.bytes)) = some (some (.agg #[.int .u8 0, .int .u32 0, .int .u8 0, .slice none 0 0, .int .i64 0]), 5, 48) := by kernel_rfl
theorem make_many (w : World) : ∃ w', (Instr.makeSlice 79 (.int .i64 1025) (.int .i64 1025)).run Try.prog w = .ok (.slice (some ⟨w.heap.size, 0, none⟩) 1025 1025) w' ∧ Below w.heap.size w w' := by
  obtain ⟨i0, hi0, hz0, hz1, hz2⟩ := info_parts opinfo
  obtain ⟨w', h1, h2, h3⟩ := run_makeSlice_full (P := Try.prog) w w.heap.size 79 47 i0 (.agg #[.int .u8 0, .int .u32 0, .int .u8 0, .slice none 0 0, .int .i64 0]) 5 Try.underlying79 hi0 hz0 hz1 .i64 .i64 1025 (by omega) (by rw [hz2]; omega) (by unfold maxLen; omega) (Nat.le_refl _)
  exact ⟨w', h1, grown_below (World.ownsRow_nil _ _ _ _ : w.ownsRow w.heap.size 47 5 (.slice none 0 0) 0 []) h3 (Nat.le_refl _)⟩

set_option maxHeartbeats 3200000 in
set_option maxRecDepth 100000 in
theorem codeNames_walk (w : World) : Calls Try.prog 20 #[] w fun e w' => e = .returned (.bool true) ∧ Below w.heap.size w w' := by
  have P0 := hide (fun (W : World) => cwrite_any 0 0 0 0 none 0 0 [] W RD.nil_ rfl (by decide) (fun x hx => by cases hx) (by decide) ⟨by decide, by decide, by decide, by decide⟩)
  rw [show chkO 0 0 0 [] 0 = 8 from if_neg zero_not, show putB 0 0 0 [] 0 = [] from if_neg zero_not] at P0
  have B1 := hide (fun (W : World) => cbad_ok (some ⟨W.heap.size, 0, none⟩) [1, 1, 1, 0, 3] 5 5 (W.alloc (.cells #[.int .u8 1, .int .u8 1, .int .u8 1, .int .u8 0, .int .u8 3] 5)) (RB.row (heap_alloc_new _ _) rfl) rfl (by decide) (by decide) (fun h => by cases h) bad_one)
  have B2 := hide (fun (W : World) => cbad_ok (some ⟨W.heap.size, 0, none⟩) [9, 1, 1, 0, 3, 97] 6 6 (W.alloc (.cells #[.int .u8 9, .int .u8 1, .int .u8 1, .int .u8 0, .int .u8 3, .int .u8 97] 5)) (RB.row (heap_alloc_new _ _) rfl) rfl (by decide) (by decide) (fun h => by cases h) bad_two)
  have B3 := hide (fun (W : World) => cbad_ok none [] 0 0 W RD.nil_ rfl (by decide) (by decide) (fun _ => rfl) bad_three)
  have R1 := hide (fun (W : World) => cread_none (some ⟨W.heap.size, 0, none⟩) [0, 7] 2 2 (W.alloc (.cells #[.int .u8 0, .int .u8 7] 5)) (RB.row (heap_alloc_new _ _) rfl) rfl (by decide) (by decide) (fun h => by cases h) (fun x q h => by rw [read_seven] at h; simp at h; exact h.1.symm))
  have R2 := hide (fun (W : World) => cread_none (some ⟨W.heap.size, 0, none⟩) [129, 8] 2 2 (W.alloc (.cells #[.int .u8 129, .int .u8 8] 5)) (RB.row (heap_alloc_new _ _) rfl) rfl (by decide) (by decide) (fun h => by cases h) (fun x q h => by rw [read_great] at h; cases h))
  simp only [read_seven] at R1
  simp only [read_great] at R2
  go_enter Try.func20, Try.ntmps20
  go_wp2_with fail
  refine (call_nil w).mono ?_
  rintro e w1 ⟨A1, c1, rfl, hr1, hb1⟩
  go_wp2_with fail
  refine (unhide R1 w1).mono ?_
  rintro e w2 ⟨rfl, hb2'⟩
  have hb2 : Below w1.heap.size w1 w2 := fresh (boxed w1 _) hb2'
  have hb02 := fresh hb1 hb2
  go_wp2_with fail
  obtain ⟨w3, hmk, hb3⟩ := make_many w2
  rw [hmk]
  have hb03 := fresh hb02 hb3
  clear hmk hb2'
  generalize w2.heap.size = g2
  go_wp2_with fail
  refine (call_many (some ⟨g2, 0, none⟩) 1025 1025 w3 (by decide)).mono ?_
  rintro e w4 ⟨rfl, rfl⟩
  go_wp2_with fail
  refine (unhide P0 w4).mono ?_
  rintro e w5 ⟨v5, rfl, -, hb5⟩
  have hb05 := fresh hb03 hb5
  go_wp2_with fail
  refine (unhide R2 w5).mono ?_
  rintro e w6 ⟨rfl, hb6'⟩
  have hb6 : Below w5.heap.size w5 w6 := fresh (boxed w5 _) hb6'
  have hb06 := fresh hb05 hb6
  have hb16 := fresh hb2 (fresh hb3 (fresh hb5 hb6))
  clear hb6'
  go_wp2_with fail
  refine (calive_ok w6).mono ?_
  rintro e w7 ⟨rfl, hb7⟩
  have hb07 := fresh hb06 hb7
  have hb17 := fresh hb16 hb7
  have Q : RB w7 w7.heap.size A1 [0] := (RD.below hr1 hb17).more hb17.size
  have q := conv_bytes (P := Try.prog) Q Try.underlying67 Try.underlying5 Try.underlying9 c1
  simp only [List.length_cons, List.length_nil, Nat.reduceAdd] at q
  clear Q hr1
  go_wp2_with fail
  refine (unhide B1 w7).mono ?_
  rintro e w8 ⟨rfl, hb8'⟩
  have hb08 := fresh hb07 (fresh (boxed w7 _) hb8')
  clear hb8'
  go_wp2_with fail
  refine (unhide B2 w8).mono ?_
  rintro e w9 ⟨rfl, hb9'⟩
  have hb09 := fresh hb08 (fresh (boxed w8 _) hb9')
  clear hb9'
  go_wp2_with fail
  refine (unhide B3 w9).mono ?_
  rintro e w10 ⟨rfl, hb10⟩
  go_wp2_with fail
  go_ret
  exact ⟨rfl, fresh hb09 hb10⟩
end Go.Proofs.Ytbjfmkdjnglgbaa
