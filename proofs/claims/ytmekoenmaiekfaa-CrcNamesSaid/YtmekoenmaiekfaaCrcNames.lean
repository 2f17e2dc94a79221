/-
  CrcNames: true. No condition.
-/
import Derived.Test.YtmekoenmaiekfaaCrcLaw
import Derived.Test.YtmekoenmaiekfaaPast
import Derived.Deep.WholeRow
namespace Go.Proofs.Ytmekoenmaiekfaa
open Go.RowKit

theorem tb_0 : tb (BitVec.ofNat 32 0) = 0#32 := by decide +kernel
theorem tb_1 : tb (BitVec.ofNat 32 1) = 0x77073096#32 := by decide +kernel
theorem tb_255 : tb (BitVec.ofNat 32 255) = 0x2d02ef8d#32 := by decide +kernel
theorem sm_nil : sm [] = 0#32 := by decide +kernel
theorem sm_zero : smT (fun _ => 0#32) [0] = 0xff000000#32 := by decide +kernel

set_option maxHeartbeats 400000 in
set_option maxRecDepth 100000 in
theorem crcNames_walk (w : World) :
    Calls Try.prog 4 #[] w fun e w' => e = .returned (.bool true) ∧ Below w.heap.size w w' := by
  have hz := zero_table
  go_enter Try.func4, Try.ntmps4
  go_wp2_with fail
  refine (table_ok _).mono ?_
  rintro e w1 ⟨rfl, hb1⟩
  go_wp2_with (with_reducible refine wpList_store_row rfl 29 (.tmp 1) (.tmp 2) rfl w1.heap.size (tcells tb) rfl rfl 29 tzero (heap_alloc_new w1 _) (info_table tb) (tzero_size tb) (one_table tb) ?_)
  clear hz
  rw [World.setRow_alloc_new]
  have hb2 := hb1.trans (((Below.refl w1.heap.size w1).alloc (Nat.le_refl _) (.cells (tcells tb) 29)).mono hb1.size)
  have hg := heap_alloc_new w1 (.cells (tcells tb) 29)
  have hlt : w1.heap.size < (w1.alloc (.cells (tcells tb) 29)).heap.size := by simp
  generalize w1.alloc (.cells (tcells tb) 29) = w2 at hb2 hg hlt ⊢
  generalize w1.heap.size = g at hg hlt ⊢
  clear hb1
  try simp only [Act.put]
  go_wp2_with fail
  refine (crcalive_ok _).mono ?_
  rintro e w3 ⟨rfl, hb3⟩
  have hg3 : w3.heap[g]? = some (.cells (tcells tb) 29 (0, 0)) := (hb3.block g hlt).trans hg
  have c0 : w3.cell? ⟨g, 0, none⟩ = some (.int .u32 0) := by
    rw [cell_of_row w3 g _ _ _ _ hg3, tcells_get tb 0 (by omega), tb_0]; rfl
  have c1 : w3.cell? ⟨g, 1, none⟩ = some (.int .u32 1996959894) := by
    rw [cell_of_row w3 g _ _ _ _ hg3, tcells_get tb 1 (by omega), tb_1]; rfl
  have c255 : w3.cell? ⟨g, 255, none⟩ = some (.int .u32 755167117) := by
    rw [cell_of_row w3 g _ _ _ _ hg3, tcells_get tb 255 (by omega), tb_255]; rfl
  clear hg hg3
  go_wp2_with fail
  refine (lawsum_ok none 0 [] w3 RD.nil_ (by simp)).mono ?_
  rintro e w4 ⟨rfl, hb4⟩
  rw [sm_nil]
  clear c0 c1 c255
  have hz := zero_table
  go_wp2_with fail
  clear hz
  refine (sum_any (fun _ => 0#32) _ 1 [0] _ (RB.row (heap_alloc_new w4 _) rfl) (by simp)).mono ?_
  rintro e w5 ⟨rfl, hb5⟩
  rw [sm_zero]
  go_wp2_with fail
  go_ret
  exact ⟨rfl, fresh (fresh (fresh hb2 hb3) hb4) (fresh ((Below.refl _ _).alloc (Nat.le_refl _) _) hb5)⟩
end Go.Proofs.Ytmekoenmaiekfaa
