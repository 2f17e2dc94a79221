/-
  CrcTable: true for every two bytes. No condition.
-/
import Derived.Test.YtmekoenmaiekfaaCrcLaw
import Derived.Test.YtmekoenmaiekfaaPast
import Derived.Deep.WholeRow
namespace Go.Proofs.Ytmekoenmaiekfaa
open Go.RowKit

theorem hi0_xor (a b : UInt8) : tb (BitVec.ofNat 32 (a ^^^ b).toNat) = tb (BitVec.ofNat 32 a.toNat) ^^^ tb (BitVec.ofNat 32 b.toNat) := by
  have := hi_xor 0 a b
  simp only [hi_zero] at this
  rw [this, tb_xor]
theorem tb_byte_inj {a b : UInt8} (h : tb (BitVec.ofNat 32 a.toNat) = tb (BitVec.ofNat 32 b.toNat)) : a = b := by
  have := congrArg BitVec.toNat (tb_inj h)
  have ha := a.toNat_lt
  have hb := b.toNat_lt
  rw [BitVec.toNat_ofNat, BitVec.toNat_ofNat, Nat.mod_eq_of_lt (by omega), Nat.mod_eq_of_lt (by omega)] at this
  exact UInt8.toNat_inj.1 this

set_option maxHeartbeats 400000 in
set_option maxRecDepth 100000 in
theorem crcTable_walk (a b : UInt8) (w : World) :
    Calls Try.prog 9 #[.int .u8 (a.toNat : Int), .int .u8 (b.toNat : Int)] w fun e w' => e = .returned (.bool true) ∧ Below w.heap.size w w' := by
  have hz := zero_table
  go_enter Try.func9, Try.ntmps9
  go_wp2_with fail
  refine (table_ok _).mono ?_
  rintro e w1 ⟨rfl, hb1⟩
  go_wp2_with (with_reducible refine wpList_store_row rfl 29 (.tmp 5) (.tmp 6) rfl w1.heap.size (tcells tb) rfl rfl 29 tzero (heap_alloc_new w1 _) (info_table tb) (tzero_size tb) (one_table tb) ?_)
  clear hz
  rw [World.setRow_alloc_new]
  have hb2 := hb1.trans (((Below.refl w1.heap.size w1).alloc (Nat.le_refl _) (.cells (tcells tb) 29)).mono hb1.size)
  have hg := heap_alloc_new w1 (.cells (tcells tb) 29)
  have hlt : w1.heap.size < (w1.alloc (.cells (tcells tb) 29)).heap.size := by simp
  generalize w1.alloc (.cells (tcells tb) 29) = w2 at hb2 hg hlt ⊢
  generalize w1.heap.size = g at hg hlt ⊢
  clear hb1
  try simp only [Act.put]
  have cell : ∀ x : UInt8, w2.cell? ⟨g, x.toNat, none⟩ = some (.int .u32 ((tb (BitVec.ofNat 32 x.toNat)).toNat : Int)) := fun x => by
    rw [cell_of_row w2 g _ _ _ _ hg, tcells_get tb _ x.toNat_lt]; rfl
  have ha := cell a
  have hb := cell b
  have hab := cell (a ^^^ b)
  have e1 : bits .xor .u8 (a.toNat : Int) (b.toNat : Int) = ((a ^^^ b).toNat : Int) := by
    rw [u8_xor_nat _ _ a.toNat_lt b.toNat_lt, UInt8.toNat_xor]
  have e2 : bits .xor .u32 ((tb (BitVec.ofNat 32 a.toNat)).toNat : Int) ((tb (BitVec.ofNat 32 b.toNat)).toNat : Int) = ((tb (BitVec.ofNat 32 (a ^^^ b).toNat)).toNat : Int) := by
    rw [hi0_xor, BitVec.toNat_xor, u32_xor_nat _ _ (BitVec.isLt _) (BitVec.isLt _)]
  have la : (a.toNat : Int) < 256 := by have := a.toNat_lt; omega
  have lb : (b.toNat : Int) < 256 := by have := b.toNat_lt; omega
  have lab : ((a ^^^ b).toNat : Int) < 256 := by have := (a ^^^ b).toNat_lt; omega
  have hinj := hide (fun h => tb_byte_inj (a := a) (b := b) h)
  clear cell hg
  generalize tb (BitVec.ofNat 32 a.toNat) = ta at ha e2 hinj
  generalize tb (BitVec.ofNat 32 b.toNat) = tb' at hb e2 hinj
  generalize tb (BitVec.ofNat 32 (a ^^^ b).toNat) = tab at hab e2
  have dec : (((ta.toNat : Int) == (tb'.toNat : Int)) == ((a.toNat : Int) == (b.toNat : Int))) = true := by
    by_cases h : a = b
    · subst h
      have : ta = tb' := by
        rw [ha] at hb
        simp only [Option.some.injEq, Value.int.injEq, true_and] at hb
        exact BitVec.eq_of_toNat_eq (by omega)
      subst this
      simp
    · have h1 : ((a.toNat : Int) == (b.toNat : Int)) = false := by
        simp only [beq_eq_false_iff_ne, ne_eq, Int.natCast_inj]
        exact fun e => h (UInt8.toNat_inj.1 e)
      have h2 : ((ta.toNat : Int) == (tb'.toNat : Int)) = false := by
        simp only [beq_eq_false_iff_ne, ne_eq, Int.natCast_inj]
        exact fun e => h (hinj.out (BitVec.eq_of_toNat_eq e))
      rw [h1, h2]; rfl
  generalize (a ^^^ b).toNat = ab at e1 lab hab ⊢
  generalize a.toNat = an at *
  generalize b.toNat = bn at *
  go_wp2_with fail
  refine wp_region_past (by kernel_rfl) (by kernel_rfl) ?_
  quiet_step ((go_at_call 22; exact past_call (crcalive_ok _)))
  repeat (quiet_step (fail))
  refine wpQuiet_nil ?_
  intro w3 hw3
  obtain ⟨u, rfl⟩ := hw3
  go_wp2_with fail
  go_ret
  exact ⟨rfl, fresh hb2 (below_past w2 u)⟩
end Go.Proofs.Ytmekoenmaiekfaa
