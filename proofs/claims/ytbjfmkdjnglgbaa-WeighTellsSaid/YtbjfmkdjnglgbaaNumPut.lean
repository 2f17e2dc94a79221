/-
  What num.Put does: the number's bytes in new memory, or the error. No condition: every int.
-/
import Derived.Test.YtbjfmkdjnglgbaaRows
import Derived.Test.YtbjfmkdjnglgbaaWords
import Derived.Test.YtbjfmkdjnglgbaaNumMath
namespace Go.Proofs.Ytbjfmkdjnglgbaa
open Go.RowKit

theorem u8info : (Try.prog.info? 5).map (fun i => (i.zero, i.size, i.bytes)) = some (some (.int .u8 0), 1, 1) := by kernel_rfl

set_option maxHeartbeats 400000 in
theorem put_arg (n : Int) (w : World) (h : n < 0 ∨ 1099511627776 < n) :
    Calls Try.prog 132 #[.int .i64 n] w fun e w' => e = .returned (.tuple #[.slice none 0 0, .int .i64 2]) ∧ w = w' := by
  rcases h with h | h
  · go_enter Try.func132, Try.ntmps132
    go_wp2
    go_ret2
    exact ⟨rfl, rfl⟩
  · have h0 : ¬ n < 0 := by omega
    go_enter Try.func132, Try.ntmps132
    go_wp2
    go_ret2
    exact ⟨rfl, rfl⟩

theorem or128_all : ∀ k : Fin 256, bits .or .u8 ((k.val : Nat) : Int) 128 = ((UInt8.ofNat (k.val % 128 + 128)).toNat : Int) := by decide +kernel
theorem or128 (m : Nat) : bits .or .u8 ((m : Int) % 256) 128 = ((UInt8.ofNat (m % 128 + 128)).toNat : Int) := by
  have h := or128_all ⟨m % 256, Nat.mod_lt _ (by omega)⟩
  have e1 : (((m % 256 : Nat)) : Int) = (m : Int) % 256 := by omega
  have e2 : m % 256 % 128 = m % 128 := by omega
  simp only [e1, e2] at h
  exact h

set_option maxHeartbeats 400000 in
set_option maxRecDepth 100000 in
theorem put_ok (n : Nat) (w : World) (h : n ≤ 1099511627776) :
    Calls Try.prog 132 #[.int .i64 (n : Int)] w fun e w' => ∃ v, e = .returned (.tuple #[v, .int .i64 0]) ∧ w'.ownsRow w.heap.size 5 1 v (nb n).length (u8s (nb n)) ∧ Below w.heap.size w w' := by
  have h1 : ¬ (n : Int) < 0 := by omega
  have h2 : ¬ (1099511627776 : Int) < n := by omega
  obtain ⟨i0, hi0, hz0, hz1, hz2⟩ := info_parts u8info
  go_enter Try.func132, Try.ntmps132
  go_wp2
  have H := hide h
  clear h h1 h2
  go_loopw [0, 4] (fun x b wr => ∃ (m : Nat) (pre : List UInt8), x = .int .i64 (m : Int) ∧ Hid (nb n = pre ++ nb m) ∧ m ≤ n ∧ wr.ownsRow w.heap.size 5 1 b pre.length (u8s pre) ∧ Below w.heap.size w wr) (fun x _ _ => (intOf x).toNat)
  case atStart => exact ⟨n, [], rfl, hide rfl, Nat.le_refl _, World.ownsRow_nil _ _ _ _, Below.refl _ _⟩
  case round =>
    obtain ⟨m, pre, rfl, hb, hm, hown, hbel⟩ := hrel
    have hlen : pre.length < 1073741824 := by
      have h1 := nb_six H.out
      have h2 := congrArg List.length hb.out
      rw [List.length_append] at h2
      omega
    by_cases hlt : m < 128
    · go_wp2_with (at_builtin; refine wpList_push rfl _ _ 67 rfl w.heap.size i0 (.int .u8 0) 1 1 Try.underlying67 hi0 hz0 hz1 hz2 rfl (by decide) _ _ _ rfl hown 1 rfl rfl rfl hlen (by decide) hbel.size ?_; intro v1 w1 hown1 hb1)
      go_ret2
      refine ⟨v1, rfl, ?_, hbel.trans hb1⟩
      rw [hb.out, nb_small hlt]
      rw [u8s_append]
      have e : (m : Int) % 256 = (m : Int) := by omega
      simpa [u8s, e] using hown1
    · go_wp2_with (at_builtin; refine wpList_push rfl _ _ 67 rfl w.heap.size i0 (.int .u8 0) 1 1 Try.underlying67 hi0 hz0 hz1 hz2 rfl (by decide) _ _ _ rfl hown 1 rfl rfl rfl hlen (by decide) hbel.size ?_; intro v1 w1 hown1 hb1)
      go_roundw
      case rel =>
        refine ⟨m / 128, pre ++ [UInt8.ofNat (m % 128 + 128)], by go_num, hide ?_, by omega, ?_, hbel.trans hb1⟩
        · rw [hb.out, nb_big hlt]
          simp
        · rw [or128] at hown1
          simpa [u8s] using hown1
      case measure => simp [intOf]; omega

/-- The same, the number given as an Int. -/
theorem put_int (z : Int) (w : World) (h0 : 0 ≤ z) (h : z ≤ 1099511627776) :
    Calls Try.prog 132 #[.int .i64 z] w fun e w' => ∃ v, e = .returned (.tuple #[v, .int .i64 0]) ∧ w'.ownsRow w.heap.size 5 1 v (nb z.toNat).length (u8s (nb z.toNat)) ∧ Below w.heap.size w w' := by
  obtain ⟨n, rfl⟩ := Int.eq_ofNat_of_zero_le h0
  have := put_ok n w (by omega)
  simpa using this
end Go.Proofs.Ytbjfmkdjnglgbaa
