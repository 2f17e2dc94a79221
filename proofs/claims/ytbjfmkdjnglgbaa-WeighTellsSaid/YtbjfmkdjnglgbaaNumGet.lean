/-
  What num.Get does: the number and how many bytes it has, or the error. Condition: fewer than 2^30 bytes.
-/
import Derived.Test.YtbjfmkdjnglgbaaNumPut
import Derived.Test.YtbjfmkdjnglgbaaFloat
namespace Go.Proofs.Ytbjfmkdjnglgbaa
open Go.RowKit

/-- Get's three results. -/
def gval : Option (Nat × Nat) → Value
  | some (n, s) => .tuple #[.int .i64 (n : Int), .int .i64 (s : Int), .int .i64 0]
  | none => .tuple #[.int .i64 0, .int .i64 0, .int .i64 8]

theorem fv_one : fv 1 = 4607182418800017408 := by decide +kernel
theorem fv_128 : fv 128 = 4638707616191610880 := by decide +kernel


theorem get_facts (n k : Nat) (x : UInt8) (hn : n < 128 ^ k) (hk : k < 6) : ∃ m v n' u', m = x.toNat % 128 ∧ v = 128 ^ k ∧ n' = n + m * v ∧ u' = 128 ^ (k + 1) ∧ n' < 128 ^ (k + 1) ∧ n' < 4398046511104 ∧
    bits .and .u8 (x.toNat : Int) 127 = (m : Int) ∧ floatBits .mul .f64 (fv m) (fv v) = some (fv (m * v)) ∧ floatBits .add .f64 (fv n) (fv (m * v)) = some (fv n') ∧
    floatBits .mul .f64 4638707616191610880 (fv v) = some (fv u') ∧ floatToIntVal .f64 (fv n') .i64 = some (n' : Int) := by
  have hx := x.toNat_lt
  have hp : 128 ^ k ≤ 34359738368 := by
    have : 128 ^ k ≤ 128 ^ 5 := Nat.pow_le_pow_right (by omega) (by omega)
    omega
  have hm : x.toNat % 128 < 128 := Nat.mod_lt _ (by omega)
  have hmv : x.toNat % 128 * 128 ^ k ≤ 127 * 128 ^ k := Nat.mul_le_mul_right _ (by omega)
  have hs : 128 ^ (k + 1) = 128 ^ k * 128 := Nat.pow_succ _ _
  refine ⟨x.toNat % 128, 128 ^ k, _, _, rfl, rfl, rfl, rfl, by omega, by omega, ?_, mul_fv _ _ (by omega) (by omega) (by omega), add_fv _ _ (by omega) (by omega) (by omega), ?_, int_fv _ (by omega)⟩
  · have := u8_and_nat x.toNat 127 (by omega) (by omega)
    refine this.trans ?_
    rw [show (127 : Nat) = 2 ^ 7 - 1 from rfl, Nat.and_two_pow_sub_one_eq_mod]
  · rw [← fv_128, mul_fv _ _ (by omega) (by omega) (by omega), hs, Nat.mul_comm]


set_option maxHeartbeats 1000000 in
set_option maxRecDepth 100000 in
theorem get_any (A : Option Addr) (c : Nat) (l : List UInt8) (w : World) (hr : RB w w.heap.size A l) (hl : l.length < 1073741824) :
    Calls Try.prog 135 #[.slice A l.length c] w fun e w' => e = .returned (gval (gget l)) ∧ w = w' := by
  go_enter Try.func135, Try.ntmps135
  go_wp2_with fail
  refine wp_scope_goto 0 (fun a' w' => w' = w ∧ ∃ (k n u : Nat) (u6 u7 u8 u9 u10 u11 u12 u13 u14 u15 u16 u17 u18 u19 u20 u21 u22 u23 u24 u25 u26 u27 u28 u29 u30 u31 u32 u33 u34 u35 u36 u37 u38 u39 u40 u41 u42 u43 u44 u45 u46 u47 u48 u49 u50 : Value), a' = { tmps := #[.slice A l.length c, undef, .int .i64 0, .int .i64 (k : Int), .int .i64 0, .complex .f64 (fv n) (fv u), u6, u7, u8, u9, u10, u11, u12, u13, u14, u15, u16, u17, u18, u19, u20, u21, u22, u23, u24, u25, u26, u27, u28, u29, u30, u31, u32, u33, u34, u35, u36, u37, u38, u39, u40, u41, u42, u43, u44, u45, u46, u47, u48, u49, u50], defers := [] } ∧ gget l = gg k n (l.drop k) ∧ n < 128 ^ k ∧ u = 128 ^ k ∧ k ≤ 6 ∧ k ≤ l.length) (fun a' _ => (6 - (intOf (a'.tmps.getD 3 undef)).toNat)) rfl ?_ ?_
  · intro K hK
    go_wp2_with fail
    go_step3
    go_step
    go_step
    refine hK _ _ ⟨rfl, 0, 0, 1, undef, undef, undef, undef, undef, undef, undef, undef, undef, undef, undef, undef, undef, undef, undef, undef, undef, undef, undef, undef, undef, undef, undef, undef, undef, undef, undef, undef, undef, undef, undef, undef, undef, undef, undef, undef, undef, undef, undef, undef, undef, undef, undef, undef, undef, ?_, rfl, by omega, rfl, by omega, by omega⟩
    rw [fv_zero, fv_one]
    rfl
  · rintro a' w' ⟨rfl, k, n, u, u6, u7, u8, u9, u10, u11, u12, u13, u14, u15, u16, u17, u18, u19, u20, u21, u22, u23, u24, u25, u26, u27, u28, u29, u30, u31, u32, u33, u34, u35, u36, u37, u38, u39, u40, u41, u42, u43, u44, u45, u46, u47, u48, u49, u50, rfl, hg, hn, hu, hk6, hkl⟩
    have hu' := hide hu
    clear hu
    by_cases hend : k = l.length
    · subst hend
      rw [List.drop_length, gg_nil] at hg
      have hg' := hide hg
      clear hg
      go_wp2_with fail
      simp only [Exit.jump]
      go_ret3
      exact ⟨by rw [hg'.out]; rfl, rfl⟩
    have hne : ((k : Int) == (l.length : Int)) = false := by simp; omega
    by_cases h6 : k = 6
    · subst h6
      rw [gg_six] at hg
      have hg' := hide hg
      clear hg
      go_wp2_with fail
      simp only [Exit.jump]
      go_ret3
      exact ⟨by rw [hg'.out]; rfl, rfl⟩
    have hn6 : ((k : Int) == 6) = false := by simp; omega
    have hlt : k < l.length := by omega
    obtain ⟨b, off, rfl, hbb, hc⟩ := RB.cell hr (by omega)
    have hck := hc k hlt
    clear hc hr hbb
    rw [List.drop_eq_getElem_cons hlt] at hg
    have hx := l[k].toNat_lt
    obtain ⟨m, v, n', u', hm, hv, hn', hu2, hlt', hbig, e1, e2, e3, e4, e5⟩ := get_facts n k l[k] hn (by omega)
    obtain rfl : u = v := hu'.out.trans hv.symm
    clear hu'
    have E2 := fun w : World => run_float_arith (P := Try.prog) w .mul 111 .f64 _ _ _ e2
    have E3 := fun w : World => run_float_arith (P := Try.prog) w .add 111 .f64 _ _ _ e3
    have E4 := fun w : World => run_float_arith (P := Try.prog) w .mul 111 .f64 _ _ _ e4
    have E5 := fun w : World => run_convert_float_int (P := Try.prog) w 111 3 .f64 .i64 _ _ (by kernel_rfl) Try.underlying3 e5
    have E1 : floatOfInt .f64 (m : Int) = fv m := rfl
    have hm' := hide hm
    have hv' := hide hv
    have hn2 := hide hn'
    have hu3 := hide hu2
    clear e2 e3 e4 e5 hm hv hn' hu2
    generalize hxv : l[k].toNat = x at *
    have hxv' := hide hxv
    clear hxv
    have hval := hide (show n + l[k].toNat % 128 * 128 ^ k = n' by rw [hxv'.out, hn2.out, hm'.out, hv'.out])
    by_cases h128 : 128 ≤ x
    · have hgm := hide (gg_more (n := n) (r := l.drop (k + 1)) h6 (show 128 ≤ l[k].toNat by rw [hxv'.out]; exact h128))
      have hg' := hide hg
      clear hg
      have h128' : (128 : Int) ≤ x := by omega
      go_wp2_with fail
      go_step3
      have ek : (k : Int) + 1 = ((k + 1 : Nat) : Int) := by omega
      rw [ek]
      refine ⟨rfl, ⟨rfl, k + 1, n', u', _, _, _, _, _, _, _, _, _, _, _, _, _, _, _, _, _, _, _, _, _, _, _, _, _, _, _, _, _, _, _, _, _, _, _, _, _, _, _, _, _, _, _, _, _, rfl, ?_, hlt', hu3.out, by omega, by omega⟩, ?_⟩
      · rw [hg'.out, hgm.out, hval.out]
      · simp [intOf]; omega
    · have hsmall : (x : Int) < 128 := by omega
      have hlk : l[k].toNat < 128 := by rw [hxv'.out]; omega
      by_cases hbad : 1099511627776 < n'
      · have hgm := hide (gg_bad (k := k) (n := n) (r := l.drop (k + 1)) hlk (.inl (by rw [hval.out]; exact hbad)))
        have hg' := hide hg
        clear hg hlk
        have hb' : (1099511627776 : Int) < n' := by omega
        go_wp2_with fail
        simp only [Exit.jump]
        go_ret3
        exact ⟨by rw [hg'.out, hgm.out]; rfl, rfl⟩
      · have hb' : (n' : Int) ≤ 1099511627776 := by omega
        by_cases hz : x = 0 ∧ 0 < k
        · have hgm := hide (gg_bad (k := k) (n := n) (r := l.drop (k + 1)) hlk (.inr (by rw [hxv'.out]; exact hz)))
          have hg' := hide hg
          clear hg hlk
          have z1 : ((x : Int) == 0) = true := by simp [hz.1]
          have z2 : (1 : Int) < (k : Int) + 1 := by omega
          clear hz
          go_wp2_with fail
          simp only [Exit.jump]
          go_ret3
          exact ⟨by rw [hg'.out, hgm.out]; rfl, rfl⟩
        · have hgm := hide (gg_good (k := k) (n := n) (r := l.drop (k + 1)) h6 hlk (by rw [hval.out, hxv'.out]; omega))
          have hg' := hide hg
          clear hg hlk
          have fin : gval (gget l) = .tuple #[.int .i64 (n' : Int), .int .i64 ((k : Int) + 1), .int .i64 0] := by
            rw [hg'.out, hgm.out, hval.out]; rfl
          have fin' := hide fin
          clear fin
          by_cases hx0 : x = 0
          · have z1 : ((x : Int) == 0) = true := by simp [hx0]
            have z2 : ¬ (1 : Int) < (k : Int) + 1 := by omega
            clear hz hx0
            go_wp2_with fail
            simp only [Exit.jump]
            go_ret3
            exact ⟨by rw [fin'.out]; rfl, rfl⟩
          · have z1 : ((x : Int) == 0) = false := by simp; omega
            clear hz hx0
            go_wp2_with fail
            simp only [Exit.jump]
            go_ret3
            exact ⟨by rw [fin'.out]; rfl, rfl⟩
end Go.Proofs.Ytbjfmkdjnglgbaa
