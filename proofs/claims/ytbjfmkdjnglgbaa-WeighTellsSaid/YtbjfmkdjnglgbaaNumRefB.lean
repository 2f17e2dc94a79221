/-
  What octavoref01's Bytes, Get do: the same plain functions. Condition: of Get: fewer than 2^30 bytes.
-/
import Derived.Test.YtbjfmkdjnglgbaaNumGet
namespace Go.Proofs.Ytbjfmkdjnglgbaa
open Go.RowKit

set_option maxHeartbeats 400000 in
set_option maxRecDepth 100000 in
theorem refbytes_ok (n : Nat) (w : World) (h : n ≤ 1099511627776) :
    Calls Try.prog 133 #[.int .i64 (n : Int)] w fun e w' => ∃ v, e = .returned v ∧ w'.ownsRow w.heap.size 5 1 v (nb n).length (u8s (nb n)) ∧ Below w.heap.size w w' := by
  obtain ⟨i0, hi0, hz0, hz1, hz2⟩ := info_parts u8info
  have H := hide h
  clear h
  go_enter Try.func133, Try.ntmps133
  go_wp2_with fail
  go_loopw [0, 3] (fun x b wr => ∃ (m : Nat) (pre : List UInt8), x = .int .i64 (m : Int) ∧ Hid (nb n = pre ++ nb m) ∧ m ≤ n ∧ wr.ownsRow w.heap.size 5 1 b pre.length (u8s pre) ∧ Below w.heap.size w wr) (fun x _ _ => (intOf x).toNat)
  case atStart => exact ⟨n, [], rfl, hide rfl, Nat.le_refl _, World.ownsRow_nil _ _ _ _, Below.refl _ _⟩
  case round =>
    obtain ⟨m, pre, rfl, hb, hm, hown, hbel⟩ := hrel
    have hlen : pre.length < 1073741824 := by
      have h1 := nb_six H.out
      have h2 := congrArg List.length hb.out
      rw [List.length_append] at h2
      omega
    have hmb : (m : Int) ≤ 1099511627776 := by have := H.out; omega
    by_cases hlt : m < 128
    · go_wp2_with (at_builtin; refine wpList_push rfl _ _ 67 rfl w.heap.size i0 (.int .u8 0) 1 1 Try.underlying67 hi0 hz0 hz1 hz2 rfl (by decide) _ _ _ rfl hown 1 rfl rfl rfl hlen (by decide) hbel.size ?_; intro v1 w1 hown1 hb1)
      go_ret
      refine ⟨v1, rfl, ?_, hbel.trans hb1⟩
      rw [hb.out, nb_small hlt]
      rw [u8s_append]
      have e : (m : Int) % 256 = (m : Int) := by omega
      simpa [u8s, e] using hown1
    · go_wp2_with (at_builtin; refine wpList_push rfl _ _ 67 rfl w.heap.size i0 (.int .u8 0) 1 1 Try.underlying67 hi0 hz0 hz1 hz2 rfl (by decide) _ _ _ rfl hown 1 rfl rfl rfl hlen (by decide) hbel.size ?_; intro v1 w1 hown1 hb1)
      go_roundw
      case rel =>
        refine ⟨m / 128, pre ++ [UInt8.ofNat (m % 128 + 128)], by go_num, hide ?_, by omega, ?_, hbel.trans hb1⟩
        · rw [hb.out, nb_big hlt]
          simp
        · have e : ((UInt8.ofNat (m % 128 + 128)).toNat : Int) = (m : Int) % 128 + 128 := by
            rw [UInt8.toNat_ofNat', Nat.mod_eq_of_lt (by omega)]; omega
          have e' : ((m : Int) % 128 + 128) % 256 = (m : Int) % 128 + 128 := by omega
          simpa [u8s, e, e'] using hown1
      case measure => simp [intOf]; omega


theorem refget_facts (n k : Nat) (x : UInt8) (hn : n < 128 ^ k) (hk : k < 6) : ∃ v p n' u', v = 128 ^ k ∧ p = x.toNat % 128 * v ∧ n' = n + p ∧ u' = 128 ^ (k + 1) ∧ n' < u' ∧ n' < 4398046511104 ∧ v ≤ 34359738368 ∧ n < 34359738368 ∧
    (x.toNat : Int) % 128 * (v : Int) = (p : Int) ∧ (p : Int) ≤ 4398046511104 ∧ (n : Int) + (p : Int) = (n' : Int) ∧ (v : Int) * 128 = (u' : Int) ∧ (u' : Int) ≤ 4398046511104 := by
  have hx := x.toNat_lt
  have hp : 128 ^ k ≤ 34359738368 := by
    have : 128 ^ k ≤ 128 ^ 5 := Nat.pow_le_pow_right (by omega) (by omega)
    omega
  have hm : x.toNat % 128 < 128 := Nat.mod_lt _ (by omega)
  have hmv : x.toNat % 128 * 128 ^ k ≤ 127 * 128 ^ k := Nat.mul_le_mul_right _ (by omega)
  have hs : 128 ^ (k + 1) = 128 ^ k * 128 := Nat.pow_succ _ _
  refine ⟨128 ^ k, _, _, _, rfl, rfl, rfl, rfl, by omega, by omega, by omega, by omega, ?_, by omega, by omega, by omega, by omega⟩
  rw [Int.natCast_mul]
  congr 1

set_option maxHeartbeats 1000000 in
set_option maxRecDepth 100000 in
theorem refget_any (A : Option Addr) (c : Nat) (l : List UInt8) (w : World) (hr : RB w w.heap.size A l) (hl : l.length < 1073741824) :
    Calls Try.prog 116 #[.slice A l.length c] w fun e w' => e = .returned (gval (gget l)) ∧ w = w' := by
  go_enter Try.func116, Try.ntmps116
  go_wp2_with fail
  go_loop [5, 6, 7] (fun x y i => ∃ (k n u : Nat), k ≤ 6 ∧ k ≤ l.length ∧ i = .int .i64 (k : Int) ∧ x = .int .i64 (n : Int) ∧ y = .int .i64 (u : Int) ∧ n < 128 ^ k ∧ Hid (u = 128 ^ k) ∧ Hid (gget l = gg k n (l.drop k))) (fun _ _ i => 6 - (intOf i).toNat)
  case atStart => exact ⟨0, 0, 1, by omega, by omega, rfl, rfl, rfl, by omega, hide rfl, hide rfl⟩
  case round =>
    obtain ⟨k, n, u, hk6, hkl, rfl, rfl, rfl, hn, hu, hg⟩ := hrel
    by_cases hend : k = l.length
    · subst hend
      have hz : ¬ (l.length : Int) < l.length := by omega
      go_wp2_with fail
      go_ret3
      refine ⟨?_, rfl⟩
      rw [hg.out, List.drop_length]; rfl
    have hlt : k < l.length := by omega
    have hlt' : (k : Int) < l.length := by omega
    by_cases h6 : k = 6
    · subst h6
      go_wp2_with fail
      go_ret3
      refine ⟨?_, rfl⟩
      rw [hg.out, gg_six]; rfl
    have h6' : (k : Int) < 6 := by omega
    obtain ⟨b, off, rfl, hbb, hc⟩ := RB.cell hr (by omega)
    have hck := hc k hlt
    clear hc hr hbb
    have hx := l[k].toNat_lt
    obtain ⟨v, p, n', u', hv, hp, hn', hu', hlt2, hbig, hv1, hn1, e1, e2, e3, e4, e5⟩ := refget_facts n k l[k] hn (by omega)
    obtain rfl : u = v := hu.out.trans hv.symm
    have hval := hide (show n + l[k].toNat % 128 * 128 ^ k = n' by rw [hn', hp, hv])
    have hu2 := hide hu'
    have hg' := hide (hg.out.trans (by rw [List.drop_eq_getElem_cons hlt]))
    clear hv hp hn' hu' hg hu hn
    have hxv : ∃ x, x = l[k].toNat := ⟨_, rfl⟩
    obtain ⟨x, hxv⟩ := hxv
    rw [← hxv] at hck e1 hx
    have hxv' := hide hxv
    clear hxv
    by_cases h128 : 128 ≤ x
    · have hgm := hide (gg_more (n := n) (r := l.drop (k + 1)) h6 (show 128 ≤ l[k].toNat by rw [← hxv'.out]; exact h128))
      have h128' : ¬ (x : Int) < 128 := by omega
      go_wp2_with fail
      go_round
      case rel => exact ⟨k + 1, n', u', by omega, by omega, by go_num, rfl, rfl, by rw [← hu2.out]; exact hlt2, hu2, hide (by rw [hg'.out, hgm.out, hval.out])⟩
      case measure => simp [intOf]; omega
    · have hsmall : (x : Int) < 128 := by omega
      have hlk : l[k].toNat < 128 := by rw [← hxv'.out]; omega
      by_cases hbad : 1099511627776 < n'
      · have hgm := hide (gg_bad (k := k) (n := n) (r := l.drop (k + 1)) hlk (.inl (by rw [hval.out]; exact hbad)))
        clear hlk
        have hb' : (1099511627776 : Int) < n' := by omega
        go_wp2_with fail
        go_ret3
        exact ⟨by rw [hg'.out, hgm.out]; rfl, rfl⟩
      · have hb' : (n' : Int) ≤ 1099511627776 := by omega
        by_cases hz : x = 0 ∧ 0 < k
        · have hgm := hide (gg_bad (k := k) (n := n) (r := l.drop (k + 1)) hlk (.inr (by rw [← hxv'.out]; exact hz)))
          clear hlk
          have z1 : ((x : Int) == 0) = true := by simp [hz.1]
          have z2 : (0 : Int) < (k : Int) := by omega
          clear hz
          go_wp2_with fail
          go_ret3
          exact ⟨by rw [hg'.out, hgm.out]; rfl, rfl⟩
        · have hgm := hide (gg_good (k := k) (n := n) (r := l.drop (k + 1)) h6 hlk (by rw [hval.out, ← hxv'.out]; omega))
          clear hlk
          have fin' := hide (show gval (gget l) = .tuple #[.int .i64 (n' : Int), .int .i64 ((k : Int) + 1), .int .i64 0] by rw [hg'.out, hgm.out, hval.out]; rfl)
          by_cases hk0 : 0 < k
          · have z1 : ((x : Int) == 0) = false := by simp; omega
            have z2 : (0 : Int) < (k : Int) := by omega
            clear hz
            go_wp2_with fail
            go_ret3
            exact ⟨by rw [fin'.out]; rfl, rfl⟩
          · have z2 : ¬ (0 : Int) < (k : Int) := by omega
            clear hz
            go_wp2_with fail
            go_ret3
            exact ⟨by rw [fin'.out]; rfl, rfl⟩
end Go.Proofs.Ytbjfmkdjnglgbaa
