/-
  octavoref06: Any, Check, Final, All, Ids. Condition: parts of their types.
-/
import Derived.Test.YtbjfmkdjnglgbaaPlaceRefMay
import Derived.Test.YtbjfmkdjnglgbaaPlaceIds
import Derived.Test.YtbjfmkdjnglgbaaStepAppend
namespace Go.Proofs.Ytbjfmkdjnglgbaa
open Go.RowKit

theorem own_more {w : World} {base base' : Nat} {e : TypeId} {size n : Nat} {v : Value} {xs : List Value} (h : w.ownsRow base e size v n xs) (hb : base' ≤ base) : w.ownsRow base' e size v n xs := by
  refine ⟨h.1, h.2.imp id ?_⟩
  rintro ⟨g, cap, cur, h1, h2, h3⟩
  exact ⟨g, cap, cur, h1, Nat.le_trans hb h2, h3⟩

set_option maxHeartbeats 800000 in
set_option maxRecDepth 100000 in
theorem refany_any (A : Option Addr) (n c : Nat) (p : List Rn) (w : World) (hr : RR w w.heap.size A p) (hn : p.length = n) (hok : ∀ x ∈ p, okR x) :
    Calls Try.prog 82 #[.slice A n c] w fun e w' => e = .returned (.bool (decide (anyR p))) ∧ Below w.heap.size w w' := by
  have hM := hide (prefmay_any A n c p w hr hn hok)
  subst hn
  by_cases h0 : p = []
  · subst h0
    go_enter Try.func82, Try.ntmps82
    go_wp2_with fail
    go_ret
    exact ⟨ret_bool (decide_eq_true (.inl rfl)).symm, Below.refl _ _⟩
  · have hl : 0 < p.length := List.length_pos_iff.2 h0
    have hd := hide (show decide (anyR p) = decide (mayR p) from decide_eq_decide.2 ⟨fun h => h.resolve_left h0, .inr⟩)
    have hz : ((p.length : Int) == 0) = false := by simp; omega
    clear hl
    go_enter Try.func82, Try.ntmps82
    go_wp2_with fail
    refine hM.out.mono ?_
    rintro e w2 ⟨rfl, hb2⟩
    go_wp2_with fail
    go_ret
    exact ⟨ret_bool hd.out.symm, hb2⟩

set_option maxHeartbeats 800000 in
set_option maxRecDepth 100000 in
theorem refcheck_any (A : Option Addr) (n c : Nat) (p : List Rn) (w : World) (hr : RR w w.heap.size A p) (hn : p.length = n) (hok : ∀ x ∈ p, okR x) :
    Calls Try.prog 40 #[.slice A n c] w fun e w' => e = .returned (.int .i64 (chkR p)) ∧ Below w.heap.size w w' := by
  have hM := hide (prefmay_any A n c p w hr hn hok)
  by_cases hm : mayR p
  · rw [decide_eq_true hm] at hM
    rw [show chkR p = 0 from if_pos hm]
    clear hm
    go_enter Try.func40, Try.ntmps40
    go_wp2_with fail
    refine hM.out.mono ?_
    rintro e w2 ⟨rfl, hb2⟩
    go_wp2_with fail
    go_ret
    exact ⟨rfl, hb2⟩
  · rw [decide_eq_false hm] at hM
    rw [show chkR p = 8 from if_neg hm]
    clear hm
    go_enter Try.func40, Try.ntmps40
    go_wp2_with fail
    refine hM.out.mono ?_
    rintro e w2 ⟨rfl, hb2⟩
    go_wp2_with fail
    go_ret
    exact ⟨rfl, hb2⟩

set_option maxHeartbeats 1600000 in
set_option maxRecDepth 100000 in
theorem reffinal_ok (A : Option Addr) (n c : Nat) (p : List Rn) (w : World) (hr : RR w w.heap.size A p) (hn : p.length = n) (hm : mayR p) :
    Calls Try.prog 84 #[.slice A n c] w fun e w' => e = .returned (.agg #[.int .u32 (lastR p).1, .int .u8 (lastR p).2]) ∧ Below w.heap.size w w' := by
  subst hn
  have hlen : 0 < p.length := hm.1
  have hl64 : p.length ≤ 64 := hm.2.1
  obtain ⟨b0, o0, rfl, hB0, hC0⟩ := RR.cell hr hlen
  obtain ⟨d0, d1, d2⟩ := hC0 (p.length - 1) (by omega)
  clear hC0
  obtain ⟨t, ht⟩ : ∃ t, t = (p[p.length - 1]'(by omega)).1 := ⟨_, rfl⟩
  obtain ⟨r, hr'⟩ : ∃ t, t = (p[p.length - 1]'(by omega)).2.1 := ⟨_, rfl⟩
  obtain ⟨m, hm'⟩ : ∃ t, t = (p[p.length - 1]'(by omega)).2.2 := ⟨_, rfl⟩
  rw [← ht] at d0
  rw [← hr'] at d1
  rw [← hm'] at d2
  have hel : p[p.length - 1]'(by omega) = (t, r, m) := by rw [ht, hr', hm']
  have hone := chainR_mem hm.2.2.1 _ (List.getElem_mem (h := by omega) : p[p.length - 1]'(by omega) ∈ p)
  rw [hel] at hone
  obtain ⟨e1, e2, e3, e4, e5, e6⟩ := hone
  simp only at e1 e2 e3 e4 e5 e6
  have hfin : lastR p = (t + (m - 1), r) := by
    have hg : p.getLastD (0, 0, 0) = (t, r, m) := by
      rw [← hel, List.getLastD_eq_getLast?, List.getLast?_eq_getElem?, List.getElem?_eq_getElem (by omega)]
      rfl
    unfold lastR
    rw [if_pos hm, hg]
    simp only [rend]
    rw [show t + m - 1 = t + (m - 1) by omega]
  rw [hfin]
  have z0 : (0 : Int) ≤ (p.length : Int) - 1 := by omega
  have z1 : (p.length : Int) - 1 < p.length := by omega
  have z2 : ((p.length : Int) - 1).toNat = p.length - 1 := by omega
  clear ht hr' hm' hel hm hfin
  go_enter Try.func84, Try.ntmps84
  go_wp2_with fail
  exact bodyPost_ret (v := .agg #[.int .u32 (t + (m - 1)), .int .u8 r]) (by simp [results, Try.results84, go_sem]) rfl ⟨rfl, (boxed _ _).trans ((boxed _ _).mono (by simp))⟩

set_option maxHeartbeats 6400000 in
set_option maxRecDepth 100000 in
theorem refall_ok (A : Option Addr) (n c : Nat) (p : List Rn) (w : World) (hr : RR w w.heap.size A p) (hn : p.length = n) (hm : mayR p) :
    Calls Try.prog 88 #[.slice A n c] w fun e w' => ∃ v, e = .returned v ∧ w'.ownsRow w.heap.size 25 2 v (allR p).length (ids (allR p)) ∧ Below w.heap.size w w' := by
  subst hn
  have Hm := hide hm
  have h64 : p.length ≤ 64 := hm.2.1
  have h1 : 0 < p.length := hm.1
  clear hm
  obtain ⟨b0, o0, rfl, hB0, hC0⟩ := RR.cell hr h1
  have HC := hide hC0
  clear hC0
  obtain ⟨i0, hi0, hz0, hz1, hz2⟩ := info_parts idinfo
  go_enter Try.func88, Try.ntmps88
  go_wp2_with fail
  go_loopw [3, 4, 5] (fun v i _ wr => ∃ (k : Nat) (L : List Id2), k ≤ p.length ∧ i = .int .i64 (k : Int) ∧ Hid (L = allR (p.take k)) ∧ L.length ≤ 4096 * k ∧ wr.ownsRow w.heap.size 25 2 v L.length (ids L) ∧ Below w.heap.size w wr) (fun _ i _ _ => p.length - (intOf i).toNat)
  case atStart => exact ⟨0, [], by omega, rfl, hide rfl, by simp, World.ownsRow_nil _ _ _ _, Below.refl _ _⟩
  case round =>
    obtain ⟨k, L, hk, rfl, hL, hLl, hown, hb⟩ := hrel
    by_cases hlt : k < p.length
    · have z0 : (k : Int) < p.length := by omega
      obtain ⟨t, ht⟩ : ∃ t, t = p[k].1 := ⟨_, rfl⟩
      obtain ⟨r, hr'⟩ : ∃ r, r = p[k].2.1 := ⟨_, rfl⟩
      obtain ⟨m, hm⟩ : ∃ m, m = p[k].2.2 := ⟨_, rfl⟩
      have hcell := HC.out k hlt
      rw [← ht, ← hr', ← hm] at hcell
      have Hcell := hide hcell
      have hel : p[k] = (t, r, m) := by rw [ht, hr', hm]
      have hone := chainR_mem Hm.out.2.2.1 p[k] (List.getElem_mem hlt)
      rw [hel] at hone
      obtain ⟨e1, e2, e3, e4, e5, e6⟩ := hone
      simp only at e1 e2 e3 e4 e5 e6
      have Hnext := hide (show allR (p.take (k + 1)) = L ++ ofR (t, r, m) by rw [allR_take p k hlt, hel, hL.out])
      clear ht hr' hm hel hcell
      go_wp2_with fail
      obtain ⟨wo, rfl⟩ : ∃ wo : World, wo = wr := ⟨_, rfl⟩
      go_loopw [3, 5] (fun v j wi => ∃ (q : Nat) (L' : List Id2), (q : Int) ≤ m ∧ j = .int .i64 (q : Int) ∧ Hid (L' = L ++ (ofR (t, r, m)).take q) ∧ L'.length = L.length + q ∧ wi.ownsRow w.heap.size 25 2 v L'.length (ids L') ∧ Below w.heap.size w wi) (fun _ j _ => m.toNat - (intOf j).toNat)
      case atStart => exact ⟨0, L, by omega, rfl, hide (by simp), by omega, hown, hb⟩
      case round =>
        obtain ⟨q, L', hq, rfl, hL', hLq, hown', hb'⟩ := hrel
        obtain ⟨d0, d1, d2⟩ := Hcell.out
        replace d0 := keep_cell hb' hB0 d0
        replace d1 := keep_cell hb' hB0 d1
        replace d2 := keep_cell hb' hB0 d2
        by_cases hqm : (q : Int) < m
        · have hLn : L'.length + 1 ≤ 1073741824 := by omega
          have zq : IntKind.u32.wrap (q : Int) = q := IntWalk.u32_in _ (by omega)
          have zt : IntKind.u32.wrap (t + (q : Int)) = t + q := IntWalk.u32_in _ (by omega)
          go_wp2_with fail
          obtain ⟨c0, c1, -⟩ := Hcell.out
          have Hc := hide (And.intro c0 c1)
          clear c0 c1 d2
          go_region_held3 (fun w' => w'.cell? ⟨b0, o0 + k * 3, none⟩ = some (.int .u32 t) ∧ w'.cell? ⟨b0, o0 + k * 3 + 1, none⟩ = some (.int .u8 r))
            (first | go_keep | (exact ⟨keep_cell (Below.trans hb'.drew (Below.trans ((boxed _ _).mono hb'.size) hb8)) hB0 Hc.out.1, keep_cell (Below.trans hb'.drew (Below.trans ((boxed _ _).mono hb'.size) hb8)) hB0 Hc.out.2⟩))
            (first | ((with_reducible refine is_op (o := ⟨some 37, _, _, _, _, _⟩) ?_); refine step_append_rx (by rfl) (.tmp 21) (.tmp 36) 32 (by rfl) w.heap.size 25 i0 (.agg #[.int .u32 0, .int .u8 0]) 2 8 Try.underlying32 hi0 hz0 hz1 hz2 rfl (by decide) u3 L'.length (ids L') (by rfl) (by repeat (first | with_reducible exact hown' | with_reducible refine World.ownsRow.drew ?_ | with_reducible refine World.ownsRow.alloc ?_ _)) _ 1 1 (#[Value.int .u32 (t + (q : Int)), Value.int .u8 r] : Array Value).toList (by rfl) (by repeat (first | exact RX.new _ _ _ 2 1 rfl | refine RX.drew ?_ | refine RX.alloc ?_ _)) (ids_one [(t + (q : Int), r)]) (by omega) (by decide) (by simp; exact Nat.le_succ_of_le hb'.size) ?_; intro v8 w8 hown8 hb8))
          have hB8 : Below w.heap.size w w8 := Below.trans hb'.drew (Below.trans ((boxed _ _).mono hb'.size) hb8)
          go_wp2_with fail
          go_roundw
          case rel =>
            refine ⟨q + 1, L' ++ [(t + (q : Int), r)], by omega, by go_num, hide ?_, by simp; omega, ?_, hB8⟩
            · rw [ofR_take _ q hqm, hL'.out, List.append_assoc]
            · rw [ids_append]
              simpa [ids] using hown8
          case measure => simp [intOf]; omega
        · have hqe : (q : Int) = m := by omega
          go_wp2_with fail
          go_roundw
          case rel =>
            refine ⟨k + 1, L', by omega, by go_num, hide ?_, by omega, hown', hb'⟩
            rw [hL'.out, ofR_all _ q hqe, Hnext.out]
          case measure => simp [intOf]; omega
    · have hz : ¬ (k : Int) < p.length := by omega
      have hLe := hide (show L = allR p by rw [hL.out, List.take_of_length_le (by omega)])
      go_wp2_with fail
      go_ret
      exact ⟨_, rfl, by rw [← hLe.out]; exact hown, hb⟩

set_option maxHeartbeats 800000 in
set_option maxRecDepth 100000 in
theorem refids_any (A : Option Addr) (n c : Nat) (p : List Rn) (w : World) (hr : RR w w.heap.size A p) (hn : p.length = n) (hok : ∀ x ∈ p, okR x) :
    Calls Try.prog 26 #[.slice A n c] w fun e w' => ∃ v, e = .returned (.tuple #[v, .int .i64 (chkR p)]) ∧ w'.ownsRow w.heap.size 25 2 v (idsR p).length (ids (idsR p)) ∧ Below w.heap.size w w' := by
  have hM := hide (prefmay_any A n c p w hr hn hok)
  by_cases hm : mayR p
  · rw [decide_eq_true hm] at hM
    rw [show chkR p = 0 from if_pos hm, show idsR p = allR p from if_pos hm]
    have hA := hide (fun W h => refall_ok A n c p W h hn hm)
    clear hm
    go_enter Try.func26, Try.ntmps26
    go_wp2_with fail
    refine hM.out.mono ?_
    rintro e w2 ⟨rfl, hb2⟩
    go_wp2_with fail
    refine (unhide hA w2 (hr.below' hb2)).mono ?_
    rintro e w3 ⟨v, rfl, hown, hb3⟩
    go_wp2_with fail
    exact bodyPost_ret (v := .tuple #[v, .int .i64 0]) (by simp [results, Try.results26, go_sem]) rfl ⟨v, rfl, own_more hown hb2.size, fresh hb2 hb3⟩
  · rw [decide_eq_false hm] at hM
    rw [show chkR p = 8 from if_neg hm, show idsR p = [] from if_neg hm]
    clear hm
    go_enter Try.func26, Try.ntmps26
    go_wp2_with fail
    refine hM.out.mono ?_
    rintro e w2 ⟨rfl, hb2⟩
    go_wp2_with fail
    exact bodyPost_ret (v := .tuple #[.slice none 0 0, .int .i64 8]) (by simp [results, Try.results26, go_sem]) rfl ⟨_, rfl, World.ownsRow_nil _ _ _ _, hb2⟩
end Go.Proofs.Ytbjfmkdjnglgbaa
