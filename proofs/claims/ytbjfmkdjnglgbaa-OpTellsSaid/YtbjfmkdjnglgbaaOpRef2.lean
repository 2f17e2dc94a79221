/-
  octavoref09: what an operation stands on, by the document. Condition: parts of their types.
-/
import Derived.Test.YtbjfmkdjnglgbaaOpRef
import Derived.Test.YtbjfmkdjnglgbaaOpNeeds
namespace Go.Proofs.Ytbjfmkdjnglgbaa
open Go.RowKit

set_option maxHeartbeats 1600000 in
set_option maxRecDepth 100000 in
theorem orefcheck_any (k t r z : Int) (A : Option Addr) (n c : Nat) (p : List Rn) (w : World) (hr : RR w w.heap.size A p) (hn : p.length = n) (hok : ∀ x ∈ p, okR x) :
    Calls Try.prog 55 #[opv k t r A n c z] w fun e w' => e = .returned (.int .i64 (chkO k t r p z)) ∧ Below w.heap.size w w' := by
  obtain ⟨w1, hw1, c0, c1, c2, c3, c4, hs1, hb1⟩ := five_box w (.int .u8 k) (.int .u32 t) (.int .u8 r) (.slice A n c) (.int .i64 z) 47
  have hM := hide (refmayo_any k t r z A n c p w1 (hr.below' hb1) hn hok)
  by_cases hm : mayO k t r p z
  · have hv := hide (show chkO k t r p z = 0 from if_pos hm)
    rw [decide_eq_true hm] at hM
    clear hm
    go_enter Try.func55, Try.ntmps55
    go_wp2_with fail
    refine hM.out.mono ?_
    rintro e w2 ⟨rfl, hb2⟩
    go_wp2_with fail
    go_ret
    exact ⟨ret_int hv.out.symm, fresh hb1 hb2⟩
  · have hv := hide (show chkO k t r p z = 8 from if_neg hm)
    rw [decide_eq_false hm] at hM
    clear hm
    go_enter Try.func55, Try.ntmps55
    go_wp2_with fail
    refine hM.out.mono ?_
    rintro e w2 ⟨rfl, hb2⟩
    go_wp2_with fail
    go_ret
    exact ⟨ret_int hv.out.symm, fresh hb1 hb2⟩

set_option maxHeartbeats 1600000 in
set_option maxRecDepth 100000 in
theorem orefmany_ok (k t r z : Int) (A : Option Addr) (n c : Nat) (p : List Rn) (N M : Int) (w : World) (hr : RR w w.heap.size A p) (hn : p.length = n) (hm : mayR p) (hN : long p = N) (h1 : 1 ≤ N) (h2 : N ≤ 4096) (hM : M = if k = 1 ∨ k = 2 then N - 1 else N) :
    Calls Try.prog 131 #[opv k t r A n c z] w fun e w' => e = .returned (.int .i64 M) ∧ Below w.heap.size w w' := by
  obtain ⟨w1, hw1, c0, c1, c2, c3, c4, hs1, hb1⟩ := five_box w (.int .u8 k) (.int .u32 t) (.int .u8 r) (.slice A n c) (.int .i64 z) 47
  have hL := hide (reflong_any A n c p w1 (hr.below' hb1) hn (by have := hm.2.1; omega) (fun x hx => by have := (chainR_mem hm.2.2.1 x hx); unfold oneR at this; omega))
  rw [hN] at hL
  have O := hide (fun W => refown_ok k t r z A n c W)
  clear hr hn hm hN
  by_cases hk : k = 1 ∨ k = 2
  · rw [if_pos hk] at hM
    rw [decide_eq_true hk] at O
    clear hk
    subst hM
    go_enter Try.func131, Try.ntmps131
    go_wp2_with fail
    refine hL.out.mono ?_
    rintro e w2 ⟨rfl, hb2⟩
    replace c0 := keep_cell hb2 hs1 c0
    replace c1 := keep_cell hb2 hs1 c1
    replace c2 := keep_cell hb2 hs1 c2
    replace c3 := keep_cell hb2 hs1 c3
    replace c4 := keep_cell hb2 hs1 c4
    go_wp2_with fail
    refine (unhide O w2).mono ?_
    rintro e w3 ⟨rfl, hb3⟩
    go_wp2_with fail
    go_ret
    exact ⟨rfl, fresh (fresh hb1 hb2) hb3⟩
  · rw [if_neg hk] at hM
    rw [decide_eq_false hk] at O
    clear hk
    subst hM
    go_enter Try.func131, Try.ntmps131
    go_wp2_with fail
    refine hL.out.mono ?_
    rintro e w2 ⟨rfl, hb2⟩
    replace c0 := keep_cell hb2 hs1 c0
    replace c1 := keep_cell hb2 hs1 c1
    replace c2 := keep_cell hb2 hs1 c2
    replace c3 := keep_cell hb2 hs1 c3
    replace c4 := keep_cell hb2 hs1 c4
    go_wp2_with fail
    refine (unhide O w2).mono ?_
    rintro e w3 ⟨rfl, hb3⟩
    go_wp2_with fail
    go_ret
    exact ⟨rfl, fresh (fresh hb1 hb2) hb3⟩

set_option maxHeartbeats 1600000 in
set_option maxRecDepth 100000 in
theorem orefstands_ok (k t r z : Int) (A : Option Addr) (n c : Nat) (p : List Rn) (w : World) (hr : RR w w.heap.size A p) (hn : p.length = n) (hok : ∀ x ∈ p, okR x) (hm : mayO k t r p z) :
    Calls Try.prog 99 #[opv k t r A n c z] w fun e w' => ∃ A' c', e = .returned (.slice A' (needsO k t r p z).length c') ∧ RI w' w'.heap.size A' (needsO k t r p z) ∧ Below w.heap.size w w' := by
  obtain ⟨w1, hw1, c0, c1, c2, c3, c4, hs1, hb1⟩ := five_box w (.int .u8 k) (.int .u32 t) (.int .u8 r) (.slice A n c) (.int .i64 z) 47
  have hmp := hm.2.1
  have hN : needsO k t r p z = if k = 1 ∨ k = 2 then (allR p).dropLast else allR p := if_pos hm
  have hlong := allR_long (p := p) (fun x hx => by have := (chainR_mem hmp.2.2.1 x hx).2.2.2.1; omega)
  have hle := hmp.2.2.2
  have hpos : 1 ≤ (allR p).length := by
    obtain ⟨x, q, hxq⟩ : ∃ x q, p = x :: q := by
      cases p with
      | nil => have := hmp.1; simp at this
      | cons x q => exact ⟨x, q, rfl⟩
    rw [hxq, allR_cons, List.length_append, ofR_len]
    have := (chainR_mem hmp.2.2.1 x (by rw [hxq]; exact List.mem_cons_self)).2.2.2.1
    omega
  have hAll := hide (refall_ok A n c p w1 (hr.below' hb1) hn hmp)
  have hMany := hide (fun W h => orefmany_ok k t r z A n c p ((allR p).length : Int) _ W h hn hmp (by omega) (by omega) (by omega) rfl)
  have hz4 : ((allR p).length : Int) ≤ 4096 := by omega
  clear hm hmp hlong hle
  go_enter Try.func99, Try.ntmps99
  go_wp2_with fail
  refine hAll.out.mono ?_
  rintro e w3 ⟨v, rfl, hown, hb3⟩
  have hbb := fresh hb1 hb3
  replace c0 := keep_cell hb3 hs1 c0
  replace c1 := keep_cell hb3 hs1 c1
  replace c2 := keep_cell hb3 hs1 c2
  replace c3 := keep_cell hb3 hs1 c3
  replace c4 := keep_cell hb3 hs1 c4
  obtain ⟨g, cap, cur, rfl, hbg, hg, hncap, hcap, hcs, htk⟩ : ∃ g cap cur, v = .slice (some ⟨g, 0, none⟩) (allR p).length cap ∧ w1.heap.size ≤ g ∧ w3.heap[g]? = some (.cells cur 25 (0, 0)) ∧ (allR p).length ≤ cap ∧ cap ≤ maxLen ∧ cur.size = cap * 2 ∧ cur.toList.take ((allR p).length * 2) = ids (allR p) := by
    rcases hown.2 with ⟨-, h0⟩ | h
    · omega
    · exact h
  have hri : RI w3 w3.heap.size (some ⟨g, 0, none⟩) (allR p) := RI.of_own hown rfl
  have Hri := hide hri
  clear hri hown hg htk hcs
  have hM := hide (unhide hMany w3 (hr.below' hbb))
  clear hMany
  go_wp2_with fail
  refine hM.out.mono ?_
  rintro e w4 ⟨rfl, hb4⟩
  have hb04 := fresh hbb hb4
  have hri4 := hide (show RI w4 w4.heap.size _ _ from (RD.below Hri.out hb4).more hb4.size)
  clear Hri
  have z1 : (1 : Int) ≤ (allR p).length := by omega
  have z3 : (0 : Int) ≤ ((allR p).length : Int) - 1 := by omega
  have z4 : ((allR p).length : Int) - 1 ≤ cap := by omega
  have z5 : (((allR p).length : Int) - 1).toNat = (allR p).length - 1 := by omega
  have z6 : ((allR p).length : Int) ≤ cap := by omega
  by_cases hk : k = 1 ∨ k = 2
  · have hN' : needsO k t r p z = (allR p).dropLast := by rw [hN, if_pos hk]
    have hdl : (allR p).dropLast = (allR p).take ((allR p).length - 1) := List.dropLast_eq_take
    have hlen : ((allR p).dropLast).length = (allR p).length - 1 := by simp
    have E := hide (And.intro hN' (And.intro hdl hlen))
    rw [if_pos hk]
    clear hN' hdl hlen hN hk
    go_wp2_with fail
    go_ret
    exact ⟨_, cap, by rw [E.out.1, E.out.2.2]; rfl, by rw [E.out.1, E.out.2.1]; exact RI.take hri4.out _, hb04⟩
  · have hN' : needsO k t r p z = allR p := by rw [hN, if_neg hk]
    have E := hide hN'
    rw [if_neg hk]
    clear hN' hN hk
    go_wp2_with fail
    go_ret
    exact ⟨_, cap, by rw [E.out]; rfl, by rw [E.out]; exact hri4.out, hb04⟩

set_option maxHeartbeats 1600000 in
set_option maxRecDepth 100000 in
theorem orefneeds_any (k t r z : Int) (A : Option Addr) (n c : Nat) (p : List Rn) (w : World) (hr : RR w w.heap.size A p) (hn : p.length = n) (hok : ∀ x ∈ p, okR x) :
    Calls Try.prog 53 #[opv k t r A n c z] w fun e w' => ∃ A' c', e = .returned (.tuple #[.slice A' (needsO k t r p z).length c', .int .i64 (chkO k t r p z)]) ∧ RI w' w'.heap.size A' (needsO k t r p z) ∧ Below w.heap.size w w' := by
  obtain ⟨w1, hw1, c0, c1, c2, c3, c4, hs1, hb1⟩ := five_box w (.int .u8 k) (.int .u32 t) (.int .u8 r) (.slice A n c) (.int .i64 z) 47
  have hM := hide (refmayo_any k t r z A n c p w1 (hr.below' hb1) hn hok)
  by_cases hm : mayO k t r p z
  · have hv := hide (show chkO k t r p z = 0 from if_pos hm)
    rw [decide_eq_true hm] at hM
    have hS := hide (fun W h => orefstands_ok k t r z A n c p W h hn hok hm)
    clear hm
    go_enter Try.func53, Try.ntmps53
    go_wp2_with fail
    refine hM.out.mono ?_
    rintro e w2 ⟨rfl, hb2⟩
    have hb02 := fresh hb1 hb2
    replace c0 := keep_cell hb2 hs1 c0
    replace c1 := keep_cell hb2 hs1 c1
    replace c2 := keep_cell hb2 hs1 c2
    replace c3 := keep_cell hb2 hs1 c3
    replace c4 := keep_cell hb2 hs1 c4
    go_wp2_with fail
    refine (unhide hS w2 (hr.below' hb02)).mono ?_
    rintro e w3 ⟨A', c', rfl, hri, hb3⟩
    go_wp2_with fail
    refine bodyPost_ret (v := .tuple #[.slice A' (needsO k t r p z).length c', .int .i64 0]) (by simp [results, Try.results53, go_sem]) rfl ?_
    exact ⟨_, _, by rw [hv.out], hri, fresh hb02 hb3⟩
  · have hv := hide (show chkO k t r p z = 8 from if_neg hm)
    have hN := hide (show needsO k t r p z = [] from if_neg hm)
    rw [decide_eq_false hm] at hM
    clear hm
    go_enter Try.func53, Try.ntmps53
    go_wp2_with fail
    refine hM.out.mono ?_
    rintro e w2 ⟨rfl, hb2⟩
    go_wp2_with fail
    refine bodyPost_ret (v := .tuple #[.slice none 0 0, .int .i64 8]) (by simp [results, Try.results53, go_sem]) rfl ?_
    exact ⟨none, 0, by rw [hv.out, hN.out]; rfl, by rw [hN.out]; exact RI.nil _ _, fresh hb1 hb2⟩
end Go.Proofs.Ytbjfmkdjnglgbaa
