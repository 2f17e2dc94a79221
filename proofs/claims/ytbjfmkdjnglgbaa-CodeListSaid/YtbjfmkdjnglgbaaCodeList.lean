/-
  A list's bytes, and the list of bytes, are the document's: the walk of CodeList. Condition: parts of their types, places of fewer than 2^43 runs.
-/
import Derived.Test.YtbjfmkdjnglgbaaClRead
import Derived.Test.YtbjfmkdjnglgbaaClRef
namespace Go.Proofs.Ytbjfmkdjnglgbaa
open Go.RowKit

set_option maxHeartbeats 400000 in
set_option maxRecDepth 100000 in
theorem clall_many (A : Option Addr) (n c : Nat) (w : World) (h : 1024 < n) :
    Calls Try.prog 74 #[.slice A n c] w fun e w' => e = .returned (.tuple #[.slice none 0 0, .int .i64 4]) ∧ w' = w := by
  have h1 : (1024 : Int) < n := by omega
  clear h
  go_enter Try.func74, Try.ntmps74
  go_wp2_with fail
  refine bodyPost_ret (v := .tuple #[.slice none 0 0, .int .i64 4]) (by simp [results, Try.results74, go_sem]) rfl ⟨rfl, rfl⟩
theorem all_op {L M : List OpL} (h : L.map OpL.op = M.map OpL.op) : allE L = allE M ∧ allY L = allY M := by
  have hm : (∀ x ∈ L, mayL x) ↔ ∀ x ∈ M, mayL x := by
    have e : ∀ K : List OpL, (∀ x ∈ K, mayL x) ↔ ∀ o ∈ K.map OpL.op, mayP o := fun K => by
      simp only [List.mem_map, forall_exists_index, and_imp, forall_apply_eq_imp_iff₂]
      rfl
    rw [e L, e M, h]
  have hB : allB L = allB M := by rw [allB_op, allB_op, h]
  unfold allE allY
  by_cases hL : ∀ x ∈ L, mayL x
  · rw [if_pos hL, if_pos (hm.1 hL), if_pos hL, if_pos (hm.1 hL), hB]
    exact ⟨rfl, rfl⟩
  · rw [if_neg hL, if_neg (fun k => hL (hm.2 k)), if_neg hL, if_neg (fun k => hL (hm.2 k))]
    exact ⟨rfl, rfl⟩
theorem twin_of {L M : List OpL} (h : L.map OpL.op = M.map OpL.op) {x : OpL} (hx : x ∈ L) : ∃ y ∈ M, y.op = x.op := by
  have h1 : x.op ∈ M.map OpL.op := by rw [← h]; exact List.mem_map_of_mem hx
  obtain ⟨y, hy, e⟩ := List.mem_map.1 h1
  exact ⟨y, hy, e⟩
theorem twin_big {L M : List OpL} (h : L.map OpL.op = M.map OpL.op) {N : Nat} (hM : ∀ x ∈ M, x.p.length < N) : ∀ x ∈ L, x.p.length < N := fun x hx => by
  obtain ⟨y, hy, e⟩ := twin_of h hx
  rw [← (op_eq.1 e).2.2.2.1]
  exact hM y hy
theorem twin_okO {L M : List OpL} (h : L.map OpL.op = M.map OpL.op) (hM : ∀ x ∈ M, okO x) : ∀ x ∈ L, okO x := fun x hx => by
  obtain ⟨y, hy, e⟩ := twin_of h hx
  obtain ⟨e1, e2, e3, e4, e5⟩ := op_eq.1 e
  have := hM y hy
  unfold okO at this ⊢
  rw [← e1, ← e2, ← e3, ← e4]
  exact this
theorem outL_small (b : List UInt8) : (∀ o ∈ (outL (readL b)).1, o.2.2.2.1.length ≤ 64) ∧ (outL (readL b)).1.length ≤ 1024 := by
  cases h : readL b with
  | none => exact ⟨fun o ho => (by cases ho), Nat.zero_le _⟩
  | some q =>
    obtain ⟨l, n⟩ := q
    obtain ⟨g1, g2, -, -⟩ := readL_inv h
    exact ⟨fun o ho => (g1 o ho).1.2.1.2.1, g2⟩

set_option maxHeartbeats 12800000 in
set_option maxRecDepth 100000 in
theorem codeList_walk (A0 A1 : Option Addr) (n0 c0 c1 : Nat) (L : List OpL) (l1 : List UInt8) (w : World) (hr0 : RO w w.heap.size A0 L) (hn0 : L.length = n0) (hr1 : RB w w.heap.size A1 l1) (hc1 : l1.length ≤ c1) (hn1 : A1 = none → c1 = 0) (ok0 : ∀ x ∈ L, 0 ≤ x.k ∧ okI (x.t, x.r) ∧ (∀ y ∈ x.p, okR y)) (hbig : ∀ x ∈ L, x.p.length < 8796093022208) :
    Calls Try.prog 18 #[.slice A0 n0 c0, .slice A1 l1.length c1] w fun e w' => e = .returned (.bool true) ∧ Below w.heap.size w w' := by
  have main : ∀ (hways : (n0 ≤ 100 ∧ ∀ x ∈ L, x.p.length ≤ 100) ∨ 1024 < n0), ∃ (Y : List UInt8) (E : Int),
      (∀ (W : World) (A2 : Option Addr) (c2 : Nat) (L2 : List OpL), L2.map OpL.op = L.map OpL.op → RO W W.heap.size A2 L2 → Calls Try.prog 74 #[.slice A2 n0 c2] W fun e w' => ∃ v, e = .returned (.tuple #[v, .int .i64 E]) ∧ w'.ownsRow W.heap.size 5 1 v Y.length (u8s Y) ∧ Below W.heap.size W w') ∧
      (∀ (W : World), RO W W.heap.size A0 L → Calls Try.prog 75 #[.slice A0 n0 c0] W fun e w' => ∃ v, e = .returned (.tuple #[v, .int .i64 E]) ∧ w'.ownsRow W.heap.size 5 1 v Y.length (u8s Y) ∧ Below W.heap.size W w') := by
    intro hways
    rcases hways with ⟨h1, h2⟩ | h1
    · have hokO : ∀ x ∈ L, okO x := fun x hx => ⟨(ok0 x hx).1, (ok0 x hx).2.1, (ok0 x hx).2.2, by have := h2 x hx; omega⟩
      refine ⟨allY L, allE L, fun W A2 c2 L2 h hr => ?_, fun W hr => refall_any A0 n0 c0 L W hr hn0 (by omega) hokO⟩
      have hl2 : L2.length = n0 := by rw [← hn0, ← List.length_map OpL.op, h, List.length_map]
      have := call_any A2 n0 c2 L2 W hr hl2 (by omega) (twin_okO h hokO)
      rwa [(all_op h).1, (all_op h).2] at this
    · refine ⟨[], 4, fun W A2 c2 L2 h hr => ?_, fun W hr => ?_⟩
      · refine (clall_many A2 n0 c2 W h1).mono ?_
        rintro e w' ⟨rfl, rfl⟩
        exact ⟨_, rfl, World.ownsRow_nil _ _ _ _, Below.refl _ _⟩
      · refine (refall_many A0 n0 c0 W h1).mono ?_
        rintro e w' ⟨rfl, rfl⟩
        exact ⟨_, rfl, World.ownsRow_nil _ _ _ _, Below.refl _ _⟩
  have HM := hide main
  have HR1 := hide hr1
  have HR0 := hide hr0
  have Hc1 := hide hc1
  have Hn1 := hide hn1
  have Hn0 := hide hn0
  have Ok0 := hide ok0
  have Hbig := hide hbig
  clear hr1 hr0 hc1 hn1 ok0 hn0 hbig main
  go_enter Try.func18, Try.ntmps18
  go_wp2_with fail
  refine (great_any A0 n0 c0 100 L w HR0.out Hn0.out (fun x hx => (Ok0.out x hx).2.2)).mono ?_
  rintro e w2 ⟨v, rfl, ⟨g, rfl, hg⟩, hb2⟩
  by_cases h11 : (1100 : Int) < n0
  · have h10 : ¬ (n0 : Int) ≤ 1024 := by omega
    clear hg
    cases g <;> (go_wp2_with fail; go_ret; exact ⟨rfl, hb2⟩)
  by_cases h20 : (20000 : Int) < l1.length
  · clear hg
    by_cases h10 : (n0 : Int) ≤ 1024
    · cases g <;> (go_wp2_with fail; go_ret; exact ⟨rfl, hb2⟩)
    · cases g <;> (go_wp2_with fail; go_ret; exact ⟨rfl, hb2⟩)
  have GB := hide (fun (W : World) h => cread_any A1 l1 l1.length c1 W h rfl (by omega) Hc1.out Hn1.out)
  have GR := hide (fun (W : World) h => crefread_any A1 l1 l1.length c1 W h rfl (by omega) Hc1.out)
  have HRL := hide (outL_small l1)
  obtain ⟨q, hq⟩ : ∃ q, q = outL (readL l1) := ⟨_, rfl⟩
  rw [← hq] at GB GR HRL
  clear hq
  obtain ⟨RL, rn, re⟩ := q
  simp only at GB GR HRL
  cases g with
  | true =>
    clear hg
    by_cases h10 : (n0 : Int) ≤ 1024
    · go_wp2_with fail
      go_ret
      exact ⟨rfl, hb2⟩
    obtain ⟨Y, E, C1, C2⟩ := HM.out (.inr (by omega))
    replace C1 := hide C1
    replace C2 := hide C2
    have HT := hide (listtwin_any A0 n0 c0 L w2 ((HR0.out.below hb2).more hb2.size) Hn0.out Hbig.out (by omega))
    go_wp2_with fail
    refine HT.out.mono ?_
    rintro e w3 ⟨A3, c3, L3, rfl, hL3, hO3, hb3⟩
    have hb03 := fresh hb2 hb3
    have HO3 := hide hO3
    have HL3 := hide hL3
    have q1 := conv_bytes (P := Try.prog) (show RB w3 w3.heap.size A1 l1 from (RD.below HR1.out hb03).more hb03.size) Try.underlying67 Try.underlying5 Try.underlying9 c1
    clear hO3 hL3 HT
    go_wp2_with fail
    try rw [q1]
    try go_wp2_with fail
    clear q1
    refine (C1.out w3 A3 c3 L3 HL3.out HO3.out.ro).mono ?_
    rintro e w4 ⟨v4, rfl, hown4, hb4⟩
    have hb04 := fresh hb03 hb4
    obtain ⟨A4, c4, rfl, -, -, -⟩ := own_slice hown4
    have HR4 := hide (show RB w4 w4.heap.size A4 Y from RD.of_own hown4)
    clear hown4
    go_wp2_with fail
    refine (C2.out w4 ((HR0.out.below hb04).more hb04.size)).mono ?_
    rintro e w5 ⟨v5, rfl, hown5, hb5⟩
    have hb05 := fresh hb04 hb5
    obtain ⟨A5, c5, rfl, -, -, -⟩ := own_slice hown5
    have HR5 := hide (show RB w5 w5.heap.size A5 Y from RD.of_own hown5)
    clear hown5
    go_wp2_with fail
    refine (unhide GB w5 ((RD.below HR1.out hb05).more hb05.size)).mono ?_
    rintro e w6 ⟨A6, c6, L6, rfl, hL6, hO6, hb6⟩
    have hb06 := fresh hb05 hb6
    have HO6 := hide hO6
    have HL6 := hide hL6
    clear hO6 hL6
    go_wp2_with fail
    refine (unhide GR w6 ((RD.below HR1.out hb06).more hb06.size)).mono ?_
    rintro e w7 ⟨A7, c7, L7, rfl, hL7, hO7, hb7⟩
    have hb07 := fresh hb06 hb7
    have hb57 := fresh hb6 hb7
    have hb47 := fresh hb5 hb57
    have hb37 := fresh hb4 hb47
    have S1 := hide (listsame_any A6 A7 RL.length RL.length c6 c7 L6 L7 w7 (((HO6.out.ro).below hb7).more hb7.size) hO7.ro (by rw [← HL6.out, List.length_map]) (by rw [← hL7, List.length_map]) (fun x hx => by
      have := HRL.out.1 x.op (by rw [← HL6.out]; exact List.mem_map_of_mem hx)
      have h2 : x.p.length ≤ 64 := this
      omega) (fun x hx => by
      have := HRL.out.1 x.op (by rw [← hL7]; exact List.mem_map_of_mem hx)
      have h2 : x.p.length ≤ 64 := this
      omega) (by have := HRL.out.2; omega))
    rw [decide_eq_true (show L6.map OpL.op = L7.map OpL.op by rw [HL6.out, hL7])] at S1
    have q4 := conv_bytes (P := Try.prog) (show RB w7 w7.heap.size A4 Y from (RD.below HR4.out hb47).more hb47.size) Try.underlying67 Try.underlying5 Try.underlying9 c4
    have q5 := conv_bytes (P := Try.prog) (show RB w7 w7.heap.size A5 Y from (RD.below HR5.out hb57).more hb57.size) Try.underlying67 Try.underlying5 Try.underlying9 c5
    clear hL7 hO7
    go_wp2_with fail
    try rw [q4]
    try go_wp2_with fail
    refine S1.out.mono ?_
    rintro e w8 ⟨rfl, hb8⟩
    have hb08 := fresh hb07 hb8
    have hb38 := fresh hb37 hb8
    have S2 := hide (listsame_any A3 A0 n0 n0 c3 c0 L3 L w8 (((HO3.out.ro).below hb38).more hb38.size) ((HR0.out.below hb08).more hb08.size) (by rw [← Hn0.out, ← List.length_map OpL.op, HL3.out, List.length_map]) Hn0.out (twin_big HL3.out Hbig.out) Hbig.out (by omega))
    rw [decide_eq_true HL3.out] at S2
    clear q4 q5 S1
    go_wp2_with fail
    refine S2.out.mono ?_
    rintro e w9 ⟨rfl, hb9⟩
    have hb09 := fresh hb08 hb9
    have q1 := conv_bytes (P := Try.prog) (show RB w9 w9.heap.size A1 l1 from (RD.below HR1.out hb09).more hb09.size) Try.underlying67 Try.underlying5 Try.underlying9 c1
    clear S2
    go_wp2_with fail
    try rw [q1]
    try go_wp2_with fail
    go_ret
    exact ⟨rfl, hb09⟩
  | false =>
    obtain ⟨h100, hl100⟩ := hg rfl
    obtain ⟨Y, E, C1, C2⟩ := HM.out (.inl ⟨by omega, hl100 (by omega)⟩)
    replace C1 := hide C1
    replace C2 := hide C2
    clear hg hl100
    have HT := hide (listtwin_any A0 n0 c0 L w2 ((HR0.out.below hb2).more hb2.size) Hn0.out Hbig.out (by omega))
    go_wp2_with fail
    refine HT.out.mono ?_
    rintro e w3 ⟨A3, c3, L3, rfl, hL3, hO3, hb3⟩
    have hb03 := fresh hb2 hb3
    have HO3 := hide hO3
    have HL3 := hide hL3
    have q1 := conv_bytes (P := Try.prog) (show RB w3 w3.heap.size A1 l1 from (RD.below HR1.out hb03).more hb03.size) Try.underlying67 Try.underlying5 Try.underlying9 c1
    clear hO3 hL3 HT
    go_wp2_with fail
    try rw [q1]
    try go_wp2_with fail
    clear q1
    refine (C1.out w3 A3 c3 L3 HL3.out HO3.out.ro).mono ?_
    rintro e w4 ⟨v4, rfl, hown4, hb4⟩
    have hb04 := fresh hb03 hb4
    obtain ⟨A4, c4, rfl, -, -, -⟩ := own_slice hown4
    have HR4 := hide (show RB w4 w4.heap.size A4 Y from RD.of_own hown4)
    clear hown4
    go_wp2_with fail
    refine (C2.out w4 ((HR0.out.below hb04).more hb04.size)).mono ?_
    rintro e w5 ⟨v5, rfl, hown5, hb5⟩
    have hb05 := fresh hb04 hb5
    obtain ⟨A5, c5, rfl, -, -, -⟩ := own_slice hown5
    have HR5 := hide (show RB w5 w5.heap.size A5 Y from RD.of_own hown5)
    clear hown5
    go_wp2_with fail
    refine (unhide GB w5 ((RD.below HR1.out hb05).more hb05.size)).mono ?_
    rintro e w6 ⟨A6, c6, L6, rfl, hL6, hO6, hb6⟩
    have hb06 := fresh hb05 hb6
    have HO6 := hide hO6
    have HL6 := hide hL6
    clear hO6 hL6
    go_wp2_with fail
    refine (unhide GR w6 ((RD.below HR1.out hb06).more hb06.size)).mono ?_
    rintro e w7 ⟨A7, c7, L7, rfl, hL7, hO7, hb7⟩
    have hb07 := fresh hb06 hb7
    have hb57 := fresh hb6 hb7
    have hb47 := fresh hb5 hb57
    have hb37 := fresh hb4 hb47
    have S1 := hide (listsame_any A6 A7 RL.length RL.length c6 c7 L6 L7 w7 (((HO6.out.ro).below hb7).more hb7.size) hO7.ro (by rw [← HL6.out, List.length_map]) (by rw [← hL7, List.length_map]) (fun x hx => by
      have := HRL.out.1 x.op (by rw [← HL6.out]; exact List.mem_map_of_mem hx)
      have h2 : x.p.length ≤ 64 := this
      omega) (fun x hx => by
      have := HRL.out.1 x.op (by rw [← hL7]; exact List.mem_map_of_mem hx)
      have h2 : x.p.length ≤ 64 := this
      omega) (by have := HRL.out.2; omega))
    rw [decide_eq_true (show L6.map OpL.op = L7.map OpL.op by rw [HL6.out, hL7])] at S1
    have q4 := conv_bytes (P := Try.prog) (show RB w7 w7.heap.size A4 Y from (RD.below HR4.out hb47).more hb47.size) Try.underlying67 Try.underlying5 Try.underlying9 c4
    have q5 := conv_bytes (P := Try.prog) (show RB w7 w7.heap.size A5 Y from (RD.below HR5.out hb57).more hb57.size) Try.underlying67 Try.underlying5 Try.underlying9 c5
    clear hL7 hO7
    go_wp2_with fail
    try rw [q4]
    try go_wp2_with fail
    refine S1.out.mono ?_
    rintro e w8 ⟨rfl, hb8⟩
    have hb08 := fresh hb07 hb8
    have hb38 := fresh hb37 hb8
    have S2 := hide (listsame_any A3 A0 n0 n0 c3 c0 L3 L w8 (((HO3.out.ro).below hb38).more hb38.size) ((HR0.out.below hb08).more hb08.size) (by rw [← Hn0.out, ← List.length_map OpL.op, HL3.out, List.length_map]) Hn0.out (twin_big HL3.out Hbig.out) Hbig.out (by omega))
    rw [decide_eq_true HL3.out] at S2
    clear q4 q5 S1
    go_wp2_with fail
    refine S2.out.mono ?_
    rintro e w9 ⟨rfl, hb9⟩
    have hb09 := fresh hb08 hb9
    have q1 := conv_bytes (P := Try.prog) (show RB w9 w9.heap.size A1 l1 from (RD.below HR1.out hb09).more hb09.size) Try.underlying67 Try.underlying5 Try.underlying9 c1
    clear S2
    go_wp2_with fail
    try rw [q1]
    try go_wp2_with fail
    go_ret
    exact ⟨rfl, hb09⟩
end Go.Proofs.Ytbjfmkdjnglgbaa
