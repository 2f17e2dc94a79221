/-
  What operations weigh, and their piece, are the document's: the walk of WeighTells. Condition: parts of their types, places of fewer than 2^43 runs.
-/
import Derived.Test.YtbjfmkdjnglgbaaWeigh
import Derived.Test.YtbjfmkdjnglgbaaWeighRef
import Derived.Test.YtbjfmkdjnglgbaaListGreat
namespace Go.Proofs.Ytbjfmkdjnglgbaa
open Go.RowKit

theorem twinT_of {L M : List OpL} (h : L.map OpL.op = M.map OpL.op) {x : OpL} (hx : x ∈ L) : ∃ y ∈ M, y.op = x.op := by
  have h1 : x.op ∈ M.map OpL.op := by rw [← h]; exact List.mem_map_of_mem hx
  obtain ⟨y, hy, e⟩ := List.mem_map.1 h1
  exact ⟨y, hy, e⟩
theorem twinT_big {L M : List OpL} (h : L.map OpL.op = M.map OpL.op) {N : Nat} (hM : ∀ x ∈ M, x.p.length < N) : ∀ x ∈ L, x.p.length < N := fun x hx => by
  obtain ⟨y, hy, e⟩ := twinT_of h hx
  rw [← (op_eq.1 e).2.2.2.1]
  exact hM y hy
theorem twinT_okO {L M : List OpL} (h : L.map OpL.op = M.map OpL.op) (hM : ∀ x ∈ M, okO x) : ∀ x ∈ L, okO x := fun x hx => by
  obtain ⟨y, hy, e⟩ := twinT_of h hx
  obtain ⟨e1, e2, e3, e4, e5⟩ := op_eq.1 e
  have := hM y hy
  unfold okO at this ⊢
  rw [← e1, ← e2, ← e3, ← e4]
  exact this
theorem twinT_may {L M : List OpL} (h : L.map OpL.op = M.map OpL.op) (hM : ∀ x ∈ M, mayL x) : ∀ x ∈ L, mayL x := fun x hx => by
  obtain ⟨y, hy, e⟩ := twinT_of h hx
  obtain ⟨e1, e2, e3, e4, e5⟩ := op_eq.1 e
  have := hM y hy
  unfold mayL at this ⊢
  rw [← e1, ← e2, ← e3, ← e4, ← e5]
  exact this
theorem szT_op {x y : OpL} (h : x.op = y.op) : szO x = szO y ∧ conO x = conO y := by
  obtain ⟨e1, e2, e3, e4, e5⟩ := op_eq.1 h
  have e : szO x = szO y := by
    unfold szO
    rw [e1, e2, e3, e4, e5]
  refine ⟨e, ?_⟩
  unfold conO
  rw [e, e1]
theorem totL_op : ∀ {L M : List OpL}, L.map OpL.op = M.map OpL.op → totL L = totL M
  | [], [], _ => rfl
  | [], y :: M, h => by simp at h
  | x :: L, [], h => by simp at h
  | x :: L, y :: M, h => by
    simp only [List.map_cons, List.cons.injEq] at h
    simp only [totL]
    rw [(szT_op h.1).2, totL_op h.2]
theorem cntP_op : ∀ {L M : List OpL} (j s : Nat), L.map OpL.op = M.map OpL.op → cntP j s L = cntP j s M
  | [], [], _, _, _ => rfl
  | [], y :: M, _, _, h => by simp at h
  | x :: L, [], _, _, h => by simp at h
  | x :: L, y :: M, j, s, h => by
    simp only [List.map_cons, List.cons.injEq] at h
    unfold cntP
    rw [(szT_op h.1).1, cntP_op (j + 1) (s + szO y) h.2]
/-- A list whose runs may turn. -/
def RVA (w : World) (base : Nat) (A : Option Addr) (c : Nat) (L : List OpL) : Prop :=
  w.ownsRow base 47 5 (.slice A L.length c) L.length (opcs L) ∧ ∀ x ∈ L, ∃ xs, w.ownsRow base 41 3 (.slice x.A x.p.length x.c) x.p.length xs
theorem RVA.of {w : World} {base c : Nat} {A : Option Addr} {L : List OpL} (h : OO w base A c L) : RVA w base A c L := ⟨h.1, fun x hx => ⟨_, h.2 x hx⟩⟩
theorem RVA.cell {w : World} {base c m : Nat} {A : Option Addr} {L : List OpL} (h : RVA w base A c L) (hm : m < L.length) : ∃ b off, A = some ⟨b, off, none⟩ ∧ w.cell? ⟨b, off + m * 5 + 2 + 1, none⟩ = some (.slice L[m].A L[m].p.length L[m].c) := by
  obtain ⟨b, off, e, hb, hc⟩ := (RD.of_own h.1).2 (by omega)
  refine ⟨b, off, e, ?_⟩
  have := hc (m * 5 + 3) _ (by rw [opcs_get L m hm 3 (by decide)]; rfl)
  rwa [← Nat.add_assoc] at this
theorem RVA.inner {w : World} {base c : Nat} {A : Option Addr} {L : List OpL} (h : RVA w base A c L) {x : OpL} (hx : x ∈ L) (hp : 0 < x.p.length) : ∃ g cap cur, x.A = some ⟨g, 0, none⟩ ∧ base ≤ g ∧ w.heap[g]? = some (.cells cur 41 (0, 0)) ∧ x.p.length * 3 ≤ cur.size ∧ cap = x.c := by
  obtain ⟨xs, h1, h2⟩ := h.2 x hx
  rcases h2 with ⟨-, h0⟩ | ⟨g, cap, cur, h3, h4, h5, h6, -, h7, -⟩
  · omega
  · simp only [Value.slice.injEq] at h3
    exact ⟨g, cap, cur, h3.1, h4, h5, by rw [h7]; exact Nat.mul_le_mul_right _ h6, h3.2.2.symm⟩
theorem RVA.set {w : World} {base c : Nat} {A : Option Addr} {L : List OpL} (h : RVA w base A c L) (g off : Nat) (v : Value) {cur : Array Value} (hg : w.heap[g]? = some (.cells cur 41 (0, 0))) : RVA (w.setCell ⟨g, off, none⟩ v) base A c L := by
  refine ⟨⟨h.1.1, ?_⟩, fun x hx => ?_⟩
  · rcases h.1.2 with h0 | ⟨q, cap, cur', h1, h2, h3, h4⟩
    · exact .inl h0
    · have hne : q ≠ g := by
        intro e
        rw [e, hg] at h3
        simp at h3
      exact .inr ⟨q, cap, cur', h1, h2, (heap_setCell_other _ _ _ _ hne).trans h3, h4⟩
  · obtain ⟨xs, h1, h2⟩ := h.2 x hx
    rcases h2 with h0 | ⟨q, cap, cur', h3, h4, h5, h6, h7, h8, h9⟩
    · exact ⟨xs, h1, .inl h0⟩
    · by_cases hq : q = g
      · subst hq
        refine ⟨(cur'.setIfInBounds off v).toList.take (x.p.length * 3), ?_, .inr ⟨q, cap, _, h3, h4, heap_setCell_same _ _ _ _ _ _ h5, h6, h7, by simpa using h8, rfl⟩⟩
        rw [List.length_take, Array.length_toList, Array.size_setIfInBounds, h8]
        exact Nat.min_eq_left (Nat.mul_le_mul_right _ h6)
      · exact ⟨xs, h1, .inr ⟨q, cap, cur', h3, h4, (heap_setCell_other _ _ _ _ hq).trans h5, h6, h7, h8, h9⟩⟩

set_option maxHeartbeats 25600000 in
set_option maxRecDepth 100000 in
theorem weighTells_walk (k t r z : Int) (A0 A1 : Option Addr) (c0 n1 c1 : Nat) (l0 : List Rn) (L : List OpL) (w : World) (hr0 : RR w w.heap.size A0 l0) (ok0 : ∀ x ∈ l0, okR x) (k0 : 0 ≤ k) (hi : okI (t, r)) (hr1 : RO w w.heap.size A1 L) (hn1 : L.length = n1) (hc1 : n1 ≤ c1) (ok1 : ∀ x ∈ L, 0 ≤ x.k ∧ okI (x.t, x.r) ∧ (∀ y ∈ x.p, okR y)) (hbig : ∀ x ∈ L, x.p.length < 8796093022208) :
    Calls Try.prog 16 #[opv k t r A0 l0.length c0 z, .slice A1 n1 c1] w fun e w' => e = .returned (.bool true) ∧ Below w.heap.size w w' := by
  have main : ∀ (hways : (n1 ≤ 120 ∧ ∀ x ∈ L, x.p.length ≤ 100) ∨ 1024 < n1), ∃ (N E : Int) (P : List OpP),
      (∀ (W : World) (A2 : Option Addr) (c2 : Nat) (L2 : List OpL), L2.map OpL.op = L.map OpL.op → RO W W.heap.size A2 L2 → Calls Try.prog 66 #[.slice A2 n1 c2] W fun e w' => e = .returned (.tuple #[.int .i64 N, .int .i64 E]) ∧ Below W.heap.size W w') ∧
      (∀ (W : World), RO W W.heap.size A1 L → Calls Try.prog 71 #[.slice A1 n1 c1] W fun e w' => e = .returned (.tuple #[.int .i64 N, .int .i64 E]) ∧ Below W.heap.size W w') ∧
      (∀ (W : World) (A2 : Option Addr) (c2 : Nat) (L2 : List OpL), L2.map OpL.op = L.map OpL.op → RO W W.heap.size A2 L2 → n1 ≤ c2 → (∀ x ∈ L2, x.A = none → x.c = 0) → Calls Try.prog 67 #[.slice A2 n1 c2] W fun e w' => ∃ A' c' L', e = .returned (.tuple #[.slice A' (List.length (α := OpL) L') c', .int .i64 E]) ∧ L'.map OpL.op = P ∧ OO w' W.heap.size A' c' L' ∧ Below W.heap.size W w') ∧
      (∀ (W : World), RO W W.heap.size A1 L → Calls Try.prog 72 #[.slice A1 n1 c1] W fun e w' => ∃ A' c' L', e = .returned (.tuple #[.slice A' (List.length (α := OpL) L') c', .int .i64 E]) ∧ L'.map OpL.op = P ∧ OO w' W.heap.size A' c' L' ∧ Below W.heap.size W w') ∧
      (∀ o ∈ P, o.2.2.2.1.length ≤ 64) ∧ P.length ≤ 64 := by
    intro hways
    rcases hways with ⟨h1, h2⟩ | h1
    · have hokO : ∀ x ∈ L, okO x := fun x hx => ⟨(ok1 x hx).1, (ok1 x hx).2.1, (ok1 x hx).2.2, by have := h2 x hx; omega⟩
      refine ⟨((if ∀ x ∈ L, mayL x then totL L else 0 : Nat) : Int), allE L, (if ∀ x ∈ L, mayL x then L.take (pcs L) else []).map OpL.op, fun W A2 c2 L2 h hr => ?_, fun W hr => rtotal_any A1 n1 c1 L W hr hn1 (by omega) hokO, fun W A2 c2 L2 h hr hc hnil => ?_, fun W hr => rpiece_any A1 n1 c1 L W hr hn1 (by omega) hokO hc1, ?_, ?_⟩
      · have hl2 : L2.length = n1 := by rw [← hn1, ← List.length_map OpL.op, h, List.length_map]
        have hT := wtotal_any A2 n1 c2 L2 W hr hl2 (by omega) (twinT_okO h hokO)
        have hE : allE L2 = allE L ∧ (if ∀ x ∈ L2, mayL x then totL L2 else 0) = (if ∀ x ∈ L, mayL x then totL L else 0) := by
          unfold allE
          by_cases hm : ∀ x ∈ L, mayL x
          · rw [if_pos hm, if_pos hm, if_pos (twinT_may h hm), if_pos (twinT_may h hm), totL_op h]
            exact ⟨rfl, rfl⟩
          · rw [if_neg hm, if_neg hm, if_neg (fun k => hm (twinT_may h.symm k)), if_neg (fun k => hm (twinT_may h.symm k))]
            exact ⟨rfl, rfl⟩
        rw [hE.1, hE.2] at hT
        exact hT
      · have hl2 : L2.length = n1 := by rw [← hn1, ← List.length_map OpL.op, h, List.length_map]
        have hT := wpiece_any A2 n1 c2 L2 W hr hl2 (by omega) hc (twinT_okO h hokO) hnil
        have hE : allE L2 = allE L ∧ (if ∀ x ∈ L2, mayL x then L2.take (pcs L2) else []).map OpL.op = (if ∀ x ∈ L, mayL x then L.take (pcs L) else []).map OpL.op := by
          unfold allE
          by_cases hm : ∀ x ∈ L, mayL x
          · rw [if_pos hm, if_pos hm, if_pos (twinT_may h hm), if_pos (twinT_may h hm)]
            refine ⟨rfl, ?_⟩
            rw [List.map_take, List.map_take, h]
            unfold pcs
            rw [cntP_op 0 0 h]
          · rw [if_neg hm, if_neg hm, if_neg (fun k => hm (twinT_may h.symm k)), if_neg (fun k => hm (twinT_may h.symm k))]
            exact ⟨rfl, rfl⟩
        rw [hE.1, hE.2] at hT
        exact hT
      · intro o ho
        obtain ⟨x, hx, rfl⟩ := List.mem_map.1 ho
        by_cases hm : ∀ x ∈ L, mayL x
        · rw [if_pos hm] at hx
          exact (hm x (List.mem_of_mem_take hx)).2.1.2.1
        · rw [if_neg hm] at hx
          cases hx
      · rw [List.length_map]
        split
        · rw [List.length_take]
          have := pcs_max L
          omega
        · simp
    · refine ⟨0, 4, [], fun W A2 c2 L2 h hr => ?_, fun W hr => ?_, fun W A2 c2 L2 h hr hc hnil => ?_, fun W hr => ?_, fun o ho => (by cases ho), (by simp)⟩
      · exact wtotal_many A2 n1 c2 W h1
      · refine (rtotal_many A1 n1 c1 W h1).mono ?_
        rintro e w' ⟨rfl, rfl⟩
        exact ⟨rfl, Below.refl _ _⟩
      · refine (wpiece_many A2 n1 c2 W h1).mono ?_
        rintro e w' ⟨rfl, rfl⟩
        exact ⟨none, 0, [], rfl, rfl, OO.nil _ _, Below.refl _ _⟩
      · refine (rpiece_many A1 n1 c1 W h1).mono ?_
        rintro e w' ⟨rfl, rfl⟩
        exact ⟨none, 0, [], rfl, rfl, OO.nil _ _, Below.refl _ _⟩
  obtain ⟨w1, hw1, F1, hs1, hb1⟩ := five_fb w (.int .u8 k) (.int .u32 t) (.int .u8 r) (.slice A0 l0.length c0) (.int .i64 z)
  have HM := hide main
  have HF1 := hide F1
  have HR0 := hide hr0
  have HR1 := hide hr1
  have Hn1 := hide hn1
  have Ok1 := hide ok1
  have Hbig := hide hbig
  obtain ⟨o0, o1, o2, o3, o4⟩ := HF1.out.cells
  by_cases hl0 : (100 : Int) < l0.length
  · clear hr0 ok0 hi hr1 hn1 ok1 hbig main F1
    go_enter Try.func16, Try.ntmps16
    go_wp2_with fail
    go_ret
    exact ⟨rfl, hb1⟩
  have hok : okO ⟨k, t, r, A0, c0, l0, z⟩ := ⟨k0, hi, ok0, by simp only; omega⟩
  have B1 := hide (fun (W : World) (h : RR W W.heap.size A0 l0) => wbytes_any ⟨k, t, r, A0, c0, l0, z⟩ l0.length W h rfl hok)
  have B2 := hide (fun (W : World) (h : RR W W.heap.size A0 l0) => rbytes_any ⟨k, t, r, A0, c0, l0, z⟩ l0.length W h rfl hok)
  simp only at B1 B2
  generalize szO ⟨k, t, r, A0, c0, l0, z⟩ = SZ at B1 B2
  generalize chkO k t r l0 z = CK at B1 B2
  clear hr0 ok0 hi hr1 hn1 ok1 hbig main F1 hok
  go_enter Try.func16, Try.ntmps16
  go_wp2_with fail
  refine (great_any A1 n1 c1 120 L w1 ((HR1.out.below hb1).more hb1.size) Hn1.out (fun x hx => (Ok1.out x hx).2.2)).mono ?_
  rintro e w2 ⟨v, rfl, ⟨g, rfl, hg⟩, hb2'⟩
  have hb2 := fresh hb1 hb2'
  have HF2 := hide (HF1.out.below hb2')
  clear o0 o1 o2 o3 o4
  by_cases h11 : (1100 : Int) < n1
  · have h10 : ¬ (n1 : Int) ≤ 1024 := by omega
    clear hg
    cases g <;> (go_wp2_with fail; go_ret; exact ⟨rfl, hb2⟩)
  obtain ⟨o0, o1, o2, o3, o4⟩ := HF2.out.cells
  cases g with
  | true =>
    clear hg
    by_cases h10 : (n1 : Int) ≤ 1024
    · go_wp2_with fail
      go_ret
      exact ⟨rfl, hb2⟩
    obtain ⟨N, E, P, T1, T2, P1, P2, PP⟩ := HM.out (.inr (by omega))
    replace T1 := hide T1
    replace T2 := hide T2
    replace P1 := hide P1
    replace P2 := hide P2
    have HPP := hide PP
    clear PP
    have HT := hide (listtwin_any A1 n1 c1 L w2 ((HR1.out.below hb2).more hb2.size) Hn1.out Hbig.out (by omega))
    go_wp2_with fail
    refine HT.out.mono ?_
    rintro e w3 ⟨A3, c3, L3, rfl, hL3, hO3, hb3⟩
    have hb03 := fresh hb2 hb3
    have HO3 := hide hO3
    have HL3 := hide hL3
    obtain ⟨A9, c9, e9, h9, -, -⟩ := own_slice hO3.1
    simp only [Value.slice.injEq] at e9
    have hc3 : n1 ≤ c3 := by
      have h1 : L3.length = n1 := by rw [← Hn1.out, ← List.length_map OpL.op, hL3, List.length_map]
      omega
    have Hnil3 := hide (fun (x : OpL) (hx : x ∈ L3) => own_nilB (hO3.2 x hx))
    clear hO3 hL3 HT e9 h9
    clear o0 o1 o2 o3 o4
    obtain ⟨o0, o1, o2, o3, o4⟩ := (HF2.out.below hb3).cells
    go_wp2_with fail
    refine (unhide B1 w3 (RR.below' HR0.out hb03)).mono ?_
    rintro e w4 ⟨rfl, hb4⟩
    have hb04 := fresh hb03 hb4
    have hb24 := fresh hb3 hb4
    clear o0 o1 o2 o3 o4
    obtain ⟨o0, o1, o2, o3, o4⟩ := (HF2.out.below hb24).cells
    go_wp2_with fail
    refine (unhide B2 w4 (RR.below' HR0.out hb04)).mono ?_
    rintro e w5 ⟨rfl, hb5⟩
    have hb05 := fresh hb04 hb5
    have hb35 := fresh hb4 hb5
    clear o0 o1 o2 o3 o4
    have HRO5 := hide (show RO w5 w5.heap.size A3 L3 from ((HO3.out.ro).below hb35).more hb35.size)
    go_wp2_with fail
    refine (T1.out w5 A3 c3 L3 HL3.out HRO5.out).mono ?_
    rintro e w6 ⟨rfl, hb6⟩
    have hb06 := fresh hb05 hb6
    go_wp2_with fail
    refine (T2.out w6 ((HR1.out.below hb06).more hb06.size)).mono ?_
    rintro e w7 ⟨rfl, hb7⟩
    have hb07 := fresh hb06 hb7
    have hb57 := fresh hb6 hb7
    have HRO7 := hide (show RO w7 w7.heap.size A3 L3 from (HRO5.out.below hb57).more hb57.size)
    go_wp2_with fail
    refine (P1.out w7 A3 c3 L3 HL3.out HRO7.out hc3 Hnil3.out).mono ?_
    rintro e w8 ⟨A8, c8, L8, rfl, hL8, hO8, hb8⟩
    have hb08 := fresh hb07 hb8
    have HO8 := hide hO8
    have HL8 := hide hL8
    clear hO8 hL8
    go_wp2_with fail
    refine (P2.out w8 ((HR1.out.below hb08).more hb08.size)).mono ?_
    rintro e w9 ⟨A9, c9, L9, rfl, hL9, hO9, hb9⟩
    have hb09 := fresh hb08 hb9
    have HO89 := hide (HO8.out.below hb9)
    have S1 := hide (listsame_any A8 A9 L8.length L9.length c8 c9 L8 L9 w9 HO89.out.ro hO9.ro rfl rfl (fun x hx => by
      have := HPP.out.1 x.op (by rw [← HL8.out]; exact List.mem_map_of_mem hx)
      have h2 : x.p.length ≤ 64 := this
      omega) (fun x hx => by
      have := HPP.out.1 x.op (by rw [← hL9]; exact List.mem_map_of_mem hx)
      have h2 : x.p.length ≤ 64 := this
      omega) (by
      have h1 := HPP.out.2
      rw [← HL8.out, List.length_map] at h1
      omega))
    rw [decide_eq_true (show L8.map OpL.op = L9.map OpL.op by rw [HL8.out, hL9])] at S1
    have H8len := hide (show L8.length ≤ 64 by
      have h1 := HPP.out.2
      rw [← HL8.out, List.length_map] at h1
      exact h1)
    have H8p := hide (show ∀ x ∈ L8, x.p.length ≤ 64 from fun x hx => HPP.out.1 x.op (by rw [← HL8.out]; exact List.mem_map_of_mem hx))
    have hb79 := hb8.trans (hb9.mono hb8.size)
    clear hL9 hO9 HO8 HL8
    go_wp2_with fail
    refine S1.out.mono ?_
    rintro e wa ⟨rfl, hba⟩
    have hb7a := hb79.trans (hba.mono hb79.size)
    have HXa := hide (RVA.of (HO89.out.below hba))
    clear S1 HO89
    go_wp2_with fail
    go_loopw [19] (fun i wr => ∃ m : Nat, m ≤ L8.length ∧ i = .int .i64 (m : Int) ∧ Hid (RVA wr w7.heap.size A8 c8 L8) ∧ Below w7.heap.size w7 wr) (fun i _ => 100 - (intOf i).toNat)
    case atStart => exact ⟨0, by omega, rfl, HXa, hb7a⟩
    case round =>
      obtain ⟨m, hm, rfl, HX, hbr⟩ := hrel
      clear HXa
      have h8l := H8len.out
      by_cases hlt : m < L8.length
      · have zm : (m : Int) < L8.length := by omega
        have zm0 : (0 : Int) ≤ m := by omega
        go_wp2_with fail
        go_loopw [20] (fun i wi => ∃ q : Nat, q ≤ L8[m].p.length ∧ i = .int .i64 (q : Int) ∧ Hid (RVA wi w7.heap.size A8 c8 L8) ∧ Below w7.heap.size w7 wi) (fun i _ => 100 - (intOf i).toNat)
        case atStart => exact ⟨0, by omega, rfl, HX, hbr⟩
        case round =>
          obtain ⟨q, hq, rfl, HXi, hbi⟩ := hrel
          have hx64 := H8p.out L8[m] (List.getElem_mem hlt)
          obtain ⟨b8, o8, rfl, d3⟩ := HXi.out.cell hlt
          obtain ⟨x, hx⟩ : ∃ x, L8[m] = x := ⟨_, rfl⟩
          have Hxm := hide (show x ∈ L8 by rw [← hx]; exact List.getElem_mem hlt)
          rw [hx] at d3 hx64 hq
          by_cases hlq : q < x.p.length
          · have zq : (q : Int) < x.p.length := by omega
            have zq0 : (0 : Int) ≤ q := by omega
            obtain ⟨gx, gc, cur, hgA, hgB, hgh, hgs⟩ := HXi.out.inner Hxm.out (by omega)
            rw [hgA] at d3
            have f0 := frozen_of_row wr gx (q * 3 + 2) _ _ hgh
            have c0' : ∃ u, wr.cell? ⟨gx, q * 3 + 2, none⟩ = some u := by
              rw [cell_of_row _ _ _ _ _ _ hgh]
              exact ⟨_, Array.getElem?_eq_getElem (by omega)⟩
            obtain ⟨u0, hu0⟩ := c0'
            have HXn := hide (HXi.out.set gx (q * 3 + 2) (.int .i64 (-7)) hgh)
            have hbn := hide (hbi.setCell (p := ⟨gx, q * 3 + 2, none⟩) hgB (.int .i64 (-7)))
            have Hx' := hide hx
            clear hgh hgs hgB hx
            go_wp2_with fail
            go_roundw
            case rel => exact ⟨q + 1, by rw [Hx'.out]; omega, by go_num, HXn, hbn.out⟩
            case measure => simp [intOf]; omega
          · have zq : ¬ (q : Int) < x.p.length := by omega
            clear hx
            go_wp2_with fail
            go_roundw
            case rel => exact ⟨m + 1, by omega, by go_num, HXi, hbi⟩
            case measure => simp [intOf]; omega
      · have zm : ¬ (m : Int) < L8.length := by omega
        have hb0r := fresh hb07 hbr
        have S2 := hide (listsame_any A3 A1 n1 n1 c3 c1 L3 L wr ((HRO7.out.below hbr).more hbr.size) ((HR1.out.below hb0r).more hb0r.size) (by rw [← Hn1.out, ← List.length_map OpL.op, HL3.out, List.length_map]) Hn1.out (twinT_big HL3.out Hbig.out) Hbig.out (by omega))
        rw [decide_eq_true HL3.out] at S2
        go_wp2_with fail
        refine S2.out.mono ?_
        rintro e wb ⟨rfl, hbb⟩
        have hb0b := fresh hb0r hbb
        go_wp2_with fail
        go_ret
        exact ⟨rfl, hb0b⟩
  | false =>
    obtain ⟨h120, hl100⟩ := hg rfl
    obtain ⟨N, E, P, T1, T2, P1, P2, PP⟩ := HM.out (.inl ⟨by omega, hl100 (by omega)⟩)
    replace T1 := hide T1
    replace T2 := hide T2
    replace P1 := hide P1
    replace P2 := hide P2
    have HPP := hide PP
    clear PP hg hl100
    have HT := hide (listtwin_any A1 n1 c1 L w2 ((HR1.out.below hb2).more hb2.size) Hn1.out Hbig.out (by omega))
    go_wp2_with fail
    refine HT.out.mono ?_
    rintro e w3 ⟨A3, c3, L3, rfl, hL3, hO3, hb3⟩
    have hb03 := fresh hb2 hb3
    have HO3 := hide hO3
    have HL3 := hide hL3
    obtain ⟨A9, c9, e9, h9, -, -⟩ := own_slice hO3.1
    simp only [Value.slice.injEq] at e9
    have hc3 : n1 ≤ c3 := by
      have h1 : L3.length = n1 := by rw [← Hn1.out, ← List.length_map OpL.op, hL3, List.length_map]
      omega
    have Hnil3 := hide (fun (x : OpL) (hx : x ∈ L3) => own_nilB (hO3.2 x hx))
    clear hO3 hL3 HT e9 h9
    clear o0 o1 o2 o3 o4
    obtain ⟨o0, o1, o2, o3, o4⟩ := (HF2.out.below hb3).cells
    go_wp2_with fail
    refine (unhide B1 w3 (RR.below' HR0.out hb03)).mono ?_
    rintro e w4 ⟨rfl, hb4⟩
    have hb04 := fresh hb03 hb4
    have hb24 := fresh hb3 hb4
    clear o0 o1 o2 o3 o4
    obtain ⟨o0, o1, o2, o3, o4⟩ := (HF2.out.below hb24).cells
    go_wp2_with fail
    refine (unhide B2 w4 (RR.below' HR0.out hb04)).mono ?_
    rintro e w5 ⟨rfl, hb5⟩
    have hb05 := fresh hb04 hb5
    have hb35 := fresh hb4 hb5
    clear o0 o1 o2 o3 o4
    have HRO5 := hide (show RO w5 w5.heap.size A3 L3 from ((HO3.out.ro).below hb35).more hb35.size)
    go_wp2_with fail
    refine (T1.out w5 A3 c3 L3 HL3.out HRO5.out).mono ?_
    rintro e w6 ⟨rfl, hb6⟩
    have hb06 := fresh hb05 hb6
    go_wp2_with fail
    refine (T2.out w6 ((HR1.out.below hb06).more hb06.size)).mono ?_
    rintro e w7 ⟨rfl, hb7⟩
    have hb07 := fresh hb06 hb7
    have hb57 := fresh hb6 hb7
    have HRO7 := hide (show RO w7 w7.heap.size A3 L3 from (HRO5.out.below hb57).more hb57.size)
    go_wp2_with fail
    refine (P1.out w7 A3 c3 L3 HL3.out HRO7.out hc3 Hnil3.out).mono ?_
    rintro e w8 ⟨A8, c8, L8, rfl, hL8, hO8, hb8⟩
    have hb08 := fresh hb07 hb8
    have HO8 := hide hO8
    have HL8 := hide hL8
    clear hO8 hL8
    go_wp2_with fail
    refine (P2.out w8 ((HR1.out.below hb08).more hb08.size)).mono ?_
    rintro e w9 ⟨A9, c9, L9, rfl, hL9, hO9, hb9⟩
    have hb09 := fresh hb08 hb9
    have HO89 := hide (HO8.out.below hb9)
    have S1 := hide (listsame_any A8 A9 L8.length L9.length c8 c9 L8 L9 w9 HO89.out.ro hO9.ro rfl rfl (fun x hx => by
      have := HPP.out.1 x.op (by rw [← HL8.out]; exact List.mem_map_of_mem hx)
      have h2 : x.p.length ≤ 64 := this
      omega) (fun x hx => by
      have := HPP.out.1 x.op (by rw [← hL9]; exact List.mem_map_of_mem hx)
      have h2 : x.p.length ≤ 64 := this
      omega) (by
      have h1 := HPP.out.2
      rw [← HL8.out, List.length_map] at h1
      omega))
    rw [decide_eq_true (show L8.map OpL.op = L9.map OpL.op by rw [HL8.out, hL9])] at S1
    have H8len := hide (show L8.length ≤ 64 by
      have h1 := HPP.out.2
      rw [← HL8.out, List.length_map] at h1
      exact h1)
    have H8p := hide (show ∀ x ∈ L8, x.p.length ≤ 64 from fun x hx => HPP.out.1 x.op (by rw [← HL8.out]; exact List.mem_map_of_mem hx))
    have hb79 := hb8.trans (hb9.mono hb8.size)
    clear hL9 hO9 HO8 HL8
    go_wp2_with fail
    refine S1.out.mono ?_
    rintro e wa ⟨rfl, hba⟩
    have hb7a := hb79.trans (hba.mono hb79.size)
    have HXa := hide (RVA.of (HO89.out.below hba))
    clear S1 HO89
    go_wp2_with fail
    go_loopw [19] (fun i wr => ∃ m : Nat, m ≤ L8.length ∧ i = .int .i64 (m : Int) ∧ Hid (RVA wr w7.heap.size A8 c8 L8) ∧ Below w7.heap.size w7 wr) (fun i _ => 100 - (intOf i).toNat)
    case atStart => exact ⟨0, by omega, rfl, HXa, hb7a⟩
    case round =>
      obtain ⟨m, hm, rfl, HX, hbr⟩ := hrel
      clear HXa
      have h8l := H8len.out
      by_cases hlt : m < L8.length
      · have zm : (m : Int) < L8.length := by omega
        have zm0 : (0 : Int) ≤ m := by omega
        go_wp2_with fail
        go_loopw [20] (fun i wi => ∃ q : Nat, q ≤ L8[m].p.length ∧ i = .int .i64 (q : Int) ∧ Hid (RVA wi w7.heap.size A8 c8 L8) ∧ Below w7.heap.size w7 wi) (fun i _ => 100 - (intOf i).toNat)
        case atStart => exact ⟨0, by omega, rfl, HX, hbr⟩
        case round =>
          obtain ⟨q, hq, rfl, HXi, hbi⟩ := hrel
          have hx64 := H8p.out L8[m] (List.getElem_mem hlt)
          obtain ⟨b8, o8, rfl, d3⟩ := HXi.out.cell hlt
          obtain ⟨x, hx⟩ : ∃ x, L8[m] = x := ⟨_, rfl⟩
          have Hxm := hide (show x ∈ L8 by rw [← hx]; exact List.getElem_mem hlt)
          rw [hx] at d3 hx64 hq
          by_cases hlq : q < x.p.length
          · have zq : (q : Int) < x.p.length := by omega
            have zq0 : (0 : Int) ≤ q := by omega
            obtain ⟨gx, gc, cur, hgA, hgB, hgh, hgs⟩ := HXi.out.inner Hxm.out (by omega)
            rw [hgA] at d3
            have f0 := frozen_of_row wr gx (q * 3 + 2) _ _ hgh
            have c0' : ∃ u, wr.cell? ⟨gx, q * 3 + 2, none⟩ = some u := by
              rw [cell_of_row _ _ _ _ _ _ hgh]
              exact ⟨_, Array.getElem?_eq_getElem (by omega)⟩
            obtain ⟨u0, hu0⟩ := c0'
            have HXn := hide (HXi.out.set gx (q * 3 + 2) (.int .i64 (-7)) hgh)
            have hbn := hide (hbi.setCell (p := ⟨gx, q * 3 + 2, none⟩) hgB (.int .i64 (-7)))
            have Hx' := hide hx
            clear hgh hgs hgB hx
            go_wp2_with fail
            go_roundw
            case rel => exact ⟨q + 1, by rw [Hx'.out]; omega, by go_num, HXn, hbn.out⟩
            case measure => simp [intOf]; omega
          · have zq : ¬ (q : Int) < x.p.length := by omega
            clear hx
            go_wp2_with fail
            go_roundw
            case rel => exact ⟨m + 1, by omega, by go_num, HXi, hbi⟩
            case measure => simp [intOf]; omega
      · have zm : ¬ (m : Int) < L8.length := by omega
        have hb0r := fresh hb07 hbr
        have S2 := hide (listsame_any A3 A1 n1 n1 c3 c1 L3 L wr ((HRO7.out.below hbr).more hbr.size) ((HR1.out.below hb0r).more hb0r.size) (by rw [← Hn1.out, ← List.length_map OpL.op, HL3.out, List.length_map]) Hn1.out (twinT_big HL3.out Hbig.out) Hbig.out (by omega))
        rw [decide_eq_true HL3.out] at S2
        go_wp2_with fail
        refine S2.out.mono ?_
        rintro e wb ⟨rfl, hbb⟩
        have hb0b := fresh hb0r hbb
        go_wp2_with fail
        go_ret
        exact ⟨rfl, hb0b⟩
end Go.Proofs.Ytbjfmkdjnglgbaa
