/-
  Texts of this claim, put together: LinkAt. What each theorem asks stands in its statement.
-/
import Derived.Test.YtmkpfdcnikgokaaMb40
set_option linter.unusedVariables false
set_option linter.unusedSimpArgs false
namespace Go.Proofs.Ytmkpfdcnikgokaa
open Go.RowKit
/-- The error of a thing done at a place. -/
def atE (L : List FrL) (m : Int) : Int := if ¬ okF L then 8 else if m < 0 ∨ (L.length : Int) ≤ m then 2 else 0
theorem atE_ok {L : List FrL} {m : Int} (h : atE L m = 0) : okF L ∧ 0 ≤ m ∧ m < L.length := by
  unfold atE at h
  split at h
  · cases h
  · rename_i h1
    split at h
    · cases h
    · rename_i h2
      exact ⟨Decidable.not_not.1 h1, by omega, by omega⟩
set_option maxHeartbeats 1600000 in
set_option maxRecDepth 100000 in
/-- A place that isn't one. -/
theorem at_not (A : Option Addr) (n c : Nat) (m : Int) (F : Value) (L : List FrL) (w : World) (hr : RF w w.heap.size A L) (hn : L.length = n) (hE : atE L m ≠ 0) :
    Calls Try.prog 30 #[.slice A n c, .int .i64 m, F] w fun e w' => e = .returned (.tuple #[.slice none 0 0, .int .i64 (atE L m)]) ∧ w' = w := by
  have hP := hide (lcheck A n c L w hr hn)
  by_cases hok : okF L
  · rw [show chkF L = 0 from if_pos hok] at hP
    have hm : m < 0 ∨ (L.length : Int) ≤ m := by
      unfold atE at hE
      rw [if_neg (fun h => h hok)] at hE
      by_cases h : m < 0 ∨ (L.length : Int) ≤ m
      · exact h
      · rw [if_neg h] at hE
        exact (hE rfl).elim
    have HE := hide (show atE L m = 2 by unfold atE; rw [if_neg (fun h => h hok), if_pos hm])
    rw [hn] at hm
    clear hr hn hE hok
    by_cases h0 : m < 0
    · go_enter Try.func30, Try.ntmps30
      go_wp2_with fail
      refine hP.out.mono ?_
      rintro e w2 ⟨rfl, rfl⟩
      go_wp2_with fail
      refine bodyPost_ret (v := .tuple #[.slice none 0 0, .int .i64 2]) (by simp [results, Try.results30, go_sem]) rfl ⟨by rw [HE.out], rfl⟩
    · have h1 : (n : Int) ≤ m := by omega
      go_enter Try.func30, Try.ntmps30
      go_wp2_with fail
      refine hP.out.mono ?_
      rintro e w2 ⟨rfl, rfl⟩
      go_wp2_with fail
      refine bodyPost_ret (v := .tuple #[.slice none 0 0, .int .i64 2]) (by simp [results, Try.results30, go_sem]) rfl ⟨by rw [HE.out], rfl⟩
  · rw [show chkF L = 8 from if_neg hok] at hP
    have HE := hide (show atE L m = 8 from if_pos hok)
    clear hr hn hE hok
    go_enter Try.func30, Try.ntmps30
    go_wp2_with fail
    refine hP.out.mono ?_
    rintro e w2 ⟨rfl, rfl⟩
    go_wp2_with fail
    refine bodyPost_ret (v := .tuple #[.slice none 0 0, .int .i64 8]) (by simp [results, Try.results30, go_sem]) rfl ⟨by rw [HE.out], rfl⟩
set_option maxHeartbeats 1600000 in
set_option maxRecDepth 100000 in
theorem at_pull (A : Option Addr) (n c m gi gb B : Nat) (v0 : Value) (L : List FrL) (w : World) (hr : RF w w.heap.size A L) (hn : L.length = n) (hok : okF L) (hm : m < n) (hI : IBX w gi (m : Int)) (hBB : BBX w gb v0) (hne : gi ≠ gb) (hBg : B ≤ gb) (hBw : B ≤ w.heap.size) :
    Calls Try.prog 30 #[.slice A n c, .int .i64 (m : Int), .func (.func 31) #[] #[.pointer (some ⟨gi, 0, none⟩), .pointer (some ⟨gb, 0, none⟩)]] w fun e w' => ∃ (A' : Option Addr) (c' : Nat) (Q : List FrL) (x : FrL), e = .returned (.tuple #[.slice A' (n - 1) c', .int .i64 0]) ∧ Q.length = n - 1 ∧ Q.map FrL.b = (L.map FrL.b).eraseIdx m ∧ (L.map FrL.b)[m]? = some x.b ∧ OF w' w.heap.size A' c' Q ∧ BBX w' gb (.slice x.A x.b.length x.c) ∧ w'.ownsRow w.heap.size 5 1 (.slice x.A x.b.length x.c) x.b.length (u8s x.b) ∧ Below B w w' := by
  have hP := hide (lcheck A n c L w hr hn)
  rw [show chkF L = 0 from if_pos hok] at hP
  have hT := hide (ltwin A n c L w hr hn hok)
  have hn9 : n ≤ 64 := by rw [← hn]; exact hok.1
  have hgi : gi < w.heap.size := (Array.getElem?_eq_some_iff.1 hI).1
  have hgb : gb < w.heap.size := (Array.getElem?_eq_some_iff.1 hBB).1
  have HI := hide hI
  have HB := hide hBB
  have Hn := hide hn
  have z0 : ¬ (m : Int) < 0 := by omega
  have z1 : ¬ (n : Int) ≤ m := by omega
  clear hr hn hok hI hBB
  go_enter Try.func30, Try.ntmps30
  go_wp2_with fail
  refine hP.out.mono ?_
  rintro e w2 ⟨rfl, rfl⟩
  go_wp2_with fail
  refine hT.out.mono ?_
  rintro e w3 ⟨A3, c3, L3, rfl, hL3, hO3, hb3⟩
  have hl3 : L3.length = n := by rw [← Hn.out, ← List.length_map FrL.b, hL3, List.length_map]
  obtain ⟨A9, c9, e9, h9, -, hA⟩ := own_slice hO3.1
  simp only [Value.slice.injEq] at e9
  obtain ⟨rfl, -, rfl⟩ := e9
  rcases hA with hA | ⟨g, rfl, hg1, hg2⟩
  · omega
  have hx : ∃ x, L3[m]? = some x := ⟨_, List.getElem?_eq_getElem (by omega)⟩
  obtain ⟨x, hx⟩ := hx
  have hxb : (L.map FrL.b)[m]? = some x.b := by rw [← hL3, List.getElem?_map, hx]; rfl
  have P1 := hide (pull1_ok g c3 n m gi gb w2.heap.size B L3 x v0 w3 hO3 hl3 hm hn9 (by omega) hx (HI.out.below hb3) (HB.out.below hb3) hgi hgb hne hBg hBw)
  have HH := hide (And.intro hL3 (And.intro hl3 hxb))
  clear hL3 hl3 hO3 hx hxb h9 hT hP
  go_wp2_with fail
  refine P1.out.mono ?_
  rintro e w4 ⟨rfl, hO4, hB4, ho4, hb4⟩
  have H4 := hide (And.intro hO4 (And.intro hB4 ho4))
  have hb04 : Below B w2 w4 := (hb3.mono hBw).trans hb4
  clear hO4 hB4 ho4 P1
  go_wp2_with fail
  refine bodyPost_ret (v := .tuple #[.slice (some ⟨g, 0, none⟩) (n - 1) c3, .int .i64 0]) (by simp [results, Try.results30, go_sem]) rfl ?_
  refine ⟨some ⟨g, 0, none⟩, c3, L3.eraseIdx m, x, rfl, ?_, ?_, HH.out.2.2, H4.out.1, H4.out.2.1, H4.out.2.2, hb04⟩
  · rw [List.length_eraseIdx, if_pos (by rw [HH.out.2.1]; exact hm), HH.out.2.1]
  · rw [← HH.out.1]
    rw [List.eraseIdx_eq_take_drop_succ, List.eraseIdx_eq_take_drop_succ, List.map_append, List.map_take, List.map_drop]
/-- What Pull answers. -/
def pullV (L : List FrL) (m : Int) : List UInt8 × List (List UInt8) := if atE L m = 0 then (((L.map FrL.b)[m.toNat]?).getD [], (L.map FrL.b).eraseIdx m.toNat) else ([], [])
set_option maxHeartbeats 1600000 in
set_option maxRecDepth 100000 in
theorem lpull (A : Option Addr) (n c : Nat) (m : Int) (L : List FrL) (w : World) (hr : RF w w.heap.size A L) (hn : L.length = n) :
    Calls Try.prog 13 #[.slice A n c, .int .i64 m] w fun e w' => ∃ (A' : Option Addr) (c' : Nat) (Q : List FrL) (x : FrL), e = .returned (.tuple #[.slice x.A (List.length (α := UInt8) x.b) x.c, .slice A' (List.length (α := FrL) Q) c', .int .i64 (atE L m)]) ∧ x.b = (pullV L m).1 ∧ Q.map FrL.b = (pullV L m).2 ∧ w'.ownsRow w.heap.size 5 1 (.slice x.A x.b.length x.c) x.b.length (u8s x.b) ∧ OF w' w.heap.size A' c' Q ∧ Below w.heap.size w w' := by
  obtain ⟨w1, hw1⟩ : ∃ w1, w.alloc (.cells #[.int .i64 m] 3) = w1 := ⟨_, rfl⟩
  have I1 : IBX w1 w.heap.size m := by rw [← hw1]; exact heap_alloc_new _ _
  have hb1 : Below w.heap.size w w1 := by rw [← hw1]; exact fboxF _ _
  have hs1 : w1.heap.size = w.heap.size + 1 := by rw [← hw1]; simp
  obtain ⟨w2, hw2⟩ : ∃ w2, w1.alloc (.cells #[.slice none 0 0] 28) = w2 := ⟨_, rfl⟩
  have B2 : BBX w2 w1.heap.size (.slice none 0 0) := by rw [← hw2]; exact heap_alloc_new _ _
  have hb2' : Below w1.heap.size w1 w2 := by rw [← hw2]; exact fboxF _ _
  have hb2 := fresh hb1 hb2'
  have I2 : IBX w2 w.heap.size m := I1.below hb2'
  rw [hs1] at B2
  have hr2 : RF w2 w2.heap.size A L := (hr.below hb2).more hb2.size
  have i0 := I2.cell
  by_cases hE : atE L m = 0
  · obtain ⟨hok, h0, h1⟩ := atE_ok hE
    obtain ⟨mm, rfl⟩ : ∃ mm : Nat, m = mm := ⟨m.toNat, by omega⟩
    have hP := hide (at_pull A n c mm w.heap.size (w.heap.size + 1) w.heap.size (.slice none 0 0) L w2 hr2 hn hok (by omega) I2 B2 (by omega) (by omega) hb2.size)
    have HV := hide (show pullV L mm = (((L.map FrL.b)[mm]?).getD [], (L.map FrL.b).eraseIdx mm) by unfold pullV; rw [if_pos hE, Int.toNat_natCast])
    have HE := hide hE
    have Hw := hide (And.intro hw1 (And.intro hw2 hs1))
    clear hr hn hE hok h0 h1 hr2 I1 I2 B2 hw1 hw2
    go_enter Try.func13, Try.ntmps13
    have hmf : ∀ (fn : Fn) (first cap : Array Value) (W : World), (Instr.makeFunc fn first cap).run Try.prog W = .ok (.func fn first cap) W := fun _ _ _ _ => rfl
    go_wp2_with fail
    rw [Hw.out.1, Hw.out.2.1]
    refine hP.out.mono ?_
    rintro e w3 ⟨A3, c3, Q3, x3, rfl, hl3, hQ3, hx3, hO3, hB3, ho3, hb3⟩
    have hb03 := hb2.trans hb3
    have hs2 : w.heap.size + 1 < w2.heap.size := by rw [← Hw.out.2.1, World.size_alloc, Hw.out.2.2]; omega
    have q0 := hB3.cell
    have q1 := frozen_of_row w3 (w.heap.size + 1) 0 _ _ hB3
    obtain ⟨w4, hw4⟩ : ∃ w4, w3.setCell ⟨w.heap.size + 1, 0, none⟩ (.slice x3.A x3.b.length x3.c) = w4 := ⟨_, rfl⟩
    have hB4 : BBX w4 (w.heap.size + 1) (.slice x3.A x3.b.length x3.c) := by rw [← hw4]; exact heap_setCell_same _ _ _ _ _ _ hB3
    have hO4 : OF w4 w.heap.size A3 c3 Q3 := by rw [← hw4]; exact (hO3.set hs2 0 _).less hb2.size
    have ho4 : w4.ownsRow w.heap.size 5 1 (.slice x3.A x3.b.length x3.c) x3.b.length (u8s x3.b) := by rw [← hw4]; exact fr_less (fr_set ho3 hs2 0 _) hb2.size
    have hb04 : Below w.heap.size w w4 := by rw [← hw4]; exact hb03.setCell (by simp only; omega) _
    have q2 := hB4.cell
    have HH := hide (And.intro hl3 (And.intro hQ3 (And.intro hx3 (And.intro hO4 (And.intro ho4 hb04)))))
    clear hl3 hQ3 hx3 hO3 hB3 ho3 hb3 hB4 hO4 ho4 hb04 hb03 hP i0
    go_wp2_with fail
    try rw [hw4]
    refine bodyPost_ret (v := .tuple #[.slice x3.A x3.b.length x3.c, .slice A3 (n - 1) c3, .int .i64 0]) (by simp [results, Try.results13, go_sem, q2]) rfl ?_
    refine ⟨A3, c3, Q3, x3, by rw [HH.out.1, HE.out], ?_, ?_, HH.out.2.2.2.2.1, HH.out.2.2.2.1, HH.out.2.2.2.2.2⟩
    · rw [HV.out, HH.out.2.2.1]; rfl
    · rw [HV.out]; exact HH.out.2.1
  · have hP := hide (fun F => at_not A n c m F L w2 hr2 hn hE)
    have HV := hide (show pullV L m = ([], []) by unfold pullV; rw [if_neg hE])
    have Hw := hide (And.intro hw1 (And.intro hw2 hs1))
    have q0 := B2.cell
    have q1 := frozen_of_row w2 (w.heap.size + 1) 0 _ _ B2
    obtain ⟨w4, hw4⟩ : ∃ w4, w2.setCell ⟨w.heap.size + 1, 0, none⟩ (.slice none 0 0) = w4 := ⟨_, rfl⟩
    have hB4 : BBX w4 (w.heap.size + 1) (.slice none 0 0) := by rw [← hw4]; exact heap_setCell_same _ _ _ _ _ _ B2
    have q2 := hB4.cell
    have hb04 := hide (show Below w.heap.size w w4 by rw [← hw4]; exact hb2.setCell (by simp only; omega) _)
    clear hr hn hE hr2 I1 I2 B2 hw1 hw2 hB4
    go_enter Try.func13, Try.ntmps13
    have hmf : ∀ (fn : Fn) (first cap : Array Value) (W : World), (Instr.makeFunc fn first cap).run Try.prog W = .ok (.func fn first cap) W := fun _ _ _ _ => rfl
    go_wp2_with fail
    rw [Hw.out.1, Hw.out.2.1]
    refine (unhide hP _).mono ?_
    rintro e w3 ⟨rfl, rfl⟩
    go_wp2_with fail
    try rw [hw4]
    refine bodyPost_ret (v := .tuple #[.slice none 0 0, .slice none 0 0, .int .i64 (atE L m)]) (by simp [results, Try.results13, go_sem, q2]) rfl ?_
    exact ⟨none, 0, [], ⟨none, 0, []⟩, rfl, by rw [HV.out], by rw [HV.out]; rfl, World.ownsRow_nil _ _ _ _, OF.nil _ _, hb04.out⟩
/-- What Double answers. -/
def doubE (L : List FrL) (m : Int) : Int := if atE L m = 0 then (if L.length = 64 then 9 else 0) else atE L m
def doubV (L : List FrL) (m : Int) : List (List UInt8) := if doubE L m = 0 then L.map FrL.b ++ [((L.map FrL.b)[m.toNat]?).getD []] else []
set_option maxHeartbeats 1600000 in
set_option maxRecDepth 100000 in
theorem double1_ok (A : Option Addr) (c n m gi : Nat) (Q : List FrL) (x : FrL) (w : World) (hr : RF w w.heap.size A Q) (hn : Q.length = n) (hx : Q[m]? = some x) (hI : IBX w gi (m : Int)) :
    Calls Try.prog 58 #[.slice A n c, .pointer (some ⟨gi, 0, none⟩)] w fun e w' => ∃ (A' : Option Addr) (c' : Nat) (Q' : List FrL), e = .returned (.tuple #[.slice A' (List.length (α := FrL) Q') c', .int .i64 (pushE Q x.b)]) ∧ Q'.map FrL.b = pushL Q x.b ∧ OF w' w.heap.size A' c' Q' ∧ Below w.heap.size w w' := by
  have hmL : m < Q.length := (List.getElem?_eq_some_iff.1 hx).1
  have hxm : Q[m] = x := (List.getElem?_eq_some_iff.1 hx).2
  have z0 : (m : Int) < n := by omega
  have zm : (0 : Int) ≤ m := by omega
  obtain ⟨b0, o0, rfl, hB, hC⟩ := RF.cell hr (by omega)
  have d0 := hC m hmL
  rw [hxm] at d0
  have hP := hide (lpush (some ⟨b0, o0, none⟩) x.A n c x.b.length x.c Q x.b w hr hn (hr.2 x (by rw [← hxm]; exact List.getElem_mem hmL)) rfl)
  have i0 := hI.cell
  clear hr hn hx hI hC hxm
  go_enter Try.func58, Try.ntmps58
  go_wp2_with fail
  refine hP.out.mono ?_
  rintro e w2 ⟨A2, c2, L2, rfl, hL2, hO2, hb2⟩
  have HH := hide (And.intro hL2 hO2)
  clear hL2 hO2 i0 d0 hP
  go_wp2_with fail
  refine bodyPost_ret (v := .tuple #[.slice A2 L2.length c2, .int .i64 (pushE Q x.b)]) (by simp [results, Try.results58, go_sem]) rfl ?_
  exact ⟨A2, c2, L2, rfl, HH.out.1, HH.out.2, hb2⟩
theorem okF_b {L M : List FrL} (h : L.map FrL.b = M.map FrL.b) : okF L ↔ okF M := by
  have e : ∀ K : List FrL, okF K ↔ (K.map FrL.b).length ≤ 64 ∧ ∀ b ∈ K.map FrL.b, b.length ≤ 20000 := fun K => by
    unfold okF
    rw [List.length_map]
    simp only [List.mem_map, forall_exists_index, and_imp, forall_apply_eq_imp_iff₂]
  rw [e L, e M, h]
set_option maxHeartbeats 1600000 in
set_option maxRecDepth 100000 in
theorem at_double (A : Option Addr) (n c m gi : Nat) (L : List FrL) (w : World) (hr : RF w w.heap.size A L) (hn : L.length = n) (hok : okF L) (hm : m < n) (hI : IBX w gi (m : Int)) :
    Calls Try.prog 30 #[.slice A n c, .int .i64 (m : Int), .func (.func 58) #[] #[.pointer (some ⟨gi, 0, none⟩)]] w fun e w' => ∃ (A' : Option Addr) (c' : Nat) (Q : List FrL), e = .returned (.tuple #[.slice A' (List.length (α := FrL) Q) c', .int .i64 (doubE L m)]) ∧ Q.map FrL.b = doubV L m ∧ OF w' w.heap.size A' c' Q ∧ Below w.heap.size w w' := by
  have hP := hide (lcheck A n c L w hr hn)
  rw [show chkF L = 0 from if_pos hok] at hP
  have hT := hide (ltwin A n c L w hr hn hok)
  have HI := hide hI
  have Hn := hide hn
  have hA0 : atE L m = 0 := by unfold atE; rw [if_neg (fun h => h hok), if_neg (by omega)]
  have z0 : ¬ (m : Int) < 0 := by omega
  have z1 : ¬ (n : Int) ≤ m := by omega
  have Hok := hide (And.intro hok hA0)
  clear hr hn hok hI hA0
  go_enter Try.func30, Try.ntmps30
  go_wp2_with fail
  refine hP.out.mono ?_
  rintro e w2 ⟨rfl, rfl⟩
  go_wp2_with fail
  refine hT.out.mono ?_
  rintro e w3 ⟨A3, c3, L3, rfl, hL3, hO3, hb3⟩
  have hl3 : L3.length = n := by rw [← Hn.out, ← List.length_map FrL.b, hL3, List.length_map]
  obtain ⟨x, hx⟩ : ∃ x, L3[m]? = some x := ⟨_, List.getElem?_eq_getElem (by omega)⟩
  have hxb : (L.map FrL.b)[m]? = some x.b := by rw [← hL3, List.getElem?_map, hx]; rfl
  have hxs : x.b.length ≤ 20000 := ((okF_b hL3).2 Hok.out.1).2 x (List.mem_of_getElem? hx)
  have hE : pushE L3 x.b = doubE L m := by
    unfold pushE doubE
    rw [if_neg (fun h => h ((okF_b hL3).2 Hok.out.1)), if_neg (by omega), if_pos Hok.out.2, hl3, Hn.out]
  have hV : pushL L3 x.b = doubV L m := by
    unfold pushL doubV
    rw [hE, hL3, Int.toNat_natCast, hxb]
    rfl
  have P1 := hide (double1_ok A3 c3 n m gi L3 x w3 hO3.rf hl3 hx (HI.out.below hb3))
  rw [hE, hV] at P1
  clear hL3 hl3 hO3 hx hxb hT hP hE hV hxs
  go_wp2_with fail
  refine P1.out.mono ?_
  rintro e w4 ⟨A4, c4, L4, rfl, hL4, hO4, hb4⟩
  have H4 := hide (And.intro hL4 hO4)
  have hb04 := fresh hb3 hb4
  clear hL4 hO4 P1
  go_wp2_with fail
  refine bodyPost_ret (v := .tuple #[.slice A4 L4.length c4, .int .i64 (doubE L m)]) (by simp [results, Try.results30, go_sem]) rfl ?_
  exact ⟨A4, c4, L4, rfl, H4.out.1, H4.out.2.less hb3.size, hb04⟩
set_option maxHeartbeats 1600000 in
set_option maxRecDepth 100000 in
theorem ldouble (A : Option Addr) (n c : Nat) (m : Int) (L : List FrL) (w : World) (hr : RF w w.heap.size A L) (hn : L.length = n) :
    Calls Try.prog 26 #[.slice A n c, .int .i64 m] w fun e w' => ∃ (A' : Option Addr) (c' : Nat) (Q : List FrL), e = .returned (.tuple #[.slice A' (List.length (α := FrL) Q) c', .int .i64 (doubE L m)]) ∧ Q.map FrL.b = doubV L m ∧ OF w' w.heap.size A' c' Q ∧ Below w.heap.size w w' := by
  obtain ⟨w1, hw1⟩ : ∃ w1, w.alloc (.cells #[.int .i64 m] 3) = w1 := ⟨_, rfl⟩
  have I1 : IBX w1 w.heap.size m := by rw [← hw1]; exact heap_alloc_new _ _
  have hb1 : Below w.heap.size w w1 := by rw [← hw1]; exact fboxF _ _
  have hr1 : RF w1 w1.heap.size A L := (hr.below hb1).more hb1.size
  have i0 := I1.cell
  have hmf : ∀ (fn : Fn) (first cap : Array Value) (W : World), (Instr.makeFunc fn first cap).run Try.prog W = .ok (.func fn first cap) W := fun _ _ _ _ => rfl
  by_cases hE : atE L m = 0
  · obtain ⟨hok, h0, h1⟩ := atE_ok hE
    obtain ⟨mm, rfl⟩ : ∃ mm : Nat, m = mm := ⟨m.toNat, by omega⟩
    have hP := hide (at_double A n c mm w.heap.size L w1 hr1 hn hok (by omega) I1)
    have Hw := hide hw1
    clear hr hn hE hok h0 h1 hr1 I1 hw1
    go_enter Try.func26, Try.ntmps26
    go_wp2_with fail
    try rw [Hw.out]
    refine hP.out.mono ?_
    rintro e w3 ⟨A3, c3, Q3, rfl, hQ3, hO3, hb3⟩
    have HH := hide (And.intro hQ3 hO3)
    have hb03 := fresh hb1 hb3
    clear hQ3 hO3 hP i0
    go_wp2_with fail
    refine bodyPost_ret (v := .tuple #[.slice A3 Q3.length c3, .int .i64 (doubE L mm)]) (by simp [results, Try.results26, go_sem]) rfl ?_
    exact ⟨A3, c3, Q3, rfl, HH.out.1, HH.out.2.less hb1.size, hb03⟩
  · have hP := hide (fun F => at_not A n c m F L w1 hr1 hn hE)
    have hD : doubE L m = atE L m := if_neg hE
    have HV := hide (And.intro hD (show doubV L m = [] by unfold doubV; rw [if_neg (by rw [hD]; exact hE)]))
    have Hw := hide hw1
    clear hr hn hE hr1 I1 hw1 hD
    go_enter Try.func26, Try.ntmps26
    go_wp2_with fail
    try rw [Hw.out]
    refine (unhide hP _).mono ?_
    rintro e w3 ⟨rfl, rfl⟩
    go_wp2_with fail
    refine bodyPost_ret (v := .tuple #[.slice none 0 0, .int .i64 (atE L m)]) (by simp [results, Try.results26, go_sem]) rfl ?_
    exact ⟨none, 0, [], by rw [HV.out.1]; rfl, by rw [HV.out.2]; rfl, OF.nil _ _, hb1⟩
end Go.Proofs.Ytmkpfdcnikgokaa
