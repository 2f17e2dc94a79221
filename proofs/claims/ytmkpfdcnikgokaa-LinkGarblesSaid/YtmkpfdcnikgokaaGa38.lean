/-
  Texts of this claim, put together: LinkGarble2, LinkAlive. What each theorem asks stands in its statement.
-/
import Derived.Lib.SlBytesConst
import Derived.Test.YtmkpfdcnikgokaaGa7
import Derived.Test.YtmkpfdcnikgokaaGa37
set_option linter.unusedVariables false
set_option linter.unusedSimpArgs false
namespace Go.Proofs.Ytmkpfdcnikgokaa
open Go.RowKit
set_option maxHeartbeats 1600000 in
set_option maxRecDepth 100000 in
theorem at_garble (A : Option Addr) (n c m gi gb bn bc : Nat) (bA : Option Addr) (b : List UInt8) (L : List FrL) (w : World) (hr : RF w w.heap.size A L) (hn : L.length = n) (hok : okF L) (hm : m < n) (hI : IBX w gi (m : Int)) (hBB : BBX w gb (.slice bA bn bc)) (hrb : RB w w.heap.size bA b) (hbn : b.length = bn) (hbc : bn ≤ bc) :
    Calls Try.prog 30 #[.slice A n c, .int .i64 (m : Int), .func (.func 32) #[] #[.pointer (some ⟨gb, 0, none⟩), .pointer (some ⟨gi, 0, none⟩)]] w fun e w' => ∃ (A' : Option Addr) (c' : Nat) (Q : List FrL), e = .returned (.tuple #[.slice A' (List.length (α := FrL) Q) c', .int .i64 (gar1E b)]) ∧ Q.map FrL.b = gar1V (L.map FrL.b) m b ∧ OF w' w.heap.size A' c' Q ∧ Below w.heap.size w w' := by
  have hP := hide (lcheck A n c L w hr hn)
  rw [show chkF L = 0 from if_pos hok] at hP
  have hT := hide (ltwin A n c L w hr hn hok)
  have hn9 : n ≤ 64 := by rw [← hn]; exact hok.1
  have hgi : gi < w.heap.size := (Array.getElem?_eq_some_iff.1 hI).1
  have hgb : gb < w.heap.size := (Array.getElem?_eq_some_iff.1 hBB).1
  have HI := hide hI
  have HB := hide hBB
  have Hn := hide hn
  have HR := hide hrb
  have Hbn := hide hbn
  have z0 : ¬ (m : Int) < 0 := by omega
  have z1 : ¬ (n : Int) ≤ m := by omega
  clear hr hn hok hI hBB hrb hbn
  go_enter Try.func30, Try.ntmps30
  go_wp2_with fail
  refine hP.out.mono ?_
  rintro e w2 ⟨rfl, rfl⟩
  go_wp2_with fail
  refine hT.out.mono ?_
  rintro e w3 ⟨A3, c3, L3, rfl, hL3, hO3, hb3⟩
  have hl3 : L3.length = n := by rw [← Hn.out, ← List.length_map FrL.b, hL3, List.length_map]
  obtain ⟨A9, c9, e9, h9, -, hA⟩ := own_slice hO3.1
  simp only [Value.slice.injEq] at e9
  obtain ⟨rfl, -, rfl⟩ := e9
  rcases hA with hA | ⟨g, rfl, hg1, hg2⟩
  · omega
  have P1 := hide (garble1_ok g c3 n m gi gb w2.heap.size w2.heap.size bn bc bA b L3 w3 hO3 hl3 hm hn9 (HI.out.below hb3) (HB.out.below hb3) hgi hgb ((RD.below HR.out hb3).more hb3.size) Hbn.out hbc (Nat.le_refl _) hb3.size hb3.size)
  rw [hL3] at P1
  clear hL3 hl3 hO3 h9 hT hP
  go_wp2_with fail
  refine P1.out.mono ?_
  rintro e w4 ⟨A4, c4, L4, rfl, hL4, hO4, hb4⟩
  have H4 := hide (And.intro hL4 hO4)
  have hb04 : Below w2.heap.size w2 w4 := hb3.trans hb4
  clear hL4 hO4 P1
  go_wp2_with fail
  refine bodyPost_ret (v := .tuple #[.slice A4 L4.length c4, .int .i64 (gar1E b)]) (by simp [results, Try.results30, go_sem]) rfl ?_
  exact ⟨A4, c4, L4, rfl, H4.out.1, H4.out.2, hb04⟩
/-- What Garble answers. -/
def garE (L : List FrL) (m : Int) (b : List UInt8) : Int := if atE L m = 0 then gar1E b else atE L m
def garV (L : List FrL) (m : Int) (b : List UInt8) : List (List UInt8) := if atE L m = 0 then gar1V (L.map FrL.b) m.toNat b else []
set_option maxHeartbeats 1600000 in
set_option maxRecDepth 100000 in
theorem lgarble (A bA : Option Addr) (n c bn bc : Nat) (m : Int) (b : List UInt8) (L : List FrL) (w : World) (hr : RF w w.heap.size A L) (hn : L.length = n) (hrb : RB w w.heap.size bA b) (hbn : b.length = bn) (hbc : bn ≤ bc) :
    Calls Try.prog 14 #[.slice A n c, .int .i64 m, .slice bA bn bc] w fun e w' => ∃ (A' : Option Addr) (c' : Nat) (Q : List FrL), e = .returned (.tuple #[.slice A' (List.length (α := FrL) Q) c', .int .i64 (garE L m b)]) ∧ Q.map FrL.b = garV L m b ∧ OF w' w.heap.size A' c' Q ∧ Below w.heap.size w w' := by
  obtain ⟨w1, hw1⟩ : ∃ w1, w.alloc (.cells #[.int .i64 m] 3) = w1 := ⟨_, rfl⟩
  have I1 : IBX w1 w.heap.size m := by rw [← hw1]; exact heap_alloc_new _ _
  have hb1 : Below w.heap.size w w1 := by rw [← hw1]; exact fboxF _ _
  have hs1 : w1.heap.size = w.heap.size + 1 := by rw [← hw1]; simp
  obtain ⟨w2, hw2⟩ : ∃ w2, w1.alloc (.cells #[.slice bA bn bc] 28) = w2 := ⟨_, rfl⟩
  have B2 : BBX w2 w1.heap.size (.slice bA bn bc) := by rw [← hw2]; exact heap_alloc_new _ _
  have hb2' : Below w1.heap.size w1 w2 := by rw [← hw2]; exact fboxF _ _
  have hb2 := fresh hb1 hb2'
  have I2 : IBX w2 w.heap.size m := I1.below hb2'
  rw [hs1] at B2
  have hr2 : RF w2 w2.heap.size A L := (hr.below hb2).more hb2.size
  have hrb2 : RB w2 w2.heap.size bA b := (RD.below hrb hb2).more hb2.size
  have i0 := I2.cell
  have hmf : ∀ (fn : Fn) (first cap : Array Value) (W : World), (Instr.makeFunc fn first cap).run Try.prog W = .ok (.func fn first cap) W := fun _ _ _ _ => rfl
  by_cases hE : atE L m = 0
  · obtain ⟨hok, h0, h1⟩ := atE_ok hE
    obtain ⟨mm, rfl⟩ : ∃ mm : Nat, m = mm := ⟨m.toNat, by omega⟩
    have hP := hide (at_garble A n c mm w.heap.size (w.heap.size + 1) bn bc bA b L w2 hr2 hn hok (by omega) I2 B2 hrb2 hbn hbc)
    have HE := hide (show garE L mm b = gar1E b from if_pos hE)
    have HV := hide (show garV L mm b = gar1V (L.map FrL.b) mm b by unfold garV; rw [if_pos hE, Int.toNat_natCast])
    have Hw := hide (And.intro hw1 (And.intro hw2 hs1))
    clear hr hn hE hok h0 h1 hr2 I1 I2 B2 hw1 hw2 hrb hbn hbc hrb2
    go_enter Try.func14, Try.ntmps14
    go_wp2_with fail
    rw [Hw.out.1, Hw.out.2.1]
    refine hP.out.mono ?_
    rintro e w3 ⟨A3, c3, Q3, rfl, hQ3, hO3, hb3⟩
    have HH := hide (And.intro hQ3 hO3)
    have hb03 := fresh hb2 hb3
    clear hQ3 hO3 hP i0
    go_wp2_with fail
    refine bodyPost_ret (v := .tuple #[.slice A3 Q3.length c3, .int .i64 (gar1E b)]) (by simp [results, Try.results14, go_sem]) rfl ?_
    exact ⟨A3, c3, Q3, by rw [HE.out], by rw [HV.out]; exact HH.out.1, HH.out.2.less hb2.size, hb03⟩
  · have hP := hide (fun F => at_not A n c m F L w2 hr2 hn hE)
    have HE := hide (show garE L m b = atE L m from if_neg hE)
    have HV := hide (show garV L m b = [] from if_neg hE)
    have Hw := hide (And.intro hw1 (And.intro hw2 hs1))
    clear hr hn hE hr2 I1 I2 B2 hw1 hw2 hrb hbn hbc hrb2
    go_enter Try.func14, Try.ntmps14
    go_wp2_with fail
    rw [Hw.out.1, Hw.out.2.1]
    refine (unhide hP _).mono ?_
    rintro e w3 ⟨rfl, rfl⟩
    go_wp2_with fail
    refine bodyPost_ret (v := .tuple #[.slice none 0 0, .int .i64 (atE L m)]) (by simp [results, Try.results14, go_sem]) rfl ?_
    exact ⟨none, 0, [], by rw [HE.out]; rfl, by rw [HV.out]; rfl, OF.nil _ _, hb2⟩
end Go.Proofs.Ytmkpfdcnikgokaa
namespace Go.Proofs.Ytmkpfdcnikgokaa
open Go.RowKit
/-- What great's answer says. -/
def greatF (n : Nat) (v : Value) : Prop := ∃ g, v = .bool g ∧ (g = false → n ≤ 100)
set_option maxHeartbeats 1600000 in
set_option maxRecDepth 100000 in
theorem lgreat (A : Option Addr) (n c : Nat) (L : List FrL) (w : World) (hr : RF w w.heap.size A L) (hn : L.length = n) :
    Calls Try.prog 10 #[.slice A n c] w fun e w' => ∃ v, e = .returned v ∧ greatF n v ∧ w' = w := by
  have HR := hide hr
  have Hn := hide hn
  clear hr hn
  go_enter Try.func10, Try.ntmps10
  go_wp2_with fail
  go_loopw [3, 4] (fun s i wr => ∃ (j : Nat) (sv : Int), j ≤ n ∧ j ≤ 100 ∧ i = .int .i64 (j : Int) ∧ s = .int .i64 sv ∧ 0 ≤ sv ∧ sv ≤ 30000 * j ∧ wr = w) (fun _ i _ => n - (intOf i).toNat)
  case atStart => exact ⟨0, 0, by omega, by omega, rfl, rfl, by omega, by omega, rfl⟩
  case round =>
    obtain ⟨j, sv, hj, h100, rfl, rfl, hs0, hs1, rfl⟩ := hrel
    by_cases hlt : j < n ∧ j < 100
    · obtain ⟨hlt, h1⟩ := hlt
      have hltL : j < L.length := by rw [Hn.out]; exact hlt
      have z0 : (j : Int) < n := by omega
      have z1 : (j : Int) < 100 := by omega
      have zj : (0 : Int) ≤ j := by omega
      obtain ⟨bb, bo, rfl, hB, hC⟩ := RF.cell HR.out (by omega)
      have d0 := hC j hltL
      obtain ⟨x, hx⟩ : ∃ x, L[j] = x := ⟨_, rfl⟩
      rw [hx] at d0
      clear hC hx
      go_wp2_with fail
      refine ⟨⟨j + 1, _, by omega, by omega, by go_num, rfl, ?_, ?_, by first | rfl | trivial⟩, by simp [intOf]; omega⟩
      · first | omega | (split <;> omega)
      · first | omega | (split <;> omega)
    · by_cases hl : (j : Int) < n
      · have z1 : ¬ (j : Int) < 100 := by omega
        go_wp2_with fail
        all_goals
          go_ret
          refine ⟨_, rfl, ⟨_, rfl, fun h => ?_⟩, (by first | rfl | trivial)⟩
          simp at h
        try omega
      · go_wp2_with fail
        all_goals
          go_ret
          refine ⟨_, rfl, ⟨_, rfl, fun h => ?_⟩, (by first | rfl | trivial)⟩
          simp at h
        try omega
theorem okF_of {L : List FrL} {K : List (List UInt8)} (h : L.map FrL.b = K) (h1 : K.length ≤ 64) (h2 : ∀ b ∈ K, b.length ≤ 20000) : okF L := by
  refine ⟨by rw [← List.length_map FrL.b, h]; exact h1, fun x hx => h2 x.b ?_⟩
  rw [← h]
  exact List.mem_map_of_mem hx
theorem push_of {L : List FrL} {K : List (List UInt8)} {b : List UInt8} (h : L.map FrL.b = K) (h1 : K.length < 64) (h2 : ∀ b ∈ K, b.length ≤ 20000) (hb : b.length ≤ 20000) : pushE L b = 0 ∧ pushL L b = K ++ [b] := by
  have hl : L.length = K.length := by rw [← h, List.length_map]
  have hE : pushE L b = 0 := by
    unfold pushE
    rw [if_neg (fun k => k (okF_of h (by omega) h2)), if_neg (by omega), if_neg (by omega)]
  exact ⟨hE, by unfold pushL; rw [if_pos hE, h]⟩
theorem atE_of {L : List FrL} {K : List (List UInt8)} {m : Nat} (h : L.map FrL.b = K) (h1 : K.length ≤ 64) (h2 : ∀ b ∈ K, b.length ≤ 20000) (hm : m < K.length) : atE L m = 0 ∧ pullV L m = ((K[m]?).getD [], K.eraseIdx m) := by
  have hl : L.length = K.length := by rw [← h, List.length_map]
  have hE : atE L m = 0 := by
    unfold atE
    rw [if_neg (fun k => k (okF_of h h1 h2)), if_neg (by omega)]
  refine ⟨hE, ?_⟩
  unfold pullV
  rw [if_pos hE, h, Int.toNat_natCast]
theorem two_small : ∀ b ∈ [[(97 : UInt8)], [98]], b.length ≤ 20000 := by decide
set_option maxHeartbeats 1600000 in
set_option maxRecDepth 100000 in
theorem lboth (w : World) : Calls Try.prog 24 #[] w fun e w' => ∃ (A : Option Addr) (c : Nat) (Q : List FrL), e = .returned (.tuple #[.slice A 2 c, .bool true]) ∧ Q.map FrL.b = [[97], [98]] ∧ OF w' w.heap.size A c Q ∧ Below w.heap.size w w' := by
  have P1 := hide (fun (W : World) => lpush none (some ⟨W.heap.size, 0, none⟩) 0 0 1 1 [] [97] (W.alloc (.cells #[.int .u8 97] 5 (1, 2))) (RF.nil _ _ _) rfl (RB.row (heap_alloc_new _ _) rfl) rfl)
  have P2 := hide (fun (W : World) (A : Option Addr) (c : Nat) (Q : List FrL) (h : RF W W.heap.size A Q) (hn : Q.length = 1) => lpush A (some ⟨W.heap.size, 0, none⟩) 1 c 1 1 Q [98] (W.alloc (.cells #[.int .u8 98] 5 (1, 2))) ((h.below (fboxF _ _)).more (fboxF W _).size) hn (RB.row (heap_alloc_new _ _) rfl) rfl)
  obtain ⟨e1, e2⟩ := push_of (L := []) (K := []) (b := [97]) rfl (by decide) (fun b hb => by cases hb) (by decide)
  rw [e1, e2] at P1
  clear e1 e2
  have kc := fun (w : World) (C : Array Value) (n c : Nat) => Lib.run_convert_bytes_const (P := Try.prog) w 28 5 C n c Try.underlying28 Try.underlying5
  go_enter Try.func24, Try.ntmps24
  go_wp2_with fail
  refine (unhide P1 w).mono ?_
  rintro e w2 ⟨A2, c2, L2, rfl, hL2, hO2, hb2'⟩
  have hb2 : Below w.heap.size w w2 := fresh (fboxF w _) hb2'
  have hl2 : L2.length = 1 := by rw [← List.length_map FrL.b, hL2]; rfl
  rw [hl2]
  obtain ⟨e1, e2⟩ := push_of (b := [98]) hL2 (by decide) (by decide) (by decide)
  have P3 := hide (unhide P2 w2 A2 c2 L2 hO2.rf hl2)
  rw [e1, e2] at P3
  clear e1 e2 hL2 hO2 hl2 hb2' P1 P2
  go_wp2_with fail
  refine P3.out.mono ?_
  rintro e w3 ⟨A3, c3, L3, rfl, hL3, hO3, hb3'⟩
  have hb3 : Below w2.heap.size w2 w3 := fresh (fboxF w2 _) hb3'
  have hb03 := fresh hb2 hb3
  have hl3 : L3.length = 2 := by rw [← List.length_map FrL.b, hL3]; rfl
  rw [hl3]
  have HH := hide (And.intro hL3 (hO3.less (Nat.le_trans hb2.size (fboxF w2 _).size)))
  clear hL3 hO3 hl3 hb3' P3
  go_wp2_with fail
  refine bodyPost_ret (v := .tuple #[.slice A3 2 c3, .bool true]) (by simp [results, Try.results24, go_sem]) rfl ?_
  exact ⟨A3, c3, L3, rfl, HH.out.1, HH.out.2, hb03⟩
/-- Strings in a row. -/
def strs (W : List (List UInt8)) : List Value := W.map fun b => .string ⟨b.toArray⟩
set_option maxHeartbeats 1600000 in
set_option maxRecDepth 100000 in
theorem lare (A B : Option Addr) (n m c d : Nat) (L : List FrL) (W : List (List UInt8)) (w : World) (hr : RF w w.heap.size A L) (hs : RD w w.heap.size 1 B m (strs W)) (hn : L.length = n) (hm : W.length = m) (hn9 : n < 1000000) :
    Calls Try.prog 25 #[.slice A n c, .slice B m d] w fun e w' => e = .returned (.bool (decide (L.map FrL.b = W))) ∧ Below w.heap.size w w' := by
  have HR := hide hr
  have HS := hide hs
  have Hnm := hide (And.intro hn hm)
  clear hr hs
  by_cases hne : (n : Int) = (m : Int)
  · have hnm : n = m := by omega
    have hbe : ((n : Int) == (m : Int)) = true := by simpa using hne
    have hbn : ((n : Int) != (m : Int)) = false := by simpa using hne
    have E := hide hnm
    clear hne hn hm hnm
    go_enter Try.func25, Try.ntmps25
    go_wp2_with fail
    go_loopw [5] (fun i wr => ∃ j : Nat, j ≤ n ∧ i = .int .i64 (j : Int) ∧ Hid ((L.take j).map FrL.b = W.take j) ∧ Below w.heap.size w wr) (fun i _ => n - (intOf i).toNat)
    case atStart => exact ⟨0, by omega, rfl, hide rfl, Below.refl _ _⟩
    case round =>
      obtain ⟨j, hj, rfl, hT, hb⟩ := hrel
      by_cases hlt : j < n
      · have z0 : (j : Int) < n := by omega
        have z1 : (j : Int) < m := by have := E.out; omega
        have zj : (0 : Int) ≤ j := by omega
        have hltL : j < L.length := by rw [Hnm.out.1]; exact hlt
        have hltM : j < W.length := by rw [Hnm.out.2, ← E.out]; exact hlt
        obtain ⟨b0, o0, rfl, hB0, hC0⟩ := RF.cell (HR.out.below hb) (by omega)
        obtain ⟨b1, o1, rfl, hB1, hC1⟩ := (RD.below HS.out hb).2 (by rw [← E.out]; omega)
        obtain ⟨x, hx⟩ : ∃ x, L[j] = x := ⟨_, rfl⟩
        obtain ⟨y, hy⟩ : ∃ y, W[j] = y := ⟨_, rfl⟩
        have d0 := hC0 j hltL
        have e0 := hC1 j (.string ⟨y.toArray⟩) (by simp [strs, hltM, hy])
        rw [hx] at d0
        have hxm : x ∈ L := by rw [← hx]; exact List.getElem_mem hltL
        have s1 := fun u => conv_bytes (P := Try.prog) (show RB (past wr u) (past wr u).heap.size x.A x.b from (RD.below (((HR.out.below hb).more hb.size).2 x hxm) (below_past wr u)).more (below_past wr u).size) Try.underlying28 Try.underlying5 Try.underlying9 x.c
        have T0 := hide (show (L.take (j + 1)).map FrL.b = (L.take j).map FrL.b ++ [x.b] by rw [List.take_succ_eq_append_getElem hltL, hx, List.map_append]; rfl)
        have T1 := hide (show W.take (j + 1) = W.take j ++ [y] by rw [List.take_succ_eq_append_getElem hltM, hy])
        have X0 := hide (And.intro hx hy)
        have hB0r : b0 < wr.heap.size := by have := hb.size; omega
        have hB1r : b1 < wr.heap.size := by have := hb.size; omega
        clear hC0 hC1 hxm hx hy
        by_cases hxy : x.b = y
        · have hst : (x.b == y) = true := by simpa using hxy
          have Hxy := hide hxy
          clear hxy
          go_wp2_with fail
          refine wp_region_wq (by kernel_rfl) (by kernel_rfl) ?_
          repeat (
            refine WQ.step (fun K hK => ?_)
            go_simp
            refine hK _ ?_
            clear hK K)
          refine WQ.nil ?_
          intro u
          have hb3 := fresh hb (below_past wr u)
          clear s1 d0 e0
          go_wp2_with fail
          go_roundw
          case rel =>
            refine ⟨j + 1, by omega, by go_num, hide ?_, hb3⟩
            rw [T0.out, T1.out, hT.out, Hxy.out]
          case measure => simp [intOf]; omega
        · have hst : (x.b == y) = false := by simpa using hxy
          have hf := hide (show decide (L.map FrL.b = W) = false from decide_eq_false fun h => by
            have h1 := congrArg (fun l => l[j]?) h
            simp only [List.getElem?_map, List.getElem?_eq_getElem hltL, List.getElem?_eq_getElem hltM, X0.out.1, X0.out.2, Option.map_some, Option.some.injEq] at h1
            exact hxy h1)
          clear hxy
          go_wp2_with fail
          refine wp_region_wq (by kernel_rfl) (by kernel_rfl) ?_
          repeat (
            refine WQ.step (fun K hK => ?_)
            go_simp
            refine hK _ ?_
            clear hK K)
          refine WQ.nil ?_
          intro u
          have hb3 := fresh hb (below_past wr u)
          clear s1 d0 e0
          go_wp2_with fail
          go_ret
          exact ⟨ret_bool hf.out.symm, hb3⟩
      · have z0 : ¬ (j : Int) < n := by omega
        have fin := hide (show decide (L.map FrL.b = W) = true by
          have h1 := hT.out
          rw [List.take_of_length_le (by rw [Hnm.out.1]; omega), List.take_of_length_le (by rw [Hnm.out.2, ← E.out]; omega)] at h1
          exact decide_eq_true h1)
        go_wp2_with fail
        go_ret
        exact ⟨ret_bool fin.out.symm, hb⟩
  · have hbe : ((n : Int) == (m : Int)) = false := by simpa using hne
    have hbn : ((n : Int) != (m : Int)) = true := by simpa using hne
    have fin := hide (show decide (L.map FrL.b = W) = false by
      rw [decide_eq_false_iff_not]
      intro e
      have := congrArg List.length e
      rw [List.length_map, hn, hm] at this
      exact hne (by rw [this]))
    clear hne hn hm
    go_enter Try.func25, Try.ntmps25
    go_wp2_with fail
    go_ret
    exact ⟨ret_bool fin.out.symm, Below.refl _ _⟩
set_option maxHeartbeats 1600000 in
set_option maxRecDepth 100000 in
theorem lalive (w : World) : Calls Try.prog 9 #[] w fun e w' => e = .returned (.bool true) ∧ Below w.heap.size w w' := by
  go_enter Try.func9, Try.ntmps9
  go_wp2_with fail
  refine (lboth w).mono ?_
  rintro e w1 ⟨A1, c1, Q, rfl, hQ, hO, hb1⟩
  have hl : Q.length = 2 := by rw [← List.length_map FrL.b, hQ]; rfl
  obtain ⟨e1, e2⟩ := atE_of (m := 0) hQ (by decide) two_small (by decide)
  have P1 := hide (lpull A1 2 c1 ((0 : Nat) : Int) Q w1 hO.rf hl)
  rw [e1, e2] at P1
  have hD : doubE Q ((0 : Nat) : Int) = 0 := by unfold doubE; rw [if_pos e1, if_neg (by omega)]
  have P2 := hide (fun (W : World) (h : Below w1.heap.size w1 W) => ldouble A1 2 c1 ((0 : Nat) : Int) Q W ((hO.rf.below h).more h.size) hl)
  have hV : doubV Q ((0 : Nat) : Int) = [[97], [98], [97]] := by unfold doubV; rw [if_pos hD, hQ]; rfl
  rw [hD, hV] at P2
  clear e1 e2 hD hV hl hQ hO
  simp only [Int.natCast_zero] at P1 P2
  go_wp2_with fail
  refine P1.out.mono ?_
  rintro e w2 ⟨A2, c2, R, x, rfl, hx, hR, ho, hOR, hb2⟩
  have hx' : x.b = [97] := hx
  have hR' : R.map FrL.b = [[98]] := hR
  have hb02 := fresh hb1 hb2
  have hlR : R.length = 1 := by rw [← List.length_map FrL.b, hR']; rfl
  rw [hlR, show x.b.length = 1 by rw [hx']; rfl]
  have HH := hide (And.intro hx' (And.intro hR' (And.intro hlR (And.intro ho hOR))))
  clear hx hR ho hOR hx' hR' hlR P1
  go_wp2_with fail
  refine (unhide P2 w2 hb2).mono ?_
  rintro e w3 ⟨A3, c3, D, rfl, hD, hOD, hb3⟩
  have hb03 := fresh hb02 hb3
  have hlD : D.length = 3 := by rw [← List.length_map FrL.b, hD]; rfl
  rw [hlD]
  have HD := hide (And.intro hD (And.intro hlD hOD))
  have k1 := conv_bytes (P := Try.prog) (show RB w3 w3.heap.size x.A [97] from by
    have h := RD.of_own HH.out.2.2.2.1
    rw [HH.out.1] at h
    exact (RD.below h hb3).more hb3.size) Try.underlying28 Try.underlying5 Try.underlying9 x.c
  simp only [List.length_cons, List.length_nil, Nat.reduceAdd] at k1
  clear hD hOD hlD P2
  have A1' := hide (fun (W : World) (h : Below w3.heap.size w3 W) => lare A2 (some ⟨W.heap.size, 0, none⟩) 1 1 c2 1 R [[98]] (W.alloc (.cells #[.string ⟨#[98]⟩] 9)) (by
    have h1 := fresh (fresh hb3 h) (fboxF W (.cells #[.string ⟨#[98]⟩] 9))
    exact (HH.out.2.2.2.2.rf.below h1).more h1.size) (by
    refine ⟨rfl, fun _ => ⟨_, _, rfl, by rw [World.size_alloc]; omega, fun j u hu => ?_⟩⟩
    rw [Nat.zero_add, World.cell?_alloc_new, ← Array.getElem?_toList]
    exact hu) HH.out.2.2.1 rfl (by decide))
  have A2' := hide (fun (W : World) (h : Below w3.heap.size w3 W) => lare A3 (some ⟨W.heap.size, 0, none⟩) 3 3 c3 3 D [[97], [98], [97]] (W.alloc (.cells #[.string ⟨#[97]⟩, .string ⟨#[98]⟩, .string ⟨#[97]⟩] 9)) (by
    have h1 := fresh h (fboxF W (.cells #[.string ⟨#[97]⟩, .string ⟨#[98]⟩, .string ⟨#[97]⟩] 9))
    exact (HD.out.2.2.rf.below h1).more h1.size) (by
    refine ⟨rfl, fun _ => ⟨_, _, rfl, by rw [World.size_alloc]; omega, fun j u hu => ?_⟩⟩
    rw [Nat.zero_add, World.cell?_alloc_new, ← Array.getElem?_toList]
    exact hu) HD.out.2.1 rfl (by decide))
  rw [decide_eq_true HH.out.2.1] at A1'
  rw [decide_eq_true HD.out.1] at A2'
  go_wp2_with fail
  refine (unhide A1' w3 (Below.refl _ _)).mono ?_
  rintro e w4 ⟨rfl, hb4'⟩
  have hb4 : Below w3.heap.size w3 w4 := fresh (fboxF w3 _) hb4'
  have hb04 := fresh hb03 hb4
  clear k1 hb4'
  go_wp2_with fail
  refine (unhide A2' w4 hb4).mono ?_
  rintro e w5 ⟨rfl, hb5'⟩
  have hb05 := fresh hb04 (fresh (fboxF w4 _) hb5')
  go_wp2_with fail
  go_ret
  exact ⟨rfl, hb05⟩
end Go.Proofs.Ytmkpfdcnikgokaa
