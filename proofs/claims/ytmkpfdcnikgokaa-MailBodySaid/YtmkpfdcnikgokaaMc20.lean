/-
  Texts of this claim, put together: OpSame, MailEq. What each theorem asks stands in its statement.
-/
import Derived.Test.YtmkpfdcnikgokaaMc5
import Derived.Test.YtmkpfdcnikgokaaMc9
import Derived.Test.YtmkpfdcnikgokaaMc13
set_option linter.unusedVariables false
set_option linter.unusedSimpArgs false
namespace Go.Proofs.Ytmkpfdcnikgokaa
open Go.RowKit
set_option maxHeartbeats 3200000 in
set_option maxRecDepth 100000 in
theorem opsame_any (k t r z k' t' r' z' : Int) (A B : Option Addr) (n m c d : Nat) (p q : List Rn) (w : World) (hr : RR w w.heap.size A p) (hs : RR w w.heap.size B q) (hn : p.length = n) (hm : q.length = m) (hl : n < 1073741824) (hl' : m < 1073741824) :
    Calls Try.prog 71 #[opv k t r A n c z, opv k' t' r' B m d z'] w fun e w' => e = .returned (.bool (decide (k = k' ∧ t = t' ∧ r = r' ∧ p = q ∧ z = z'))) ∧ Below w.heap.size w w' := by
  obtain ⟨w1, hw1, a0, a1, a2, a3, a4, hs1, hb1⟩ := five_box w (.int .u8 k) (.int .u32 t) (.int .u8 r) (.slice A n c) (.int .i64 z) 115
  obtain ⟨w2, hw2, b0, b1, b2, b3, b4, hs2, hb2⟩ := five_box w1 (.int .u8 k') (.int .u32 t') (.int .u8 r') (.slice B m d) (.int .i64 z') 115
  have hb02 := fresh hb1 hb2
  replace a0 := keep_cell hb2 hs1 a0
  replace a1 := keep_cell hb2 hs1 a1
  replace a2 := keep_cell hb2 hs1 a2
  replace a3 := keep_cell hb2 hs1 a3
  replace a4 := keep_cell hb2 hs1 a4
  replace hs1 := Nat.lt_of_lt_of_le hs1 hb2.size
  have C := hide (psame_any A B c d n m p q w2 (hr.below' hb02) (hs.below' hb02) hn hm hl hl')
  clear hr hs hn hm hl hl'
  obtain ⟨g1, hg1⟩ : ∃ g, g = w1.heap.size := ⟨_, rfl⟩
  have hc : ((k == k') = false ∧ ¬ k = k') ∨ ((k == k') = true ∧ k = k' ∧ (((t == t') = false ∧ ¬ t = t') ∨ ((t == t') = true ∧ t = t' ∧ (((r == r') = false ∧ ¬ r = r') ∨ ((r == r') = true ∧ r = r' ∧ (((z == z') = false ∧ ¬ z = z') ∨ ((z == z') = true ∧ z = z'))))))) := by
    simp only [beq_iff_eq, beq_eq_false_iff_ne, ne_eq]
    omega
  clear hg1 g1
  rcases hc with ⟨c1, e1⟩ | ⟨c1, e1, ⟨c2, e2⟩ | ⟨c2, e2, ⟨c3, e3⟩ | ⟨c3, e3, ⟨c4, e4⟩ | ⟨c4, e4⟩⟩⟩⟩
  · have hf := hide (show decide (k = k' ∧ t = t' ∧ r = r' ∧ p = q ∧ z = z') = false from decide_eq_false fun h => e1 (by simp only [h]))
    clear e1
    go_enter Try.func71, Try.ntmps71
    go_wp2_with fail
    go_ret
    exact ⟨ret_bool hf.out.symm, hb02⟩
  · have hf := hide (show decide (k = k' ∧ t = t' ∧ r = r' ∧ p = q ∧ z = z') = false from decide_eq_false fun h => e2 (by simp only [h]))
    clear e1 e2
    go_enter Try.func71, Try.ntmps71
    go_wp2_with fail
    go_ret
    exact ⟨ret_bool hf.out.symm, hb02⟩
  · have hf := hide (show decide (k = k' ∧ t = t' ∧ r = r' ∧ p = q ∧ z = z') = false from decide_eq_false fun h => e3 (by simp only [h]))
    clear e1 e2 e3
    go_enter Try.func71, Try.ntmps71
    go_wp2_with fail
    go_ret
    exact ⟨ret_bool hf.out.symm, hb02⟩
  · have hf := hide (show decide (k = k' ∧ t = t' ∧ r = r' ∧ p = q ∧ z = z') = false from decide_eq_false fun h => e4 (by simp only [h]))
    clear e1 e2 e3 e4
    go_enter Try.func71, Try.ntmps71
    go_wp2_with fail
    go_ret
    exact ⟨ret_bool hf.out.symm, hb02⟩
  · have hf := hide (show decide (k = k' ∧ t = t' ∧ r = r' ∧ p = q ∧ z = z') = decide (p = q) from decide_eq_decide.2 ⟨fun h => h.2.2.2.1, fun h => ⟨e1, e2, e3, h, e4⟩⟩)
    clear e1 e2 e3 e4
    go_enter Try.func71, Try.ntmps71
    go_wp2_with fail
    refine C.out.mono ?_
    rintro e w3 ⟨rfl, hb3⟩
    go_wp2_with fail
    go_ret
    exact ⟨ret_bool (by rw [hf.out]), fresh hb02 hb3⟩
end Go.Proofs.Ytmkpfdcnikgokaa
namespace Go.Proofs.Ytmkpfdcnikgokaa
open Go.RowKit
set_option maxHeartbeats 3200000 in
set_option maxRecDepth 100000 in
theorem tmeq_any (A B : Option Addr) (c d n k : Nat) (L M : List TmL) (w : World) (hr : RT w w.heap.size A L) (hs : RT w w.heap.size B M) (hn : L.length = n) (hk : M.length = k) (hl : n < 1073741824) (ho : ∀ x ∈ L, okT x) :
    Calls Try.prog 93 #[.slice A n c, .slice B k d, .func (.func 94) #[] #[]] w fun e w' => e = .returned (.bool (decide (L.map TmL.pt = M.map TmL.pt))) ∧ Below w.heap.size w w' := by
  subst hn hk
  by_cases hne : (L.length : Int) = (M.length : Int)
  · have E := hide (show L.length = M.length by omega)
    have hbe : ((L.length : Int) == (M.length : Int)) = true := by simpa using hne
    have hbn : ((L.length : Int) != (M.length : Int)) = false := by simpa using hne
    have HR := hide hr
    have HS := hide hs
    clear hne hr hs
    go_enter Try.func93, Try.ntmps93
    go_wp2_with fail
    go_loopw [17] (fun i wr => ∃ j : Nat, j ≤ L.length ∧ i = .int .i64 (j : Int) ∧ Hid ((L.take j).map TmL.pt = (M.take j).map TmL.pt) ∧ Below w.heap.size w wr) (fun i _ => L.length - (intOf i).toNat)
    case atStart => exact ⟨0, by omega, rfl, hide rfl, Below.refl _ _⟩
    case round =>
      obtain ⟨j, hj, rfl, hT, hb⟩ := hrel
      by_cases hlt : j < L.length
      · have hltm : j < M.length := by have := E.out; omega
        have z0 : (j : Int) < L.length := by omega
        have z1 : (j : Int) < M.length := by omega
        have z4 : (0 : Int) ≤ j := by omega
        obtain ⟨x, hx⟩ : ∃ x, L[j] = x := ⟨_, rfl⟩
        obtain ⟨y, hy⟩ : ∃ x, M[j] = x := ⟨_, rfl⟩
        have hxm : x ∈ L := by rw [← hx]; exact List.getElem_mem hlt
        have hym : y ∈ M := by rw [← hy]; exact List.getElem_mem hltm
        obtain ⟨p0, o0, rfl, hB0, hC0⟩ := RT.cell (HR.out.below hb) (by omega)
        obtain ⟨d0, d1⟩ := hC0 j hlt
        rw [hx] at d0 d1
        obtain ⟨w1, hw1, F1, hs1, hb1⟩ := two_pb wr (.int .u8 x.R) (.slice x.A x.s.length x.c) 79
        obtain ⟨w2, hw2, F2, hs2, hb2⟩ := two_pb w1 (.int .u8 y.R) (.slice y.A y.s.length y.c) 79
        have hbb1 := fresh hb hb1
        have hbb2 := fresh hbb1 hb2
        obtain ⟨p1, o1, rfl, hB1, hC1⟩ := RT.cell (HS.out.below hbb1) (by omega)
        obtain ⟨e0, e1⟩ := hC1 j hltm
        rw [hy] at e0 e1
        obtain ⟨a0, a1⟩ := (F1.below hb2).cells
        obtain ⟨b0, b1⟩ := F2.cells
        have RX := (HR.out.below hbb2).more hbb2.size
        have RY := (HS.out.below hbb2).more hbb2.size
        have HP := hide (tmsame1 x y x.s.length y.s.length w2 (RX.2 x hxm) (RY.2 y hym) rfl rfl (ho x hxm).2.2.2)
        obtain ⟨bv, hbv⟩ : ∃ q, decide (TmL.pt x = TmL.pt y) = q := ⟨_, rfl⟩
        rw [hbv] at HP
        clear hC0 hC1 F1 F2 RX RY
        cases bv
        · have hf := hide (show decide (L.map TmL.pt = M.map TmL.pt) = false by
            rw [decide_eq_false_iff_not]
            intro e
            have h1 : (L.map TmL.pt)[j]? = (M.map TmL.pt)[j]? := by rw [e]
            rw [List.getElem?_map, List.getElem?_map, List.getElem?_eq_getElem hlt, List.getElem?_eq_getElem hltm, hx, hy] at h1
            simp only [Option.map_some, Option.some.injEq] at h1
            exact (decide_eq_false_iff_not.1 hbv) h1)
          clear hx hy hxm hym hbv
          go_wp2_with fail
          refine HP.out.mono ?_
          rintro e w3 ⟨rfl, hb3⟩
          clear d0 d1 e0 e1 a0 a1 b0 b1
          go_wp2_with fail
          go_ret
          exact ⟨ret_bool hf.out.symm, fresh hbb2 hb3⟩
        · have hT2 := hide (show (L.take (j + 1)).map TmL.pt = (M.take (j + 1)).map TmL.pt by
            rw [List.take_succ_eq_append_getElem hlt, List.take_succ_eq_append_getElem hltm, List.map_append, List.map_append, hT.out, hx, hy]
            simp only [List.map_cons, List.map_nil]
            rw [of_decide_eq_true hbv])
          clear hx hy hxm hym hbv
          go_wp2_with fail
          refine HP.out.mono ?_
          rintro e w3 ⟨rfl, hb3⟩
          clear d0 d1 e0 e1 a0 a1 b0 b1
          go_wp2_with fail
          go_roundw
          case rel => exact ⟨j + 1, by omega, by go_num, hT2, fresh hbb2 hb3⟩
          case measure => simp [intOf]; omega
      · have hkl : ¬ (j : Int) < L.length := by omega
        have fin := hide (show decide (L.map TmL.pt = M.map TmL.pt) = true by
          have h1 := hT.out
          rw [List.take_of_length_le (by omega), List.take_of_length_le (by have := E.out; omega)] at h1
          exact decide_eq_true h1)
        go_wp2_with fail
        go_ret
        exact ⟨ret_bool fin.out.symm, hb⟩
  · have hbe : ((L.length : Int) == (M.length : Int)) = false := by simpa using hne
    have hbn : ((L.length : Int) != (M.length : Int)) = true := by simpa using hne
    have fin := hide (show decide (L.map TmL.pt = M.map TmL.pt) = false by
      rw [decide_eq_false_iff_not]
      intro e
      have h1 := congrArg List.length e
      rw [List.length_map, List.length_map] at h1
      exact hne (by rw [h1]))
    clear hne
    go_enter Try.func93, Try.ntmps93
    go_wp2_with fail
    go_ret
    exact ⟨ret_bool fin.out.symm, Below.refl _ _⟩
set_option maxHeartbeats 400000 in
set_option maxRecDepth 100000 in
theorem tmsame_any (A B : Option Addr) (c d n k : Nat) (L M : List TmL) (w : World) (hr : RT w w.heap.size A L) (hs : RT w w.heap.size B M) (hn : L.length = n) (hk : M.length = k) (hl : n < 1073741824) (ho : ∀ x ∈ L, okT x) :
    Calls Try.prog 69 #[.slice A n c, .slice B k d] w fun e w' => e = .returned (.bool (decide (L.map TmL.pt = M.map TmL.pt))) ∧ Below w.heap.size w w' := by
  have C := hide (tmeq_any A B c d n k L M w hr hs hn hk hl ho)
  clear hn hk
  go_enter Try.func69, Try.ntmps69
  go_wp2_with fail
  refine (unhide C).mono ?_
  rintro e w1 ⟨rfl, hb1⟩
  go_wp2_with fail
  go_ret
  exact ⟨rfl, hb1⟩
theorem opsame_op (x y : OpL) (w : World) (hr : RR w w.heap.size x.A x.p) (hs : RR w w.heap.size y.A y.p) (hl : x.p.length < 1073741824) (hl' : y.p.length < 1073741824) :
    Calls Try.prog 71 #[opv x.k x.t x.r x.A x.p.length x.c x.z, opv y.k y.t y.r y.A y.p.length y.c y.z] w fun e w' => e = .returned (.bool (decide (OpL.op x = OpL.op y))) ∧ Below w.heap.size w w' := by
  refine (opsame_any x.k x.t x.r x.z y.k y.t y.r y.z x.A y.A x.p.length y.p.length x.c y.c x.p y.p w hr hs rfl rfl hl hl').mono ?_
  rintro e w' ⟨rfl, hb⟩
  refine ⟨?_, hb⟩
  have e : (x.k = y.k ∧ x.t = y.t ∧ x.r = y.r ∧ x.p = y.p ∧ x.z = y.z) = (OpL.op x = OpL.op y) := by simp only [OpL.op, Prod.mk.injEq]
  simp only [e]
set_option maxHeartbeats 3200000 in
set_option maxRecDepth 100000 in
theorem opeq_any (A B : Option Addr) (c d n k : Nat) (L M : List OpL) (w : World) (hr : RO w w.heap.size A L) (hs : RO w w.heap.size B M) (hn : L.length = n) (hk : M.length = k) (hl : n < 1073741824) (ho : ∀ x ∈ L, x.p.length < 1073741824) (ho' : ∀ x ∈ M, x.p.length < 1073741824) :
    Calls Try.prog 70 #[.slice A n c, .slice B k d, .func (.func 71) #[] #[]] w fun e w' => e = .returned (.bool (decide (L.map OpL.op = M.map OpL.op))) ∧ Below w.heap.size w w' := by
  subst hn hk
  by_cases hne : (L.length : Int) = (M.length : Int)
  · have E := hide (show L.length = M.length by omega)
    have hbe : ((L.length : Int) == (M.length : Int)) = true := by simpa using hne
    have hbn : ((L.length : Int) != (M.length : Int)) = false := by simpa using hne
    have HR := hide hr
    have HS := hide hs
    clear hne hr hs
    go_enter Try.func70, Try.ntmps70
    go_wp2_with fail
    go_loopw [17] (fun i wr => ∃ j : Nat, j ≤ L.length ∧ i = .int .i64 (j : Int) ∧ Hid ((L.take j).map OpL.op = (M.take j).map OpL.op) ∧ Below w.heap.size w wr) (fun i _ => L.length - (intOf i).toNat)
    case atStart => exact ⟨0, by omega, rfl, hide rfl, Below.refl _ _⟩
    case round =>
      obtain ⟨j, hj, rfl, hT, hb⟩ := hrel
      by_cases hlt : j < L.length
      · have hltm : j < M.length := by have := E.out; omega
        have z0 : (j : Int) < L.length := by omega
        have z1 : (j : Int) < M.length := by omega
        have z4 : (0 : Int) ≤ j := by omega
        obtain ⟨x, hx⟩ : ∃ x, L[j] = x := ⟨_, rfl⟩
        obtain ⟨y, hy⟩ : ∃ x, M[j] = x := ⟨_, rfl⟩
        have hxm : x ∈ L := by rw [← hx]; exact List.getElem_mem hlt
        have hym : y ∈ M := by rw [← hy]; exact List.getElem_mem hltm
        obtain ⟨p0, o0, rfl, hB0, hC0⟩ := RO.cell (HR.out.below hb) (by omega)
        obtain ⟨d0, d1, d2, d3, d4⟩ := hC0 j hlt
        rw [hx] at d0 d1 d2 d3 d4
        obtain ⟨w1, hw1, F1, hs1, hb1⟩ := five_fb wr (.int .u8 x.k) (.int .u32 x.t) (.int .u8 x.r) (.slice x.A x.p.length x.c) (.int .i64 x.z)
        obtain ⟨w2, hw2, F2, hs2, hb2⟩ := five_fb w1 (.int .u8 y.k) (.int .u32 y.t) (.int .u8 y.r) (.slice y.A y.p.length y.c) (.int .i64 y.z)
        have hbb1 := fresh hb hb1
        have hbb2 := fresh hbb1 hb2
        obtain ⟨p1, o1, rfl, hB1, hC1⟩ := RO.cell (HS.out.below hbb1) (by omega)
        obtain ⟨e0, e1, e2, e3, e4⟩ := hC1 j hltm
        rw [hy] at e0 e1 e2 e3 e4
        obtain ⟨a0, a1, a2, a3, a4⟩ := (F1.below hb2).cells
        obtain ⟨b0, b1, b2, b3, b4⟩ := F2.cells
        have RX := (HR.out.below hbb2).more hbb2.size
        have RY := (HS.out.below hbb2).more hbb2.size
        have HP := hide (opsame_op x y w2 (RX.2 x hxm) (RY.2 y hym) (ho x hxm) (ho' y hym))
        obtain ⟨bv, hbv⟩ : ∃ q, decide (OpL.op x = OpL.op y) = q := ⟨_, rfl⟩
        rw [hbv] at HP
        clear hC0 hC1 F1 F2 RX RY
        cases bv
        · have hf := hide (show decide (L.map OpL.op = M.map OpL.op) = false by
            rw [decide_eq_false_iff_not]
            intro e
            have h1 : (L.map OpL.op)[j]? = (M.map OpL.op)[j]? := by rw [e]
            rw [List.getElem?_map, List.getElem?_map, List.getElem?_eq_getElem hlt, List.getElem?_eq_getElem hltm, hx, hy] at h1
            simp only [Option.map_some, Option.some.injEq] at h1
            exact (decide_eq_false_iff_not.1 hbv) h1)
          clear hx hy hxm hym hbv
          go_wp2_with fail
          refine HP.out.mono ?_
          rintro e w3 ⟨rfl, hb3⟩
          clear d0 d1 d2 d3 d4 e0 e1 e2 e3 e4 a0 a1 a2 a3 a4 b0 b1 b2 b3 b4
          go_wp2_with fail
          go_ret
          exact ⟨ret_bool hf.out.symm, fresh hbb2 hb3⟩
        · have hT2 := hide (show (L.take (j + 1)).map OpL.op = (M.take (j + 1)).map OpL.op by
            rw [List.take_succ_eq_append_getElem hlt, List.take_succ_eq_append_getElem hltm, List.map_append, List.map_append, hT.out, hx, hy]
            simp only [List.map_cons, List.map_nil]
            rw [of_decide_eq_true hbv])
          clear hx hy hxm hym hbv
          go_wp2_with fail
          refine HP.out.mono ?_
          rintro e w3 ⟨rfl, hb3⟩
          clear d0 d1 d2 d3 d4 e0 e1 e2 e3 e4 a0 a1 a2 a3 a4 b0 b1 b2 b3 b4
          go_wp2_with fail
          go_roundw
          case rel => exact ⟨j + 1, by omega, by go_num, hT2, fresh hbb2 hb3⟩
          case measure => simp [intOf]; omega
      · have hkl : ¬ (j : Int) < L.length := by omega
        have fin := hide (show decide (L.map OpL.op = M.map OpL.op) = true by
          have h1 := hT.out
          rw [List.take_of_length_le (by omega), List.take_of_length_le (by have := E.out; omega)] at h1
          exact decide_eq_true h1)
        go_wp2_with fail
        go_ret
        exact ⟨ret_bool fin.out.symm, hb⟩
  · have hbe : ((L.length : Int) == (M.length : Int)) = false := by simpa using hne
    have hbn : ((L.length : Int) != (M.length : Int)) = true := by simpa using hne
    have fin := hide (show decide (L.map OpL.op = M.map OpL.op) = false by
      rw [decide_eq_false_iff_not]
      intro e
      have h1 := congrArg List.length e
      rw [List.length_map, List.length_map] at h1
      exact hne (by rw [h1]))
    clear hne
    go_enter Try.func70, Try.ntmps70
    go_wp2_with fail
    go_ret
    exact ⟨ret_bool fin.out.symm, Below.refl _ _⟩
end Go.Proofs.Ytmkpfdcnikgokaa
