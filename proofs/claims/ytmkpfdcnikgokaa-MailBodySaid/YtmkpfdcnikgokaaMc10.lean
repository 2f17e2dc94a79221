/-
  Texts of this claim, put together: CodeWrite, PastQ. What each theorem asks stands in its statement.
-/
import Derived.IntWalk
import Derived.Test.YtmkpfdcnikgokaaMc1
import Derived.Test.YtmkpfdcnikgokaaMc7
import Derived.Test.YtmkpfdcnikgokaaMc9
set_option linter.unusedVariables false
set_option linter.unusedSimpArgs false
namespace Go.Proofs.Ytmkpfdcnikgokaa
open Go.RowKit
/-- A run in a box. -/
def XB (w : World) (g : Nat) (a b c : Value) : Prop := w.heap[g]? = some (.cells #[a, b, c] 123 (0, 0))
theorem three_xb (w : World) (a b c : Value) : ∃ w2, w.alloc (.cells #[a, b, c] 123) = w2 ∧ XB w2 w.heap.size a b c ∧ w.heap.size < w2.heap.size ∧ Below w.heap.size w w2 :=
  ⟨_, rfl, heap_alloc_new _ _, by simp, boxed _ _⟩
theorem XB.cells {w : World} {g : Nat} {a b c : Value} (h : XB w g a b c) : w.cell? ⟨g, 0, none⟩ = some a ∧ w.cell? ⟨g, 1, none⟩ = some b ∧ w.cell? ⟨g, 2, none⟩ = some c := by
  refine ⟨?_, ?_, ?_⟩ <;> (rw [cell_of_row _ _ _ _ _ _ h]; rfl)
theorem XB.below {w w' : World} {g : Nat} {a b c : Value} (h : XB w g a b c) (hb : Below w.heap.size w w') : XB w' g a b c := (hb.block g (Array.getElem?_eq_some_iff.1 h).1).trans h
theorem XB.kept {w w' : World} {g : Nat} {a b c : Value} (h : XB w g a b c) (hk : Kept w w') : XB w' g a b c := hk g _ h (fun cur e => by simp at e)
theorem FB.kept {w w' : World} {g : Nat} {k t r s z : Value} (h : FB w g k t r s z) (hk : Kept w w') : FB w' g k t r s z := hk g _ h (fun cur e => by simp at e)
theorem runNums_snoc (p : List Rn) (x : Rn) (was : Int) : runNums was (p ++ [x]) = runNums was p ++ [x.1 - wasR was p, x.2.1, x.2.2] := by
  rw [runNums_append]
  rfl
theorem wasR_snoc (p : List Rn) (x : Rn) (was : Int) : wasR was (p ++ [x]) = x.1 + x.2.2 - 1 := by
  rw [wasR_append]
  rfl
theorem good_take : ∀ (p : List Rn) (was : Int) (k : Nat), goodR was p → ∀ h : k < p.length, wasR was (p.take k) < p[k].1 ∧ (0 ≤ was → 0 ≤ wasR was (p.take k)) ∧ (was ≤ 1073741824 → wasR was (p.take k) ≤ 1073741824)
  | [], _, _, _, h => by simp at h
  | x :: p, was, 0, hg, _ => by
    obtain ⟨h1, -⟩ := hg
    exact ⟨by simp [wasR]; omega, fun h => h, fun h => h⟩
  | x :: p, was, k + 1, hg, h => by
    obtain ⟨h1, h2, h3, h4, h5, h6, h7, h8⟩ := hg
    obtain ⟨q1, q2, q3⟩ := good_take p (x.1 + x.2.2 - 1) k h8 (by simpa using h)
    exact ⟨by simpa [wasR] using q1, fun _ => by simpa [wasR] using q2 (by omega), fun _ => by simpa [wasR] using q3 (by omega)⟩
theorem good_cut : ∀ (p : List Rn) (was : Int) (j : Nat), goodR was p → goodR was (p.take j)
  | [], _, _, _ => by simp [goodR]
  | x :: p, was, 0, _ => by simp [goodR]
  | x :: p, was, j + 1, h => by
    obtain ⟨h1, h2, h3, h4, h5, h6, h7, h8⟩ := h
    exact ⟨h1, h2, h3, h4, h5, h6, h7, good_cut p _ j h8⟩
theorem nums_len : ∀ (p : List Rn) (was : Int), (runNums was p).length = 3 * p.length
  | [], _ => rfl
  | x :: p, was => by simp [runNums, nums_len p]; omega
/-- Put's bytes; none where the operation may not be. -/
def putB (k t r : Int) (p : List Rn) (z : Int) : List UInt8 := if mayO k t r p z then opB k t r p z else []
theorem pre_len {k : Int} {p : List Rn} (hk : 0 ≤ k ∧ k ≤ 4) (hp : mayR p) (ho : ∀ x ∈ p, okR x) (j : Nat) : (nbs ([k, (p.length : Int)] ++ runNums 0 (p.take j))).length ≤ 6 * 194 := by
  have h1 := hp.2.1
  refine Nat.le_trans (nbs_len fun a ha => ?_) ?_
  · rcases List.mem_append.1 ha with h | h
    · simp only [List.mem_cons, List.not_mem_nil, or_false] at h
      omega
    · have hg : goodR 0 (p.take j) := by
        have := may_good hp ho
        exact good_cut p 0 j this
      have := good_nums _ _ hg a h
      omega
  · rw [List.length_append, nums_len, List.length_take]
    simp only [List.length_cons, List.length_nil]
    omega
set_option maxHeartbeats 6400000 in
set_option maxRecDepth 100000 in
theorem cwrite_any (k t r z : Int) (A : Option Addr) (n c : Nat) (p : List Rn) (w : World) (hr : RR w w.heap.size A p) (hn : p.length = n) (hl : n < 1073741824) (hok : ∀ x ∈ p, okR x) (k0 : 0 ≤ k) (hi : okI (t, r)) :
    Calls Try.prog 77 #[opv k t r A n c z] w fun e w' => ∃ v, e = .returned (.tuple #[v, .int .i64 (chkO k t r p z)]) ∧ w'.ownsRow w.heap.size 5 1 v (putB k t r p z).length (u8s (putB k t r p z)) ∧ Below w.heap.size w w' := by
  obtain ⟨w1, hw1, F1, hs1, hb1⟩ := five_fb w (.int .u8 k) (.int .u32 t) (.int .u8 r) (.slice A n c) (.int .i64 z)
  obtain ⟨a0, a1, a2, a3, a4⟩ := F1.cells
  have hE := hide (opcheck_any k t r z A n c p w1 (hr.below' hb1) hn hl hok k0)
  by_cases hm : mayO k t r p z
  rotate_left
  · rw [show chkO k t r p z = 8 from if_neg hm] at hE
    have hv := hide (And.intro (show chkO k t r p z = 8 from if_neg hm) (show putB k t r p z = [] from if_neg hm))
    clear hm F1
    go_enter Try.func77, Try.ntmps77
    go_wp2_with fail
    refine hE.out.mono ?_
    rintro e w2 ⟨rfl, hb2⟩
    go_wp2_with fail
    refine bodyPost_ret (v := .tuple #[.slice none 0 0, .int .i64 8]) (by simp [results, Try.results77, go_sem]) rfl ?_
    exact ⟨_, by rw [hv.out.1], by rw [hv.out.2]; exact World.ownsRow_nil _ _ _ _, fresh hb1 hb2⟩
  rw [show chkO k t r p z = 0 from if_pos hm] at hE
  have hv := hide (And.intro (show chkO k t r p z = 0 from if_pos hm) (show putB k t r p z = opB k t r p z from if_pos hm))
  have Hm := hide hm
  have Ok := hide hok
  have hn64 : n ≤ 64 := by have := hm.2.1.2.1; omega
  have Hn := hide hn
  have hk4 : 1 ≤ k ∧ k ≤ 4 := by
    have := hm.2.2
    unfold rightO at this
    omega
  have Hi := hide hi
  have Hpl := hide (fun j => pre_len (k := k) (by omega) hm.2.1 hok j)
  have Hgood := hide (may_good hm.2.1 hok)
  have HF1 := hide F1
  have hconv : IntKind.i64.wrap k = k := IntWalk.i64_in _ (by omega)
  clear hm hok hn hi F1
  go_enter Try.func77, Try.ntmps77
  go_wp2_with fail
  refine hE.out.mono ?_
  rintro e w2 ⟨rfl, hb2⟩
  have hb02 := fresh hb1 hb2
  have HF2 := hide (HF1.out.below hb2)
  clear a0 a1 a2 a3 a4
  obtain ⟨a0, a1, a2, a3, a4⟩ := HF2.out.cells
  go_wp2_with fail
  refine (cput_ok _ [] w.heap.size w2.heap.size 2 [k, (n : Int)] _ (World.ownsRow_nil _ _ _ _) ?_ (heap_alloc_new _ _) ?_ ?_).mono ?_
  · simp; have := hb02.size; omega
  · intro a ha
    simp only [List.mem_cons, List.not_mem_nil, or_false] at ha
    omega
  · simp
  rintro e w3 ⟨v3, rfl, hown3, hb3, hk3⟩
  have hb03 : Below w.heap.size w w3 := (hb02.alloc hb02.size _).trans hb3 
  have HF3 := hide (HF2.out.below (boxed _ _) |>.kept hk3)
  clear a0 a1 a2 a3 a4 hb3 hk3
  obtain ⟨a0, a1, a2, a3, a4⟩ := HF3.out.cells
  simp only [List.nil_append] at hown3
  go_wp2_with fail
  go_loopw [5, 6, 25] (fun u v i wr => ∃ j : Nat, j ≤ n ∧ i = .int .i64 (j : Int) ∧ v = .int .i64 (wasR 0 (p.take j)) ∧ wr.ownsRow w.heap.size 5 1 u (nbs ([k, (n : Int)] ++ runNums 0 (p.take j))).length (u8s (nbs ([k, (n : Int)] ++ runNums 0 (p.take j)))) ∧ Hid (FB wr w.heap.size (.int .u8 k) (.int .u32 t) (.int .u8 r) (.slice A n c) (.int .i64 z)) ∧ Below w.heap.size w wr) (fun _ _ i _ => n - (intOf i).toNat)
  case atStart => exact ⟨0, by omega, rfl, rfl, by simpa [runNums] using hown3, HF3, hb03⟩
  case round =>
    obtain ⟨j, hj, rfl, rfl, hown, hF, hb⟩ := hrel
    clear a0 a1 a2 a3 a4 HF3 HF2
    by_cases hlt : j < n
    · have hltp : j < p.length := by have := Hn.out; omega
      obtain ⟨bA, oA, rfl, hB, hC⟩ := RR.cell (RD.below hr hb) (by omega)
      obtain ⟨d0, d1, d2⟩ := hC j hltp
      obtain ⟨t1, ht1⟩ : ∃ x, p[j].1 = x := ⟨_, rfl⟩
      obtain ⟨r1, hr1⟩ : ∃ x, p[j].2.1 = x := ⟨_, rfl⟩
      obtain ⟨m1, hm1⟩ : ∃ x, p[j].2.2 = x := ⟨_, rfl⟩
      obtain ⟨g1, g2, g3⟩ := good_take p 0 j Hgood.out hltp
      replace g2 := g2 (Int.le_refl _)
      replace g3 := g3 (by decide)
      obtain ⟨e1, e2, e3, e4, e5, e6⟩ := chainR_mem Hm.out.2.1.2.2.1 p[j] (List.getElem_mem hltp)
      have eok := Ok.out p[j] (List.getElem_mem hltp)
      unfold okR at eok
      have hnx : runNums 0 (p.take (j + 1)) = runNums 0 (p.take j) ++ [t1 - wasR 0 (p.take j), r1, m1] := by rw [List.take_succ_eq_append_getElem hltp, runNums_snoc, ht1, hr1, hm1]
      have hws : wasR 0 (p.take (j + 1)) = t1 + m1 - 1 := by rw [List.take_succ_eq_append_getElem hltp, wasR_snoc, ht1, hm1]
      have Hnx := hide (And.intro hnx hws)
      rw [ht1] at d0 g1 e1 e2 e6 eok
      rw [hr1] at d1 e3 eok
      rw [hm1] at d2 e4 e5 e6 eok
      have HP := Hpl.out j
      rw [Hn.out] at HP
      obtain ⟨ws, hws'⟩ : ∃ x, wasR 0 (p.take j) = x := ⟨_, rfl⟩
      rw [hws'] at g1 g2 g3 Hnx ⊢
      obtain ⟨q1, q2, q3, q4, q5, q6⟩ := eok
      have z0 : (j : Int) < n := by omega
      have hc1 : IntKind.i64.wrap t1 = t1 := IntWalk.i64_in _ (by omega)
      have hc2 : IntKind.i64.wrap r1 = r1 := IntWalk.i64_in _ (by omega)
      have hc3 : IntKind.i64.wrap (t1 - ws) = t1 - ws := IntWalk.i64_in _ (by omega)
      have hc4 : IntKind.i64.wrap (t1 + m1) = t1 + m1 := IntWalk.i64_in _ (by omega)
      have hc5 : IntKind.i64.wrap (t1 + m1 - 1) = t1 + m1 - 1 := IntWalk.i64_in _ (by omega)
      obtain ⟨wx, hwx, FX, hsx, hbx⟩ := three_xb wr (.int .u32 t1) (.int .u8 r1) (.int .i64 m1)
      obtain ⟨x0, x1, x2⟩ := FX.cells
      have HFX := hide FX
      have HPre := hide HP
      clear ht1 hr1 hm1 hnx hws hws' HP FX hC
      go_wp2_with fail
      refine (cput_ok _ (nbs ([k, (n : Int)] ++ runNums 0 (p.take j))) w.heap.size wx.heap.size 3 [t1 - ws, r1, m1] _ (World.ownsRow.alloc (own_below hown hbx (Nat.le_refl _)) _) ?_ (heap_alloc_new _ _) ?_ ?_).mono ?_
      · have := hb.size
        have := hbx.size
        simp
        omega
      · intro a ha
        simp only [List.mem_cons, List.not_mem_nil, or_false] at ha
        omega
      · have := HPre.out
        simp only [List.length_cons, List.length_nil]
        omega
      rintro e w5 ⟨v5, rfl, hown5, hb5, hk5⟩
      have hb05 : Below w.heap.size w w5 := ((hb.trans (hbx.mono hb.size)).alloc (Nat.le_trans hb.size hbx.size) _).trans hb5
      have hF5 := hide (((hF.out.below hbx).below (boxed _ _)).kept hk5)
      have hX5 := (HFX.out.below (boxed wx _)).kept hk5
      clear x0 x1 x2 hb5 hk5 hwx
      obtain ⟨x0, x1, x2⟩ := hX5.cells
      rw [← nbs_append, List.append_assoc] at hown5
      clear hX5
      go_wp2_with fail
      go_roundw
      case rel =>
        refine ⟨j + 1, by omega, by go_num, by rw [Hnx.out.2], ?_, hF5, hb05⟩
        rw [Hnx.out.1]
        exact hown5
      case measure => simp [intOf]; omega
    · have hz : ¬ (j : Int) < n := by omega
      have hjn : j = n := by omega
      have htp : p.take j = p := List.take_of_length_le (by have := Hn.out; omega)
      have HPre := hide (show (nbs ([k, (n : Int)] ++ runNums 0 p)).length ≤ 6 * 194 by
        have := Hpl.out j
        rwa [htp, Hn.out] at this)
      rw [htp] at hown ⊢
      subst hjn
      have hlw := lastR_was Hm.out.2.1 0
      have hpos := mayR_last_pos Hm.out.2.1
      have hopn : opB k t r p z = nbs ([k, (j : Int)] ++ (runNums 0 p ++ tailNums k t r (wasR 0 p) z)) := by
        unfold opB opNums
        rw [Hn.out]
        rfl
      have hws0 : 0 ≤ wasR 0 p := by omega
      have hrt := Hm.out.2.2
      have hii := Hi.out
      obtain ⟨mi1, mi2, mi3⟩ := Hm.out.1
      unfold okI at hii
      simp only at hii
      obtain ⟨ws, hws'⟩ : ∃ x, wasR 0 p = x := ⟨_, rfl⟩
      rw [hws'] at hlw hws0 hopn ⊢
      clear hws' htp hlt
      obtain ⟨a0, a1, a2, a3, a4⟩ := hF.out.cells
      have hkk : k = 1 ∨ k = 2 ∨ (k = 3 ∨ k = 4) := by omega
      rcases hkk with rfl | rfl | hkk
      · have hzz : 0 ≤ z ∧ z ≤ 1114111 := by
          rcases hrt with ⟨-, -, h⟩ | ⟨h, -⟩ | ⟨h, -⟩
          · exact ⟨h.1, h.2.1⟩
          · omega
          · omega
        have Hop := hide (show opB 1 t r p z = nbs ([1, (j : Int)] ++ (runNums 0 p ++ [z])) by rw [hopn]; rfl)
        clear hopn hlw hpos hrt
        go_wp2_with fail
        refine (cput_ok _ (nbs ([1, (j : Int)] ++ runNums 0 p)) w.heap.size wr.heap.size 1 [z] _ (World.ownsRow.alloc hown _) ?_ (heap_alloc_new _ _) ?_ ?_).mono ?_
        · have := hb.size
          simp
          omega
        · intro a ha
          simp only [List.mem_cons, List.not_mem_nil, or_false] at ha
          omega
        · have := HPre.out
          simp only [List.length_cons, List.length_nil]
          omega
        rintro e w5 ⟨v5, rfl, hown5, hb5, -⟩
        have hb05 : Below w.heap.size w w5 := (hb.alloc hb.size _).trans hb5
        rw [← nbs_append, List.append_assoc] at hown5
        go_wp2_with fail
        refine bodyPost_ret (v := .tuple #[v5, .int .i64 0]) (by simp [results, Try.results77, go_sem]) rfl ?_
        exact ⟨_, by rw [hv.out.1], by rw [hv.out.2, Hop.out]; exact hown5, hb05⟩
      · have Hop := hide (show opB 2 t r p z = nbs ([2, (j : Int)] ++ runNums 0 p) by rw [hopn]; simp [tailNums])
        clear hopn hlw hpos hrt
        go_wp2_with fail
        refine bodyPost_ret (v := .tuple #[_, .int .i64 0]) (by simp [results, Try.results77, go_sem]; rfl) rfl ?_
        exact ⟨_, by rw [hv.out.1], by rw [hv.out.2, Hop.out]; exact hown, hb⟩
      · have hlt2 : ws < t := by
          rcases hrt with ⟨h, -⟩ | ⟨h, -⟩ | ⟨-, -, h⟩
          · omega
          · omega
          · omega
        have Hop := hide (show opB k t r p z = nbs ([k, (j : Int)] ++ (runNums 0 p ++ [t - ws, r])) by rw [hopn]; unfold tailNums; rw [if_neg (by omega), if_neg (by omega)])
        have hc1 : IntKind.i64.wrap t = t := IntWalk.i64_in _ (by omega)
        have hc2 : IntKind.i64.wrap r = r := IntWalk.i64_in _ (by omega)
        have hc3 : IntKind.i64.wrap (t - ws) = t - ws := IntWalk.i64_in _ (by omega)
        obtain ⟨i1, i2, i3, i4⟩ := hii
        clear hopn hlw hpos hrt
        rcases hkk with rfl | rfl
        · go_wp2_with fail
          refine (cput_ok _ (nbs ([3, (j : Int)] ++ runNums 0 p)) w.heap.size wr.heap.size 2 [t - ws, r] _ (World.ownsRow.alloc hown _) ?_ (heap_alloc_new _ _) ?_ ?_).mono ?_
          · have := hb.size
            simp
            omega
          · intro a ha
            simp only [List.mem_cons, List.not_mem_nil, or_false] at ha
            omega
          · have := HPre.out
            simp only [List.length_cons, List.length_nil]
            omega
          rintro e w5 ⟨v5, rfl, hown5, hb5, -⟩
          have hb05 : Below w.heap.size w w5 := (hb.alloc hb.size _).trans hb5
          rw [← nbs_append, List.append_assoc] at hown5
          go_wp2_with fail
          refine bodyPost_ret (v := .tuple #[v5, .int .i64 0]) (by simp [results, Try.results77, go_sem]) rfl ?_
          exact ⟨_, by rw [hv.out.1], by rw [hv.out.2, Hop.out]; exact hown5, hb05⟩
        · go_wp2_with fail
          refine (cput_ok _ (nbs ([4, (j : Int)] ++ runNums 0 p)) w.heap.size wr.heap.size 2 [t - ws, r] _ (World.ownsRow.alloc hown _) ?_ (heap_alloc_new _ _) ?_ ?_).mono ?_
          · have := hb.size
            simp
            omega
          · intro a ha
            simp only [List.mem_cons, List.not_mem_nil, or_false] at ha
            omega
          · have := HPre.out
            simp only [List.length_cons, List.length_nil]
            omega
          rintro e w5 ⟨v5, rfl, hown5, hb5, -⟩
          have hb05 : Below w.heap.size w w5 := (hb.alloc hb.size _).trans hb5
          rw [← nbs_append, List.append_assoc] at hown5
          go_wp2_with fail
          refine bodyPost_ret (v := .tuple #[v5, .int .i64 0]) (by simp [results, Try.results77, go_sem]) rfl ?_
          exact ⟨_, by rw [hv.out.1], by rw [hv.out.2, Hop.out]; exact hown5, hb05⟩
end Go.Proofs.Ytmkpfdcnikgokaa
namespace Go.Proofs.Ytmkpfdcnikgokaa
open Go.RowKit
/-- The kit's lexical walk, in a box. -/
structure WQ (P : Program) (ops : Array Oper) (C : World → Prop) (Q : Act → Prop) (l : List Oper) (a : Act) : Prop where
  out : wpQuiet P ops C Q l a
theorem WQ.step {P : Program} {ops : Array Oper} {C : World → Prop} {Q : Act → Prop} {a : Act} {o : Oper} {rest : List Oper}
    (h : ∀ K : Act → Prop, (∀ a, WQ P ops C Q rest a → K a) → if Region.wanted o (yielded ops a.tmps) then o.quiet P a C K else K (a.put o.dst undef)) : WQ P ops C Q (o :: rest) a :=
  ⟨wpQuiet_step fun K hK => h K fun a ha => hK a ha.out⟩
theorem WQ.nil {P : Program} {ops : Array Oper} {C : World → Prop} {Q : Act → Prop} {a : Act} (h : Q a) : WQ P ops C Q [] a := ⟨wpQuiet_nil h⟩
/-- The region, its operations written out. -/
theorem wp_region_wq {P : Program} {id : Nat} {Q : Exit → Act → World → Prop} {a : Act} {w : World} {l : List Oper} (hm : P.follows .mixedOrders = true) (hB : Region.lexB .any l.toArray = true)
    (h : WQ P l.toArray (fun w' => ∃ u, w' = past w u) (fun a' => ∀ u, Q .normal a' (past w u)) l a) : (Code.region id l.toArray true).wp P Q a w := by
  refine wp_region_past hm hB ?_
  have := h.out
  simpa only [forall_exists_index, forall_eq_apply_imp_iff] using this
end Go.Proofs.Ytmkpfdcnikgokaa
