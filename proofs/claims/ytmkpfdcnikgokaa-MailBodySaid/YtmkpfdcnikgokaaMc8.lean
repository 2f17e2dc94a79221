/-
  Texts of this claim, put together: Spans. What each theorem asks stands in its statement.
-/
import Derived.Test.YtmkpfdcnikgokaaMc2
set_option linter.unusedVariables false
set_option linter.unusedSimpArgs false
namespace Go.Proofs.Ytmkpfdcnikgokaa
open Go.RowKit
/-- A span. -/
abbrev Sp := Int × Int
/-- Spans as cells. -/
def sps (l : List Sp) : List Value := l.flatMap fun x => [.int .u32 x.1, .int .u32 x.2]
theorem sps_append (a b : List Sp) : sps (a ++ b) = sps a ++ sps b := by simp [sps]
theorem sps_get (l : List Sp) : ∀ (i : Nat) (h : i < l.length), (sps l)[i * 2]? = some (.int .u32 l[i].1) ∧ (sps l)[i * 2 + 1]? = some (.int .u32 l[i].2) := by
  induction l with
  | nil => intro i h; simp at h
  | cons a l ih =>
    intro i h
    have e : sps (a :: l) = .int .u32 a.1 :: .int .u32 a.2 :: sps l := rfl
    rw [e]
    cases i with
    | zero => exact ⟨rfl, rfl⟩
    | succ i =>
      have := ih i (by simpa using h)
      rw [show (i + 1) * 2 = i * 2 + 2 by omega]
      exact this
theorem sps_one (l : List Sp) : ∀ u ∈ sps l, u.oneCell' = true := by
  intro u hu
  simp only [sps, List.mem_flatMap] at hu
  obtain ⟨a, _, h⟩ := hu
  simp at h
  rcases h with rfl | rfl <;> rfl
/-- A slice of spans that is read. -/
def RS (w : World) (B : Nat) (A : Option Addr) (l : List Sp) : Prop := RD w B 2 A l.length (sps l)
theorem RS.cell {w : World} {B : Nat} {A : Option Addr} {l : List Sp} (h : RS w B A l) (hl : 0 < l.length) :
    ∃ b off, A = some ⟨b, off, none⟩ ∧ b < B ∧ ∀ j (hj : j < l.length), w.cell? ⟨b, off + j * 2, none⟩ = some (.int .u32 l[j].1) ∧ w.cell? ⟨b, off + j * 2 + 1, none⟩ = some (.int .u32 l[j].2) := by
  obtain ⟨b, off, e, hb, hc⟩ := h.2 hl
  refine ⟨b, off, e, hb, fun j hj => ⟨hc (j * 2) _ (sps_get l j hj).1, ?_⟩⟩
  have := hc (j * 2 + 1) _ (sps_get l j hj).2
  rwa [← Nat.add_assoc] at this
/-- The parts of a span are of their types. -/
def okS (x : Sp) : Prop := 0 ≤ x.1 ∧ x.1 < 4294967296 ∧ 0 ≤ x.2 ∧ x.2 < 4294967296
/-- May spans be, from a time on? -/
def chainS : Int → List Sp → Prop
  | _, [] => True
  | least, x :: l => least ≤ x.1 ∧ x.1 ≤ x.2 ∧ x.2 ≤ 1073741824 ∧ chainS (x.2 + 2) l
instance decChainS : ∀ (least : Int) (l : List Sp), Decidable (chainS least l)
  | _, [] => .isTrue trivial
  | least, x :: l => by
    have := decChainS (x.2 + 2) l
    unfold chainS
    infer_instance
def mayS (l : List Sp) : Prop := l.length ≤ 1024 ∧ chainS 1 l
instance (l : List Sp) : Decidable (mayS l) := by unfold mayS; infer_instance
def chkS (l : List Sp) : Int := if mayS l then 0 else 8
/-- How many times spans have. -/
def sumS : List Sp → Int
  | [] => 0
  | x :: l => (x.2 - x.1 + 1) + sumS l
def cntS (l : List Sp) : Int := if mayS l then sumS l else 0
theorem sumS_snoc (l : List Sp) (x : Sp) : sumS (l ++ [x]) = sumS l + (x.2 - x.1 + 1) := by
  induction l with
  | nil => simp [sumS]
  | cons y l ih => simp only [List.cons_append, sumS, ih]; omega
theorem chainS_take : ∀ (l : List Sp) (least : Int) (j : Nat), chainS least l → chainS least (l.take j)
  | [], _, _, _ => by simp [chainS]
  | x :: l, least, 0, _ => by simp [chainS]
  | x :: l, least, j + 1, h => by
    obtain ⟨h1, h2, h3, h4⟩ := h
    exact ⟨h1, h2, h3, chainS_take l _ j h4⟩
theorem chainS_at : ∀ (l : List Sp) (least : Int) (j : Nat) (h : j < l.length), chainS least l → l[j].1 ≤ l[j].2 ∧ l[j].2 ≤ 1073741824 ∧ least ≤ l[j].1
  | x :: l, least, 0, _, hc => ⟨hc.2.1, hc.2.2.1, hc.1⟩
  | x :: l, least, j + 1, h, hc => by
    obtain ⟨h1, h2, h3, h4⟩ := hc
    have hj : j < l.length := by simpa using h
    have := chainS_at l _ j hj h4
    refine ⟨by simpa using this.1, by simpa using this.2.1, ?_⟩
    have h5 : x.2 + 2 ≤ l[j].1 := this.2.2
    have e : (x :: l)[j + 1].1 = l[j].1 := rfl
    rw [e]
    omega
theorem sumS_le : ∀ (l : List Sp) (least : Int), 1 ≤ least → chainS least l → 0 ≤ sumS l ∧ (l ≠ [] → sumS l + least ≤ 1073741825)
  | [], _, _, _ => ⟨by simp [sumS], fun h => (h rfl).elim⟩
  | x :: l, least, hl, h => by
    obtain ⟨h1, h2, h3, h4⟩ := h
    obtain ⟨g1, g2⟩ := sumS_le l (x.2 + 2) (by omega) h4
    refine ⟨by simp only [sumS]; omega, fun _ => ?_⟩
    simp only [sumS]
    by_cases hn : l = []
    · subst hn
      simp only [sumS]
      omega
    · have := g2 hn
      omega
/-- A box of two. -/
def PB (w : World) (g : Nat) (a b : Value) (T : TypeId) : Prop := w.heap[g]? = some (.cells #[a, b] T (0, 0))
theorem two_pb (w : World) (a b : Value) (T : TypeId) : ∃ w2, w.alloc (.cells #[a, b] T) = w2 ∧ PB w2 w.heap.size a b T ∧ w.heap.size < w2.heap.size ∧ Below w.heap.size w w2 :=
  ⟨_, rfl, heap_alloc_new _ _, by simp, boxed _ _⟩
theorem PB.cells {w : World} {g : Nat} {a b : Value} {T : TypeId} (h : PB w g a b T) : w.cell? ⟨g, 0, none⟩ = some a ∧ w.cell? ⟨g, 1, none⟩ = some b := by
  refine ⟨?_, ?_⟩ <;> (rw [cell_of_row _ _ _ _ _ _ h]; rfl)
theorem PB.below {w w' : World} {g : Nat} {a b : Value} {T : TypeId} (h : PB w g a b T) (hb : Below w.heap.size w w') : PB w' g a b T := (hb.block g (Array.getElem?_eq_some_iff.1 h).1).trans h
set_option maxHeartbeats 1600000 in
set_option maxRecDepth 100000 in
theorem spcheck_any (A : Option Addr) (n c : Nat) (l : List Sp) (w : World) (hr : RS w w.heap.size A l) (hn : l.length = n) (hok : ∀ x ∈ l, okS x) :
    Calls Try.prog 106 #[.slice A n c] w fun e w' => e = .returned (.int .i64 (chkS l)) ∧ Below w.heap.size w w' := by
  by_cases hbig : (1024 : Int) < n
  · have HC := hide (show chkS l = 8 from if_neg (fun h => by have := h.1; omega))
    clear hr hn hok
    go_enter Try.func106, Try.ntmps106
    go_wp2_with fail
    go_ret
    exact ⟨by rw [HC.out]; rfl, Below.refl _ _⟩
  have Hok := hide hok
  have Hn := hide hn
  have HR := hide hr
  clear hok hn hr
  go_enter Try.func106, Try.ntmps106
  go_wp2_with fail
  go_loopw [3, 11] (fun lv i wr => ∃ (j : Nat) (v : Int), j ≤ n ∧ i = .int .i64 (j : Int) ∧ lv = .int .u32 v ∧ 1 ≤ v ∧ v ≤ 1073741826 ∧ Hid (chainS 1 l ↔ chainS v (l.drop j)) ∧ Below w.heap.size w wr) (fun _ i _ => n - (intOf i).toNat)
  case atStart => exact ⟨0, 1, by omega, rfl, rfl, by omega, by omega, hide Iff.rfl, Below.refl _ _⟩
  case round =>
    obtain ⟨j, v, hj, rfl, rfl, hv1, hv2, HC, hb⟩ := hrel
    by_cases hlt : j < n
    · have hltL : j < l.length := by rw [Hn.out]; exact hlt
      have z0 : (j : Int) < n := by omega
      have zj : (0 : Int) ≤ j := by omega
      obtain ⟨bb, bo, rfl, hB, hCc⟩ := RS.cell (RD.below HR.out hb) (by omega)
      obtain ⟨d0, d1⟩ := hCc j hltL
      obtain ⟨x, hx⟩ : ∃ x, l[j] = x := ⟨_, rfl⟩
      rw [hx] at d0 d1
      have hox := Hok.out x (by rw [← hx]; exact List.getElem_mem hltL)
      have hdr : l.drop j = x :: l.drop (j + 1) := by rw [← hx]; exact List.drop_eq_getElem_cons hltL
      have HC1 := HC
      rw [hdr] at HC1
      obtain ⟨q1, q2, q3, q4⟩ := hox
      obtain ⟨x1, hx1⟩ : ∃ a, x.1 = a := ⟨_, rfl⟩
      obtain ⟨x2, hx2⟩ : ∃ a, x.2 = a := ⟨_, rfl⟩
      have HC2 : Hid (chainS 1 l ↔ v ≤ x1 ∧ x1 ≤ x2 ∧ x2 ≤ 1073741824 ∧ chainS (x2 + 2) (l.drop (j + 1))) := hide (by rw [← hx1, ← hx2]; exact HC1.out)
      rw [hx1] at d0 q1 q2
      rw [hx2] at d1 q3 q4
      obtain ⟨wx, hwx, FX, hsx, hbx⟩ := two_pb wr (.int .u32 x1) (.int .u32 x2) 76
      obtain ⟨y0, y1⟩ := FX.cells
      have hbxx := fresh hb hbx
      clear hCc hx hdr HC HC1 FX hx1 hx2
      by_cases c1 : x1 < v
      · have HE := hide (show chkS l = 8 from if_neg (fun h => by have := (HC2.out.1 h.2).1; omega))
        go_wp2_with fail
        go_ret
        exact ⟨by rw [HE.out]; rfl, hbxx⟩
      by_cases c2 : x2 < x1
      · have HE := hide (show chkS l = 8 from if_neg (fun h => by have := (HC2.out.1 h.2).2.1; omega))
        go_wp2_with fail
        go_ret
        exact ⟨by rw [HE.out]; rfl, hbxx⟩
      by_cases c3 : (1073741824 : Int) < x2
      · have HE := hide (show chkS l = 8 from if_neg (fun h => by have := (HC2.out.1 h.2).2.2.1; omega))
        go_wp2_with fail
        go_ret
        exact ⟨by rw [HE.out]; rfl, hbxx⟩
      · have zw : IntKind.u32.wrap (x2 + 2) = x2 + 2 := IntWalk.u32_in _ (by omega)
        have HC3 := hide (show chainS 1 l ↔ chainS (x2 + 2) (l.drop (j + 1)) from ⟨fun h => (HC2.out.1 h).2.2.2, fun h => HC2.out.2 ⟨by omega, by omega, by omega, h⟩⟩)
        go_wp2_with fail
        go_roundw
        case rel => exact ⟨j + 1, x2 + 2, by omega, by go_num, rfl, by omega, by omega, HC3, hbxx⟩
        case measure => simp [intOf]; omega
    · have z0 : ¬ (j : Int) < n := by omega
      have HE := hide (show chkS l = 0 from if_pos ⟨by rw [Hn.out]; omega, HC.out.2 (by rw [List.drop_eq_nil_of_le (by rw [Hn.out]; omega)]; trivial)⟩)
      go_wp2_with fail
      go_ret
      exact ⟨by rw [HE.out]; rfl, hb⟩
set_option maxHeartbeats 1600000 in
set_option maxRecDepth 100000 in
theorem spcount_any (A : Option Addr) (n c : Nat) (l : List Sp) (w : World) (hr : RS w w.heap.size A l) (hn : l.length = n) (hok : ∀ x ∈ l, okS x) :
    Calls Try.prog 107 #[.slice A n c] w fun e w' => e = .returned (.int .i64 (cntS l)) ∧ Below w.heap.size w w' := by
  have hP := hide (spcheck_any A n c l w hr hn hok)
  by_cases hm : mayS l
  rotate_left
  · rw [show chkS l = 8 from if_neg hm] at hP
    have HE := hide (show cntS l = 0 from if_neg hm)
    clear hm hr hn hok
    go_enter Try.func107, Try.ntmps107
    go_wp2_with fail
    refine hP.out.mono ?_
    rintro e w2 ⟨rfl, hb2⟩
    go_wp2_with fail
    go_ret
    exact ⟨by rw [HE.out]; rfl, hb2⟩
  rw [show chkS l = 0 from if_pos hm] at hP
  have HE := hide (show cntS l = sumS l from if_pos hm)
  have HM := hide hm.2
  have hn9 : n ≤ 1024 := by rw [← hn]; exact hm.1
  have Hn := hide hn
  have HR := hide hr
  clear hm hr hn hok
  go_enter Try.func107, Try.ntmps107
  go_wp2_with fail
  refine hP.out.mono ?_
  rintro e w2 ⟨rfl, hb2⟩
  go_wp2_with fail
  go_loopw [2, 10] (fun s i wr => ∃ j : Nat, j ≤ n ∧ i = .int .i64 (j : Int) ∧ s = .int .i64 (sumS (l.take j)) ∧ Below w.heap.size w wr) (fun _ i _ => n - (intOf i).toNat)
  case atStart => exact ⟨0, by omega, rfl, rfl, hb2⟩
  case round =>
    obtain ⟨j, hj, rfl, rfl, hb⟩ := hrel
    by_cases hlt : j < n
    · have hltL : j < l.length := by rw [Hn.out]; exact hlt
      have z0 : (j : Int) < n := by omega
      have zj : (0 : Int) ≤ j := by omega
      obtain ⟨bb, bo, rfl, hB, hCc⟩ := RS.cell (RD.below HR.out hb) (by omega)
      obtain ⟨d0, d1⟩ := hCc j hltL
      obtain ⟨k1, k2, k3⟩ := chainS_at l 1 j hltL HM.out
      obtain ⟨x, hx⟩ : ∃ x, l[j] = x := ⟨_, rfl⟩
      rw [hx] at d0 d1 k1 k2 k3
      have Ht := hide (show sumS (l.take (j + 1)) = sumS (l.take j) + (x.2 - x.1 + 1) by rw [List.take_succ_eq_append_getElem hltL, hx, sumS_snoc])
      have hs := sumS_le (l.take j) 1 (by omega) (chainS_take l 1 j HM.out)
      have hs2 : sumS (l.take j) ≤ 1073741825 := by
        by_cases h : l.take j = []
        · rw [h]; simp [sumS]
        · have := hs.2 h; omega
      have hs1 := hs.1
      obtain ⟨TT, hTT⟩ : ∃ t, t = sumS (l.take j) := ⟨_, rfl⟩
      rw [← hTT] at hs1 hs2 Ht ⊢
      obtain ⟨x1, hx1⟩ : ∃ a, x.1 = a := ⟨_, rfl⟩
      obtain ⟨x2, hx2⟩ : ∃ a, x.2 = a := ⟨_, rfl⟩
      rw [hx1] at d0 k1 k3 Ht
      rw [hx2] at d1 k1 k2 Ht
      obtain ⟨wx, hwx, FX, hsx, hbx⟩ := two_pb wr (.int .u32 x1) (.int .u32 x2) 76
      obtain ⟨y0, y1⟩ := FX.cells
      have hbxx := fresh hb hbx
      have zw1 : IntKind.i64.wrap x1 = x1 := IntWalk.i64_in _ (by omega)
      have zw2 : IntKind.i64.wrap x2 = x2 := IntWalk.i64_in _ (by omega)
      have zw3 : IntKind.i64.wrap (x2 - x1) = x2 - x1 := IntWalk.i64_in _ (by omega)
      have zw4 : IntKind.i64.wrap (x2 - x1 + 1) = x2 - x1 + 1 := IntWalk.i64_in _ (by omega)
      have zw5 : IntKind.i64.wrap (TT + (x2 - x1 + 1)) = TT + (x2 - x1 + 1) := IntWalk.i64_in _ (by omega)
      clear hCc hx FX hx1 hx2 hTT hs
      go_wp2_with fail
      go_roundw
      case rel => exact ⟨j + 1, by omega, by go_num, by rw [Ht.out], hbxx⟩
      case measure => simp [intOf]; omega
    · have z0 : ¬ (j : Int) < n := by omega
      rw [List.take_of_length_le (by rw [Hn.out]; omega)]
      go_wp2_with fail
      go_ret
      exact ⟨by rw [HE.out]; rfl, hb⟩
end Go.Proofs.Ytmkpfdcnikgokaa
