/-
  Texts of this claim, put together: Clocks, OpBox. What each theorem asks stands in its statement.
-/
import Derived.Test.YtmkpfdcnikgokaaMc5
import Derived.Test.YtmkpfdcnikgokaaMc8
set_option linter.unusedVariables false
set_option linter.unusedSimpArgs false
namespace Go.Proofs.Ytmkpfdcnikgokaa
open Go.RowKit
set_option maxHeartbeats 1600000 in
set_option maxRecDepth 100000 in
/-- slices.Equal: the same spans. -/
theorem spequal_any (A B : Option Addr) (c d n k : Nat) (l m : List Sp) (w : World) (hr : RS w w.heap.size A l) (hs : RS w w.heap.size B m) (hn : l.length = n) (hk : m.length = k) (hl : n < 1073741824) :
    Calls Try.prog 111 #[.slice A n c, .slice B k d] w fun e w' => e = .returned (.bool (decide (l = m))) ∧ Below w.heap.size w w' := by
  subst hn hk
  by_cases hne : (l.length : Int) = (m.length : Int)
  · have hll : l.length = m.length := by omega
    have E := hide hll
    have hbe : ((l.length : Int) == (m.length : Int)) = true := by simpa using hne
    have hbn : ((l.length : Int) != (m.length : Int)) = false := by simpa using hne
    clear hne
    go_enter Try.func111, Try.ntmps111
    clear hll
    go_wp2_with fail
    go_loopw [13] (fun i wr => ∃ k : Nat, k ≤ l.length ∧ i = .int .i64 (k : Int) ∧ Hid (l.take k = m.take k) ∧ Below w.heap.size w wr) (fun i _ => l.length - (intOf i).toNat)
    case atStart => exact ⟨0, by omega, rfl, hide rfl, Below.refl _ _⟩
    case round =>
      obtain ⟨k, hk, rfl, hT, hb⟩ := hrel
      by_cases hlt : k < l.length
      · have hltm : k < m.length := by have := E.out; omega
        obtain ⟨b0, o0, rfl, hB0, hC0⟩ := RS.cell (RD.below hr hb) (by omega)
        obtain ⟨b1, o1, rfl, hB1, hC1⟩ := RS.cell (RD.below hs hb) (by omega)
        obtain ⟨d0, d1⟩ := hC0 k hlt
        obtain ⟨e0, e1⟩ := hC1 k hltm
        clear hC0 hC1
        have z0 : (k : Int) < l.length := by omega
        have z1 : (k : Int) < m.length := by omega
        have z4 : (0 : Int) ≤ k := by omega
        obtain ⟨x0, hx0⟩ : ∃ x, x = l[k].1 := ⟨_, rfl⟩
        obtain ⟨x1, hx1⟩ : ∃ x, x = l[k].2 := ⟨_, rfl⟩
        obtain ⟨y0, hy0⟩ : ∃ x, x = m[k].1 := ⟨_, rfl⟩
        obtain ⟨y1, hy1⟩ : ∃ x, x = m[k].2 := ⟨_, rfl⟩
        rw [← hx0] at d0
        rw [← hx1] at d1
        rw [← hy0] at e0
        rw [← hy1] at e1
        have hX := hide (show l[k] = (x0, x1) by rw [hx0, hx1])
        have hY := hide (show m[k] = (y0, y1) by rw [hy0, hy1])
        clear hx0 hx1 hy0 hy1
        by_cases hxy : x0 = y0 ∧ x1 = y1
        · obtain ⟨rfl, rfl⟩ := hxy
          go_wp2_with fail
          go_quiet (fail)
          go_wp2_with fail
          go_roundw
          case rel =>
            refine ⟨k + 1, by omega, by go_num, hide ?_, below_drewN hb _⟩
            rw [List.take_succ_eq_append_getElem hlt, List.take_succ_eq_append_getElem hltm, hT.out, hX.out, hY.out]
          case measure => simp [intOf]; omega
        · have hcs : (¬ x0 = y0) ∨ (x0 = y0 ∧ ¬ x1 = y1) := by
            by_cases h0 : x0 = y0
            · exact .inr ⟨h0, fun h1 => hxy ⟨h0, h1⟩⟩
            · exact .inl h0
          have hf := hide (show decide (l = m) = false by
            rw [decide_eq_false_iff_not]
            intro e
            subst e
            have := hX.out.symm.trans hY.out
            simp only [Prod.mk.injEq] at this
            exact hxy this)
          clear hxy
          rcases hcs with h0 | ⟨rfl, h1⟩
          all_goals
            go_wp2_with fail
            go_quiet (fail)
            go_wp2_with fail
            go_ret
            exact ⟨ret_bool hf.out.symm, below_drewN hb _⟩
      · have hkl : ¬ (k : Int) < l.length := by omega
        have fin := hide (show decide (l = m) = true by
          have h1 := hT.out
          rw [List.take_of_length_le (by omega), List.take_of_length_le (by have := E.out; omega)] at h1
          exact decide_eq_true h1)
        go_wp2_with fail
        go_ret
        exact ⟨ret_bool fin.out.symm, hb⟩
  · have hbe : ((l.length : Int) == (m.length : Int)) = false := by simpa using hne
    have hbn : ((l.length : Int) != (m.length : Int)) = true := by simpa using hne
    have fin := hide (show decide (l = m) = false by
      rw [decide_eq_false_iff_not]
      intro e
      exact hne (by rw [e]))
    clear hne
    go_enter Try.func111, Try.ntmps111
    go_wp2_with fail
    go_ret
    exact ⟨ret_bool fin.out.symm, Below.refl _ _⟩
set_option maxHeartbeats 400000 in
set_option maxRecDepth 100000 in
theorem spsame_any (A B : Option Addr) (c d n k : Nat) (l m : List Sp) (w : World) (hr : RS w w.heap.size A l) (hs : RS w w.heap.size B m) (hn : l.length = n) (hk : m.length = k) (hl : n < 1073741824) :
    Calls Try.prog 95 #[.slice A n c, .slice B k d] w fun e w' => e = .returned (.bool (decide (l = m))) ∧ Below w.heap.size w w' := by
  have C := hide (spequal_any A B c d n k l m w hr hs hn hk hl)
  clear hn hk
  go_enter Try.func95, Try.ntmps95
  go_wp2_with fail
  refine (unhide C).mono ?_
  rintro e w1 ⟨rfl, hb1⟩
  go_wp2_with fail
  go_ret
  exact ⟨rfl, hb1⟩
/-- A replica's times, wherever they lie; as they lie. -/
abbrev PT := Int × List Sp
structure TmL where
  R : Int
  A : Option Addr
  c : Nat
  s : List Sp
def TmL.pt (x : TmL) : PT := (x.R, x.s)
def TmL.cells (x : TmL) : List Value := [.int .u8 x.R, .slice x.A x.s.length x.c]
abbrev tmv (R : Int) (A : Option Addr) (n c : Nat) : Value := .agg #[.int .u8 R, .slice A n c]
def tms (L : List TmL) : List Value := L.flatMap TmL.cells
theorem tms_append (L M : List TmL) : tms (L ++ M) = tms L ++ tms M := by simp [tms]
theorem tms_get (L : List TmL) : ∀ (i : Nat) (h : i < L.length), (tms L)[i * 2]? = some (.int .u8 L[i].R) ∧ (tms L)[i * 2 + 1]? = some (.slice L[i].A L[i].s.length L[i].c) := by
  induction L with
  | nil => intro i h; simp at h
  | cons a l ih =>
    intro i h
    have e : tms (a :: l) = .int .u8 a.R :: .slice a.A a.s.length a.c :: tms l := rfl
    rw [e]
    cases i with
    | zero => exact ⟨rfl, rfl⟩
    | succ i =>
      have := ih i (by simpa using h)
      rw [show (i + 1) * 2 = i * 2 + 2 by omega]
      exact this
theorem tms_one (L : List TmL) : ∀ u ∈ tms L, u.oneCell' = true := by
  intro u hu
  simp only [tms, List.mem_flatMap] at hu
  obtain ⟨a, _, h⟩ := hu
  simp [TmL.cells] at h
  rcases h with rfl | rfl <;> rfl
/-- A clock that is read. -/
def RT (w : World) (B : Nat) (A : Option Addr) (L : List TmL) : Prop := RD w B 2 A L.length (tms L) ∧ ∀ x ∈ L, RS w B x.A x.s
theorem RT.below {w w' : World} {B : Nat} {A : Option Addr} {L : List TmL} (h : RT w B A L) (hb : Below B w w') : RT w' B A L := ⟨RD.below h.1 hb, fun x hx => RD.below (h.2 x hx) hb⟩
theorem RT.more {w : World} {B B' : Nat} {A : Option Addr} {L : List TmL} (h : RT w B A L) (hB : B ≤ B') : RT w B' A L := ⟨RD.more h.1 hB, fun x hx => RD.more (h.2 x hx) hB⟩
theorem RT.nil (w : World) (B : Nat) (A : Option Addr) : RT w B A [] := ⟨RD.nil_, fun x hx => by cases hx⟩
theorem RT.cell {w : World} {B : Nat} {A : Option Addr} {L : List TmL} (h : RT w B A L) (hl : 0 < L.length) :
    ∃ b off, A = some ⟨b, off, none⟩ ∧ b < B ∧ ∀ j (hj : j < L.length), w.cell? ⟨b, off + j * 2, none⟩ = some (.int .u8 L[j].R) ∧ w.cell? ⟨b, off + j * 2 + 1, none⟩ = some (.slice L[j].A L[j].s.length L[j].c) := by
  obtain ⟨b, off, e, hb, hc⟩ := h.1.2 hl
  refine ⟨b, off, e, hb, fun j hj => ⟨hc (j * 2) _ (tms_get L j hj).1, ?_⟩⟩
  have := hc (j * 2 + 1) _ (tms_get L j hj).2
  rwa [← Nat.add_assoc] at this
/-- A clock's parts are of their types. -/
def okT (x : TmL) : Prop := 0 ≤ x.R ∧ x.R < 256 ∧ (∀ y ∈ x.s, okS y) ∧ x.s.length < 1073741824
/-- May a clock be, behind a replica? -/
def chainT : Int → List PT → Prop
  | _, [] => True
  | last, x :: l => last < x.1 ∧ x.1 < 8 ∧ 1 ≤ x.2.length ∧ mayS x.2 ∧ chainT x.1 l
instance decChainT : ∀ (last : Int) (l : List PT), Decidable (chainT last l)
  | _, [] => .isTrue trivial
  | last, x :: l => by
    have := decChainT x.1 l
    unfold chainT
    infer_instance
def mayT (P : List PT) : Prop := chainT (-1) P
instance (P : List PT) : Decidable (mayT P) := by unfold mayT; infer_instance
def chkT (P : List PT) : Int := if mayT P then 0 else 8
def sumT : List PT → Int
  | [] => 0
  | x :: l => sumS x.2 + sumT l
def cntT (P : List PT) : Int := if mayT P then sumT P else 0
theorem sumT_snoc (l : List PT) (x : PT) : sumT (l ++ [x]) = sumT l + sumS x.2 := by
  induction l with
  | nil => simp [sumT]
  | cons y l ih => simp only [List.cons_append, sumT, ih]; omega
theorem chainT_len : ∀ (l : List PT) (last : Int), -1 ≤ last → chainT last l → (l.length : Int) ≤ 7 - last ∨ l = []
  | [], _, _, _ => .inr rfl
  | x :: l, last, h, hc => by
    obtain ⟨h1, h2, -, -, h5⟩ := hc
    left
    rw [List.length_cons]
    rcases chainT_len l x.1 (by omega) h5 with h | rfl
    · omega
    · simp only [List.length_nil]; omega
theorem sumS_may {l : List Sp} (h : mayS l) : 0 ≤ sumS l ∧ sumS l ≤ 1073741825 := by
  obtain ⟨h1, h2⟩ := sumS_le l 1 (by omega) h.2
  refine ⟨h1, ?_⟩
  by_cases hn : l = []
  · subst hn; simp [sumS]
  · have := h2 hn; omega
theorem sumT_le : ∀ (l : List PT), (∀ x ∈ l, mayS x.2) → 0 ≤ sumT l ∧ sumT l ≤ 1073741825 * l.length
  | [], _ => by simp [sumT]
  | x :: l, h => by
    have h1 := sumT_le l fun y hy => h y (List.mem_cons_of_mem _ hy)
    have h2 := sumS_may (h x List.mem_cons_self)
    simp only [sumT, List.length_cons]
    omega
theorem chainT_all : ∀ (l : List PT) (last : Int), chainT last l → ∀ x ∈ l, mayS x.2 ∧ 1 ≤ x.2.length
  | x :: l, last, h, y, hy => by
    obtain ⟨-, -, h3, h4, h5⟩ := h
    rcases List.mem_cons.1 hy with rfl | hy
    · exact ⟨h4, h3⟩
    · exact chainT_all l _ h5 y hy
set_option maxHeartbeats 3200000 in
set_option maxRecDepth 100000 in
theorem tmcheck_any (A : Option Addr) (n c : Nat) (L : List TmL) (w : World) (hr : RT w w.heap.size A L) (hn : L.length = n) (hok : ∀ x ∈ L, okT x) (hn9 : n < 1073741824) :
    Calls Try.prog 87 #[.slice A n c] w fun e w' => e = .returned (.int .i64 (chkT (L.map TmL.pt))) ∧ Below w.heap.size w w' := by
  have Hok := hide hok
  have Hn := hide hn
  have HR := hide hr
  clear hok hn hr
  go_enter Try.func87, Try.ntmps87
  go_wp2_with fail
  go_loopw [3, 8] (fun lv i wr => ∃ (j : Nat) (v : Int), j ≤ n ∧ i = .int .i64 (j : Int) ∧ lv = .int .i64 v ∧ -1 ≤ v ∧ v < 256 ∧ Hid (chainT (-1) (L.map TmL.pt) ↔ chainT v ((L.drop j).map TmL.pt)) ∧ Below w.heap.size w wr) (fun _ i _ => n - (intOf i).toNat)
  case atStart => exact ⟨0, -1, by omega, rfl, rfl, by omega, by omega, hide Iff.rfl, Below.refl _ _⟩
  case round =>
    obtain ⟨j, v, hj, rfl, rfl, hv1, hv2, HC, hb⟩ := hrel
    by_cases hlt : j < n
    · have hltL : j < L.length := by rw [Hn.out]; exact hlt
      have z0 : (j : Int) < n := by omega
      have zj : (0 : Int) ≤ j := by omega
      obtain ⟨bb, bo, rfl, hB, hCc⟩ := RT.cell (HR.out.below hb) (by omega)
      obtain ⟨d0, d1⟩ := hCc j hltL
      obtain ⟨x, hx⟩ : ∃ x, L[j] = x := ⟨_, rfl⟩
      rw [hx] at d0 d1
      have hxm : x ∈ L := by rw [← hx]; exact List.getElem_mem hltL
      obtain ⟨q1, q2, q3, q4⟩ := Hok.out x hxm
      have hdr : L.drop j = x :: L.drop (j + 1) := by rw [← hx]; exact List.drop_eq_getElem_cons hltL
      have HC1 := HC
      rw [hdr] at HC1
      have HC2 : Hid (chainT (-1) (L.map TmL.pt) ↔ v < x.R ∧ x.R < 8 ∧ 1 ≤ x.s.length ∧ mayS x.s ∧ chainT x.R ((L.drop (j + 1)).map TmL.pt)) := hide HC1.out
      obtain ⟨wx, hwx, FX, hsx, hbx⟩ := two_pb wr (.int .u8 x.R) (.slice x.A x.s.length x.c) 79
      obtain ⟨y0, y1⟩ := FX.cells
      have hbxx := fresh hb hbx
      have hP := hide (spcheck_any x.A x.s.length x.c x.s wx (RD.more (RD.below (((HR.out.below hb).more hb.size).2 x hxm) hbx) hbx.size) rfl q3)
      have zc : IntKind.i64.wrap x.R = x.R := IntWalk.i64_in _ (by omega)
      have HFX := hide FX
      clear hCc hx hdr HC HC1 FX hxm q3
      by_cases c1 : x.R ≤ v
      · have HE := hide (show chkT (L.map TmL.pt) = 8 from if_neg (fun h => by have := (HC2.out.1 h).1; omega))
        go_wp2_with fail
        go_ret
        exact ⟨by rw [HE.out]; rfl, hbxx⟩
      by_cases c2 : (8 : Int) ≤ x.R
      · have HE := hide (show chkT (L.map TmL.pt) = 8 from if_neg (fun h => by have := (HC2.out.1 h).2.1; omega))
        go_wp2_with fail
        go_ret
        exact ⟨by rw [HE.out]; rfl, hbxx⟩
      by_cases c3 : (x.s.length : Int) < 1
      · have HE := hide (show chkT (L.map TmL.pt) = 8 from if_neg (fun h => by have := (HC2.out.1 h).2.2.1; omega))
        go_wp2_with fail
        go_ret
        exact ⟨by rw [HE.out]; rfl, hbxx⟩
      by_cases c4 : mayS x.s
      rotate_left
      · have HE := hide (show chkT (L.map TmL.pt) = 8 from if_neg (fun h => c4 (HC2.out.1 h).2.2.2.1))
        rw [show chkS x.s = 8 from if_neg c4] at hP
        clear c4
        go_wp2_with fail
        refine hP.out.mono ?_
        rintro e w2 ⟨rfl, hb2⟩
        clear y0 y1 d0 d1
        go_wp2_with fail
        go_ret
        exact ⟨by rw [HE.out]; rfl, fresh hbxx hb2⟩
      · have HC3 := hide (show chainT (-1) (L.map TmL.pt) ↔ chainT x.R ((L.drop (j + 1)).map TmL.pt) from ⟨fun h => (HC2.out.1 h).2.2.2.2, fun h => HC2.out.2 ⟨by omega, by omega, by omega, c4, h⟩⟩)
        rw [show chkS x.s = 0 from if_pos c4] at hP
        clear c4
        go_wp2_with fail
        refine hP.out.mono ?_
        rintro e w2 ⟨rfl, hb2⟩
        clear y0 y1 d0 d1
        obtain ⟨y0, y1⟩ := (HFX.out.below hb2).cells
        go_wp2_with fail
        go_roundw
        case rel => exact ⟨j + 1, x.R, by omega, by go_num, rfl, by omega, by omega, HC3, fresh hbxx hb2⟩
        case measure => simp [intOf]; omega
    · have z0 : ¬ (j : Int) < n := by omega
      have HE := hide (show chkT (L.map TmL.pt) = 0 from if_pos (HC.out.2 (by rw [List.drop_eq_nil_of_le (by rw [Hn.out]; omega)]; trivial)))
      go_wp2_with fail
      go_ret
      exact ⟨by rw [HE.out]; rfl, hb⟩
set_option maxHeartbeats 3200000 in
set_option maxRecDepth 100000 in
theorem tmcount_any (A : Option Addr) (n c : Nat) (L : List TmL) (w : World) (hr : RT w w.heap.size A L) (hn : L.length = n) (hok : ∀ x ∈ L, okT x) (hn9 : n < 1073741824) :
    Calls Try.prog 88 #[.slice A n c] w fun e w' => e = .returned (.int .i64 (cntT (L.map TmL.pt))) ∧ Below w.heap.size w w' := by
  have hP := hide (tmcheck_any A n c L w hr hn hok hn9)
  by_cases hm : mayT (L.map TmL.pt)
  rotate_left
  · rw [show chkT (L.map TmL.pt) = 8 from if_neg hm] at hP
    have HE := hide (show cntT (L.map TmL.pt) = 0 from if_neg hm)
    clear hm hr hn hok
    go_enter Try.func88, Try.ntmps88
    go_wp2_with fail
    refine hP.out.mono ?_
    rintro e w2 ⟨rfl, hb2⟩
    go_wp2_with fail
    go_ret
    exact ⟨by rw [HE.out]; rfl, hb2⟩
  rw [show chkT (L.map TmL.pt) = 0 from if_pos hm] at hP
  have HE := hide (show cntT (L.map TmL.pt) = sumT (L.map TmL.pt) from if_pos hm)
  have HM := hide (chainT_all _ _ hm)
  have hn8 : n ≤ 8 := by
    have h1 := chainT_len _ _ (by omega) hm
    rw [List.length_map] at h1
    rcases h1 with h | h
    · omega
    · have := congrArg List.length h; rw [List.length_map] at this; simp only [List.length_nil] at this; omega
  have Hok := hide hok
  have Hn := hide hn
  have HR := hide hr
  clear hm hr hn hok
  go_enter Try.func88, Try.ntmps88
  go_wp2_with fail
  refine hP.out.mono ?_
  rintro e w2 ⟨rfl, hb2⟩
  go_wp2_with fail
  go_loopw [2, 10] (fun s i wr => ∃ j : Nat, j ≤ n ∧ i = .int .i64 (j : Int) ∧ s = .int .i64 (sumT ((L.take j).map TmL.pt)) ∧ Below w.heap.size w wr) (fun _ i _ => n - (intOf i).toNat)
  case atStart => exact ⟨0, by omega, rfl, rfl, hb2⟩
  case round =>
    obtain ⟨j, hj, rfl, rfl, hb⟩ := hrel
    by_cases hlt : j < n
    · have hltL : j < L.length := by rw [Hn.out]; exact hlt
      have z0 : (j : Int) < n := by omega
      have zj : (0 : Int) ≤ j := by omega
      obtain ⟨bb, bo, rfl, hB, hCc⟩ := RT.cell (HR.out.below hb) (by omega)
      obtain ⟨d0, d1⟩ := hCc j hltL
      obtain ⟨x, hx⟩ : ∃ x, L[j] = x := ⟨_, rfl⟩
      rw [hx] at d0 d1
      have hxm : x ∈ L := by rw [← hx]; exact List.getElem_mem hltL
      obtain ⟨q1, q2, q3, q4⟩ := Hok.out x hxm
      have hmx := (HM.out x.pt (List.mem_map_of_mem hxm)).1
      have hsx := sumS_may hmx
      have hcx : cntS x.s = sumS x.s := if_pos hmx
      have Ht := hide (show sumT ((L.take (j + 1)).map TmL.pt) = sumT ((L.take j).map TmL.pt) + sumS x.s by rw [List.take_succ_eq_append_getElem hltL, hx, List.map_append]; exact sumT_snoc _ _)
      have htl := sumT_le ((L.take j).map TmL.pt) (fun y hy => by
        obtain ⟨z, hz, rfl⟩ := List.mem_map.1 hy
        exact (HM.out z.pt (List.mem_map_of_mem (List.mem_of_mem_take hz))).1)
      rw [List.length_map, List.length_take] at htl
      obtain ⟨wx, hwx, FX, hsxx, hbx⟩ := two_pb wr (.int .u8 x.R) (.slice x.A x.s.length x.c) 79
      obtain ⟨y0, y1⟩ := FX.cells
      have hbxx := fresh hb hbx
      have hP := hide (spcount_any x.A x.s.length x.c x.s wx (RD.more (RD.below (((HR.out.below hb).more hb.size).2 x hxm) hbx) hbx.size) rfl q3)
      rw [hcx] at hP
      obtain ⟨TT, hTT⟩ : ∃ t, t = sumT ((L.take j).map TmL.pt) := ⟨_, rfl⟩
      rw [← hTT] at htl Ht ⊢
      have hsx' : 0 ≤ sumS x.s ∧ sumS x.s ≤ 1073741825 := hsx
      obtain ⟨SS, hSS⟩ : ∃ s, s = sumS x.s := ⟨_, rfl⟩
      rw [← hSS] at hP Ht hsx'
      have zw : IntKind.i64.wrap (TT + SS) = TT + SS := IntWalk.i64_in _ (by omega)
      clear hCc hx FX hxm q3 hmx hsx hcx hTT hSS
      go_wp2_with fail
      refine hP.out.mono ?_
      rintro e w3 ⟨rfl, hb3⟩
      clear y0 y1 d0 d1
      go_wp2_with fail
      go_roundw
      case rel => exact ⟨j + 1, by omega, by go_num, by rw [Ht.out], fresh hbxx hb3⟩
      case measure => simp [intOf]; omega
    · have z0 : ¬ (j : Int) < n := by omega
      rw [List.take_of_length_le (by rw [Hn.out]; omega)]
      go_wp2_with fail
      go_ret
      exact ⟨by rw [HE.out]; rfl, hb⟩
set_option maxHeartbeats 1600000 in
set_option maxRecDepth 100000 in
theorem tmsame1 (x y : TmL) (n m : Nat) (w : World) (hr : RS w w.heap.size x.A x.s) (hs : RS w w.heap.size y.A y.s) (hn : x.s.length = n) (hm : y.s.length = m) (hl : n < 1073741824) :
    Calls Try.prog 94 #[tmv x.R x.A n x.c, tmv y.R y.A m y.c] w fun e w' => e = .returned (.bool (decide (x.pt = y.pt))) ∧ Below w.heap.size w w' := by
  obtain ⟨w1, hw1, F1, hs1, hb1⟩ := two_pb w (.int .u8 x.R) (.slice x.A n x.c) 79
  obtain ⟨w2, hw2, F2, hs2, hb2⟩ := two_pb w1 (.int .u8 y.R) (.slice y.A m y.c) 79
  have hb02 := fresh hb1 hb2
  obtain ⟨c0, c1⟩ := (F1.below hb2).cells
  obtain ⟨d0, d1⟩ := F2.cells
  have P := hide (spsame_any x.A y.A x.c y.c n m x.s y.s w2 (RD.more (RD.below hr hb02) hb02.size) (RD.more (RD.below hs hb02) hb02.size) hn hm hl)
  have hpt : ∀ (b : Bool), decide (x.s = y.s) = b → x.R = y.R → decide (x.pt = y.pt) = b := fun b h1 h2 => by
    rw [← h1]
    simp [TmL.pt, h2]
  by_cases hR : x.R = y.R
  · have hbe : (x.R == y.R) = true := by simpa using hR
    obtain ⟨bv, hbv⟩ : ∃ b, decide (x.s = y.s) = b := ⟨_, rfl⟩
    rw [hbv] at P
    have HE := hide (hpt bv hbv hR)
    rw [HE.out]
    clear hr hs hn hm hpt hbv hR F1 F2
    go_enter Try.func94, Try.ntmps94
    go_wp2_with fail
    refine P.out.mono ?_
    rintro e w3 ⟨rfl, hb3⟩
    go_wp2_with fail
    go_ret
    exact ⟨rfl, fresh hb02 hb3⟩
  · have hbe : (x.R == y.R) = false := by simpa using hR
    have HE := hide (show decide (x.pt = y.pt) = false from decide_eq_false fun h => hR (by have := congrArg Prod.fst h; exact this))
    rw [HE.out]
    clear hr hs hn hm hpt hR F1 F2 P
    go_enter Try.func94, Try.ntmps94
    go_wp2_with fail
    go_ret
    exact ⟨rfl, hb02⟩
end Go.Proofs.Ytmkpfdcnikgokaa
namespace Go.Proofs.Ytmkpfdcnikgokaa
open Go.RowKit
/-- An operation in a box. -/
def FB (w : World) (g : Nat) (k t r s z : Value) : Prop := w.heap[g]? = some (.cells #[k, t, r, s, z] 115 (0, 0))
theorem five_fb (w : World) (k t r s z : Value) : ∃ w2, w.alloc (.cells #[k, t, r, s, z] 115) = w2 ∧ FB w2 w.heap.size k t r s z ∧ w.heap.size < w2.heap.size ∧ Below w.heap.size w w2 :=
  ⟨_, rfl, heap_alloc_new _ _, by simp, boxed _ _⟩
theorem FB.cells {w : World} {g : Nat} {k t r s z : Value} (h : FB w g k t r s z) : w.cell? ⟨g, 0, none⟩ = some k ∧ w.cell? ⟨g, 1, none⟩ = some t ∧ w.cell? ⟨g, 2, none⟩ = some r ∧ w.cell? ⟨g, 3, none⟩ = some s ∧ w.cell? ⟨g, 4, none⟩ = some z := by
  refine ⟨?_, ?_, ?_, ?_, ?_⟩ <;> (rw [cell_of_row _ _ _ _ _ _ h]; rfl)
theorem FB.fr {w : World} {g : Nat} {k t r s z : Value} (h : FB w g k t r s z) (j : Nat) : w.frozen? ⟨g, j, none⟩ = false := frozen_of_row _ _ _ _ _ h
theorem FB.lt {w : World} {g : Nat} {k t r s z : Value} (h : FB w g k t r s z) : g < w.heap.size := (Array.getElem?_eq_some_iff.1 h).1
theorem FB.below {w w' : World} {g : Nat} {k t r s z : Value} (h : FB w g k t r s z) (hb : Below w.heap.size w w') : FB w' g k t r s z := (hb.block g h.lt).trans h
theorem FB.set3 {w : World} {g : Nat} {k t r s z : Value} (h : FB w g k t r s z) (v : Value) : FB (w.setCell ⟨g, 3, none⟩ v) g k t r v z := heap_setCell_same _ _ _ _ _ _ h
theorem FB.set4 {w : World} {g : Nat} {k t r s z : Value} (h : FB w g k t r s z) (v : Value) : FB (w.setCell ⟨g, 4, none⟩ v) g k t r s v := heap_setCell_same _ _ _ _ _ _ h
theorem FB.other {w : World} {g : Nat} {k t r s z : Value} (h : FB w g k t r s z) {g' : Nat} (hne : g ≠ g') (off : Nat) (v : Value) : FB (w.setCell ⟨g', off, none⟩ v) g k t r s z := (heap_setCell_other _ _ _ _ hne).trans h
/-- The five stores of an operation. -/
def put5 (w : World) (g : Nat) (k t r s z : Value) : World := ((((w.setCell ⟨g, 0, none⟩ k).setCell ⟨g, 1, none⟩ t).setCell ⟨g, 2, none⟩ r).setCell ⟨g, 3, none⟩ s).setCell ⟨g, 4, none⟩ z
theorem put5_fb {w : World} {g : Nat} {k' t' r' s' z' : Value} (h : FB w g k' t' r' s' z') (k t r s z : Value) : FB (put5 w g k t r s z) g k t r s z := by
  unfold put5
  exact heap_setCell_same _ _ _ _ _ _ (heap_setCell_same _ _ _ _ _ _ (heap_setCell_same _ _ _ _ _ _ (heap_setCell_same _ _ _ _ _ _ (heap_setCell_same _ _ _ _ _ _ h))))
theorem put5_below {B : Nat} {w W : World} (h : Below B w W) (g : Nat) (k t r s z : Value) (hB : B ≤ g) : Below B w (put5 W g k t r s z) := ((((h.setCell hB _).setCell hB _).setCell hB _).setCell hB _).setCell hB _
theorem put5_other {w : World} {g : Nat} {k t r s z : Value} {g' : Nat} (hne : g' ≠ g) : (put5 w g k t r s z).heap[g']? = w.heap[g']? := by
  unfold put5
  rw [heap_setCell_other _ _ _ _ hne, heap_setCell_other _ _ _ _ hne, heap_setCell_other _ _ _ _ hne, heap_setCell_other _ _ _ _ hne, heap_setCell_other _ _ _ _ hne]
end Go.Proofs.Ytmkpfdcnikgokaa
