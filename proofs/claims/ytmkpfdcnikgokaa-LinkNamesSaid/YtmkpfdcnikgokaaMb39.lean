/-
  Texts of this claim, put together: Link. What each theorem asks stands in its statement.
-/
import Derived.Lib.AppendZeros
import Derived.Laws.CopyOwn
import Derived.Test.YtmkpfdcnikgokaaMb10
import Derived.Test.YtmkpfdcnikgokaaMb38
set_option linter.unusedVariables false
set_option linter.unusedSimpArgs false
namespace Go.Proofs.Ytmkpfdcnikgokaa
open Go.RowKit
set_option maxHeartbeats 400000 in
set_option maxRecDepth 100000 in
theorem lchk1 (A : Option Addr) (n c : Nat) (w : World) : Calls Try.prog 60 #[.slice A n c] w fun e w' => e = .returned (.bool (decide ((20000 : Int) < n))) ∧ w' = w := by
  go_enter Try.func60, Try.ntmps60
  go_wp2_with fail
  go_ret
  exact ⟨rfl, rfl⟩
set_option maxHeartbeats 800000 in
set_option maxRecDepth 100000 in
theorem lindex (A : Option Addr) (n c : Nat) (L : List FrL) (w : World) (hr : RF w w.heap.size A L) (hn : L.length = n) (hl : n ≤ 64) :
    Calls Try.prog 81 #[.slice A n c, .func (.func 60) #[] #[]] w fun e w' => ∃ m : Int, e = .returned (.int .i64 m) ∧ (m = -1 ∧ (∀ x ∈ L, x.b.length ≤ 20000) ∨ 0 ≤ m ∧ ¬ ∀ x ∈ L, x.b.length ≤ 20000) ∧ w' = w := by
  have HR := hide hr
  have Hn := hide hn
  clear hr hn
  go_enter Try.func81, Try.ntmps81
  go_wp2_with fail
  go_loopw [8] (fun i wr => ∃ j : Nat, j ≤ n ∧ i = .int .i64 (j : Int) ∧ Hid (∀ x ∈ L.take j, x.b.length ≤ 20000) ∧ wr = w) (fun i _ => n - (intOf i).toNat)
  case atStart => exact ⟨0, by omega, rfl, hide (fun x hx => by cases hx), rfl⟩
  case round =>
    obtain ⟨j, hj, rfl, HM, rfl⟩ := hrel
    by_cases hlt : j < n
    · have hltL : j < L.length := by rw [Hn.out]; exact hlt
      have z0 : (j : Int) < n := by omega
      have zj : (0 : Int) ≤ j := by omega
      obtain ⟨bb, bo, rfl, hB, hC⟩ := RF.cell HR.out (by omega)
      have d0 := hC j hltL
      obtain ⟨x, hx⟩ : ∃ x, L[j] = x := ⟨_, rfl⟩
      rw [hx] at d0
      have Hx := hide (show x ∈ L by rw [← hx]; exact List.getElem_mem hltL)
      have Htake := hide (show L.take (j + 1) = L.take j ++ [x] by rw [List.take_succ_eq_append_getElem hltL, hx])
      have hP := hide (lchk1 x.A x.b.length x.c wr)
      clear hC hx
      by_cases hm : (20000 : Int) < x.b.length
      · rw [decide_eq_true hm] at hP
        have Hm := hide hm
        clear hm
        go_wp2_with fail
        refine hP.out.mono ?_
        rintro e w2 ⟨rfl, rfl⟩
        go_wp2_with fail
        go_ret
        exact ⟨(j : Int), rfl, .inr ⟨by omega, fun h => by have := h x Hx.out; have := Hm.out; omega⟩, rfl⟩
      · rw [decide_eq_false hm] at hP
        have Hm := hide hm
        clear hm
        go_wp2_with fail
        refine hP.out.mono ?_
        rintro e w2 ⟨rfl, rfl⟩
        go_wp2_with fail
        go_roundw
        case rel =>
          refine ⟨j + 1, by omega, by go_num, hide fun q hq => ?_, (by first | rfl | trivial)⟩
          rw [Htake.out] at hq
          rcases List.mem_append.1 hq with h | h
          · exact HM.out q h
          · simp only [List.mem_singleton] at h
            subst h
            have := Hm.out
            omega
        case measure => simp [intOf]; omega
    · have z0 : ¬ (j : Int) < n := by omega
      have Ha := hide (show ∀ x ∈ L, x.b.length ≤ 20000 by have := HM.out; rwa [List.take_of_length_le (by rw [Hn.out]; omega)] at this)
      go_wp2_with fail
      go_ret
      exact ⟨-1, rfl, .inl ⟨rfl, Ha.out⟩, rfl⟩
set_option maxHeartbeats 400000 in
set_option maxRecDepth 100000 in
theorem lcontains (A : Option Addr) (n c : Nat) (L : List FrL) (w : World) (hr : RF w w.heap.size A L) (hn : L.length = n) (hl : n ≤ 64) :
    Calls Try.prog 59 #[.slice A n c, .func (.func 60) #[] #[]] w fun e w' => e = .returned (.bool (decide (¬ ∀ x ∈ L, x.b.length ≤ 20000))) ∧ w' = w := by
  have hP := hide (lindex A n c L w hr hn hl)
  clear hr hn
  go_enter Try.func59, Try.ntmps59
  go_wp2_with fail
  refine hP.out.mono ?_
  rintro e w2 ⟨m, rfl, hm, rfl⟩
  rcases hm with ⟨rfl, hm⟩ | ⟨h0, hm⟩
  · have Hd := hide (show decide (¬ ∀ x ∈ L, x.b.length ≤ 20000) = false from decide_eq_false (fun h => h hm))
    clear hm
    go_wp2_with fail
    go_ret
    exact ⟨by rw [Hd.out]; rfl, rfl⟩
  · have Hd := hide (show decide (¬ ∀ x ∈ L, x.b.length ≤ 20000) = true from decide_eq_true hm)
    clear hm
    go_wp2_with fail
    go_ret
    exact ⟨by rw [Hd.out]; exact ret_bool (by first | (simp; done) | simpa using h0), rfl⟩
/-- May frames be in flight? -/
def okF (L : List FrL) : Prop := L.length ≤ 64 ∧ ∀ x ∈ L, x.b.length ≤ 20000
instance (L : List FrL) : Decidable (okF L) := by unfold okF; infer_instance
def chkF (L : List FrL) : Int := if okF L then 0 else 8
set_option maxHeartbeats 400000 in
set_option maxRecDepth 100000 in
theorem lcheck (A : Option Addr) (n c : Nat) (L : List FrL) (w : World) (hr : RF w w.heap.size A L) (hn : L.length = n) :
    Calls Try.prog 27 #[.slice A n c] w fun e w' => e = .returned (.int .i64 (chkF L)) ∧ w' = w := by
  by_cases h64 : (64 : Int) < n
  · have Hc := hide (show chkF L = 8 from if_neg (fun h => by have := h.1; omega))
    clear hr hn
    go_enter Try.func27, Try.ntmps27
    go_wp2_with fail
    go_ret
    exact ⟨by rw [Hc.out]; rfl, rfl⟩
  · have hP := hide (lcontains A n c L w hr hn (by omega))
    by_cases hm : ∀ x ∈ L, x.b.length ≤ 20000
    · rw [decide_eq_false (fun h => h hm)] at hP
      have Hc := hide (show chkF L = 0 from if_pos ⟨by omega, hm⟩)
      clear hr hn hm
      go_enter Try.func27, Try.ntmps27
      go_wp2_with fail
      refine hP.out.mono ?_
      rintro e w2 ⟨rfl, rfl⟩
      go_wp2_with fail
      go_ret
      exact ⟨by rw [Hc.out]; rfl, rfl⟩
    · rw [decide_eq_true hm] at hP
      have Hc := hide (show chkF L = 8 from if_neg (fun h => hm h.2))
      clear hr hn hm
      go_enter Try.func27, Try.ntmps27
      go_wp2_with fail
      refine hP.out.mono ?_
      rintro e w2 ⟨rfl, rfl⟩
      go_wp2_with fail
      go_ret
      exact ⟨by rw [Hc.out]; rfl, rfl⟩
theorem lmake (w : World) (n : Nat) (h : n ≤ 100000) :
    ∃ w', (Instr.makeSlice 28 (.int .i64 (n : Int)) (.int .i64 (n : Int))).run Try.prog w = .ok (.slice (some ⟨w.heap.size, 0, none⟩) n n) w' ∧ (∃ cur : List Value, cur.length = n ∧ w'.heap[w.heap.size]? = some (.cells cur.toArray 5 (0, 0))) ∧ Below w.heap.size w w' := by
  obtain ⟨i0, hi0, hz0, hz1, hz2⟩ := info_parts fru8
  obtain ⟨w', h1, h2, h3⟩ := run_makeSlice_full (P := Try.prog) w w.heap.size 28 5 i0 (.int .u8 0) 1 Try.underlying28 hi0 hz0 hz1 .i64 .i64 n (by omega) (by rw [hz2]; omega) (by unfold maxLen; omega) (Nat.le_refl _)
  refine ⟨w', h1, ?_, grown_below (World.ownsRow_nil _ _ _ _ : w.ownsRow w.heap.size 5 1 (.slice none 0 0) 0 []) h3 (Nat.le_refl _)⟩
  rcases h2.2 with ⟨h4, -⟩ | ⟨g, cap, cur, h4, -, h5, -, -, h6, -⟩
  · simp at h4
  · simp only [Value.slice.injEq, Option.some.injEq, Addr.mk.injEq, and_true, true_and] at h4
    obtain ⟨h4, rfl⟩ := h4
    subst h4
    exact ⟨cur.toList, by rw [Array.length_toList, h6, Nat.mul_one], by rw [Array.toArray_toList]; exact h5⟩
set_option maxHeartbeats 800000 in
set_option maxRecDepth 100000 in
theorem lown (A : Option Addr) (n c : Nat) (b : List UInt8) (w : World) (hr : RB w w.heap.size A b) (hn : b.length = n) (hl : n ≤ 100000) :
    Calls Try.prog 29 #[.slice A n c] w fun e w' => ∃ A' c', e = .returned (.slice A' n c') ∧ w'.ownsRow w.heap.size 5 1 (.slice A' n c') n (u8s b) ∧ Below w.heap.size w w' := by
  obtain ⟨i0, hi0, hz0, hz1, hz2⟩ := info_parts fru8
  have hsz : (Try.prog.info? 5).map (·.size) = some 1 := by rw [hi0]; exact congrArg some hz1
  obtain ⟨w1, hmk, ⟨cur, hcl, hg⟩, hb1⟩ := lmake w n hl
  obtain ⟨g, hgg⟩ : ∃ g, g = w.heap.size := ⟨_, rfl⟩
  rw [← hgg] at hmk hg
  have HR1 := hide (show RB w1 w1.heap.size A b from (RD.below hr hb1).more hb1.size)
  have Hcur := hide (And.intro hcl hg)
  have Hn := hide hn
  have Hg := hide hgg
  clear hr hn hcl hg hgg
  go_enter Try.func29, Try.ntmps29
  go_wp2_with (first
    | (rw [hmk]; clear hmk)
    | (with_reducible refine wpList_copy_splice rfl (.tmp 7) (.tmp 8) 28 28 rfl 5 Try.underlying28 hsz (some ⟨g, 0, none⟩) A n n n c rfl rfl g 0 cur 5 Hcur.out.2 (u8s b) (by rw [u8s_len, Hn.out]; exact (Nat.min_self n).symm) ?_ (by rw [u8s_len, Hn.out, Hcur.out.1]; omega) (u8s_one b) w.heap.size w hb1 (by rw [Hg.out]; exact Nat.le_refl _) ?_))
  · intro h0
    obtain ⟨b0, o0, rfl, -, hc⟩ := HR1.out.2 (by rw [u8s_len] at h0; exact h0)
    exact ⟨_, rfl, fun j v hv => by rw [add_none]; exact hc j v hv⟩
  · intro w2 hw2 hb2
    have Hw2 := hide hw2.out
    clear hw2 hb1 HR1
    go_wp2_with fail
    go_ret
    refine ⟨some ⟨g, 0, none⟩, n, rfl, ⟨by rw [u8s_len, Hn.out, Nat.mul_one], .inr ⟨g, n, _, rfl, by rw [Hg.out]; exact Nat.le_refl _, Hw2.out, Nat.le_refl _, by unfold maxLen; omega, ?_, ?_⟩⟩, hb2⟩
    · simp [splice, u8s_len, Hn.out, Hcur.out.1]
    · have hlen : (u8s b).length = n := by rw [u8s_len, Hn.out]
      simp only [splice, List.take_zero, List.nil_append, Nat.zero_add, Nat.mul_one]
      rw [← hlen, List.take_left]
set_option maxHeartbeats 1600000 in
set_option maxRecDepth 100000 in
theorem ltwin (A : Option Addr) (n c : Nat) (L : List FrL) (w : World) (hr : RF w w.heap.size A L) (hn : L.length = n) (hok : okF L) :
    Calls Try.prog 28 #[.slice A n c] w fun e w' => ∃ A' c' L', e = .returned (.slice A' n c') ∧ L'.map FrL.b = L.map FrL.b ∧ OF w' w.heap.size A' c' L' ∧ Below w.heap.size w w' := by
  have HR := hide hr
  have Hn := hide hn
  have Hok := hide hok.2
  have hn9 : n ≤ 64 := by rw [← hn]; exact hok.1
  clear hr hn hok
  go_enter Try.func28, Try.ntmps28
  go_wp2_with fail
  go_loopw [2, 7] (fun v i wr => ∃ (j : Nat) (A' : Option Addr) (c' : Nat) (L' : List FrL), j ≤ n ∧ i = .int .i64 (j : Int) ∧ v = .slice A' j c' ∧ Hid (L'.length = j) ∧ Hid (L'.map FrL.b = (L.take j).map FrL.b) ∧ Hid (OF wr w.heap.size A' c' L') ∧ Below w.heap.size w wr) (fun _ i _ => n - (intOf i).toNat)
  case atStart => exact ⟨0, none, 0, [], by omega, rfl, rfl, hide rfl, hide rfl, hide (OF.nil _ _), Below.refl _ _⟩
  case round =>
    obtain ⟨j, A', c', L', hj, rfl, rfl, hLl, hLm, hO, hb⟩ := hrel
    by_cases hlt : j < n
    · have hltL : j < L.length := by rw [Hn.out]; exact hlt
      have z0 : (j : Int) < n := by omega
      have zj : (0 : Int) ≤ j := by omega
      obtain ⟨bb, bo, rfl, hB, hC⟩ := RF.cell (HR.out.below hb) (by omega)
      have d0 := hC j hltL
      obtain ⟨x, hx⟩ : ∃ x, L[j] = x := ⟨_, rfl⟩
      rw [hx] at d0
      have hxm : x ∈ L := by rw [← hx]; exact List.getElem_mem hltL
      have hP := hide (lown x.A x.b.length x.c x.b wr (((HR.out.below hb).more hb.size).2 x hxm) rfl (by have := Hok.out x hxm; omega))
      have T0 := hide (show (L.take (j + 1)).map FrL.b = (L.take j).map FrL.b ++ [x.b] by rw [List.take_succ_eq_append_getElem hltL, hx, List.map_append]; rfl)
      clear hC hx hxm
      go_wp2_with fail
      refine hP.out.mono ?_
      rintro e w2 ⟨A2, c2, rfl, hown, hb2⟩
      have hb02 := fresh hb hb2
      have HO2 := hide (hO.out.below hb2)
      have Hown := hide hown
      clear d0 hown hO
      go_wp2_with (at_builtin; refine wpList_append_fr _ rfl (.tmp 11) (.tmp 14) rfl w.heap.size A' c' j L' hLl.out rfl (HO2.out.below (fboxF _ _)) ⟨A2, c2, x.b⟩ (fr_less (own_below Hown.out (fboxF _ _) (Nat.le_refl _)) hb.size) (some ⟨w2.heap.size, 0, none⟩) rfl (fr_row w2 ⟨A2, c2, x.b⟩) (by omega) (Nat.le_trans hb02.size (fboxF w2 _).size) ?_; intro A3 c3 w3 hO3 hb3)
      go_roundw
      case rel =>
        refine ⟨j + 1, A3, c3, L' ++ [⟨A2, c2, x.b⟩], by omega, by go_num, rfl, hide ?_, hide ?_, hide hO3, (fresh hb02 (fboxF w2 _)).trans hb3⟩
        · rw [List.length_append, hLl.out]; rfl
        · rw [T0.out, List.map_append, hLm.out]; rfl
      case measure => simp [intOf]; omega
    · have z0 : ¬ (j : Int) < n := by omega
      obtain rfl : j = n := by omega
      rw [List.take_of_length_le (by rw [Hn.out]; omega)] at hLm
      go_wp2_with fail
      go_ret
      exact ⟨A', c', rfl, L', hLm.out, hO.out, hb⟩
/-- Push's answer: its error, the bytes of its frames. -/
def pushE (L : List FrL) (b : List UInt8) : Int := if ¬ okF L then 8 else if 20000 < b.length then 4 else if L.length = 64 then 9 else 0
def pushL (L : List FrL) (b : List UInt8) : List (List UInt8) := if pushE L b = 0 then L.map FrL.b ++ [b] else []
set_option maxHeartbeats 1600000 in
set_option maxRecDepth 100000 in
theorem lpush (A B : Option Addr) (n c m d : Nat) (L : List FrL) (b : List UInt8) (w : World) (hr : RF w w.heap.size A L) (hn : L.length = n) (hs : RB w w.heap.size B b) (hm : b.length = m) :
    Calls Try.prog 11 #[.slice A n c, .slice B m d] w fun e w' => ∃ A' c' L', e = .returned (.tuple #[.slice A' (List.length (α := FrL) L') c', .int .i64 (pushE L b)]) ∧ L'.map FrL.b = pushL L b ∧ OF w' w.heap.size A' c' L' ∧ Below w.heap.size w w' := by
  have hP := hide (lcheck A n c L w hr hn)
  by_cases hok : okF L
  rotate_left
  · rw [show chkF L = 8 from if_neg hok] at hP
    have hE : pushE L b = 8 := if_pos hok
    have HE := hide (And.intro hE (show pushL L b = [] by unfold pushL; rw [hE]; rfl))
    clear hok hE hr hn hs hm
    go_enter Try.func11, Try.ntmps11
    go_wp2_with fail
    refine hP.out.mono ?_
    rintro e w2 ⟨rfl, rfl⟩
    go_wp2_with fail
    refine bodyPost_ret (v := .tuple #[.slice none 0 0, .int .i64 8]) (by simp [results, Try.results11, go_sem]) rfl ?_
    exact ⟨none, 0, [], by rw [HE.out.1]; rfl, by rw [HE.out.2]; rfl, OF.nil _ _, Below.refl _ _⟩
  rw [show chkF L = 0 from if_pos hok] at hP
  by_cases hbig : (20000 : Int) < m
  · have hE : pushE L b = 4 := by unfold pushE; rw [if_neg (fun h => h hok), if_pos (by omega)]
    have HE := hide (And.intro hE (show pushL L b = [] by unfold pushL; rw [hE]; rfl))
    clear hok hE hr hn hs hm
    go_enter Try.func11, Try.ntmps11
    go_wp2_with fail
    refine hP.out.mono ?_
    rintro e w2 ⟨rfl, rfl⟩
    go_wp2_with fail
    refine bodyPost_ret (v := .tuple #[.slice none 0 0, .int .i64 4]) (by simp [results, Try.results11, go_sem]) rfl ?_
    exact ⟨none, 0, [], by rw [HE.out.1]; rfl, by rw [HE.out.2]; rfl, OF.nil _ _, Below.refl _ _⟩
  by_cases hfull : (n : Int) = 64
  · have hE : pushE L b = 9 := by unfold pushE; rw [if_neg (fun h => h hok), if_neg (by omega), if_pos (by omega)]
    have HE := hide (And.intro hE (show pushL L b = [] by unfold pushL; rw [hE]; rfl))
    have z64 : ((n : Int) == 64) = true := by simpa using hfull
    clear hok hE hr hn hs hm hfull
    go_enter Try.func11, Try.ntmps11
    go_wp2_with fail
    refine hP.out.mono ?_
    rintro e w2 ⟨rfl, rfl⟩
    go_wp2_with fail
    refine bodyPost_ret (v := .tuple #[.slice none 0 0, .int .i64 9]) (by simp [results, Try.results11, go_sem]) rfl ?_
    exact ⟨none, 0, [], by rw [HE.out.1]; rfl, by rw [HE.out.2]; rfl, OF.nil _ _, Below.refl _ _⟩
  · have hE : pushE L b = 0 := by unfold pushE; rw [if_neg (fun h => h hok), if_neg (by omega), if_neg (by omega)]
    have HE := hide (And.intro hE (show pushL L b = L.map FrL.b ++ [b] by unfold pushL; rw [if_pos hE]))
    have z64 : ((n : Int) == 64) = false := by simpa using hfull
    have hT := hide (ltwin A n c L w hr hn hok)
    have hO := hide (fun (W : World) (h : Below w.heap.size w W) => lown B m d b W ((RD.below hs h).more h.size) hm (by omega))
    have hn9 : n ≤ 64 := by rw [← hn]; exact hok.1
    have Hn := hide (And.intro hn hm)
    clear hok hE hr hn hs hm hfull
    go_enter Try.func11, Try.ntmps11
    go_wp2_with fail
    refine hP.out.mono ?_
    rintro e w2 ⟨rfl, rfl⟩
    go_wp2_with fail
    refine hT.out.mono ?_
    rintro e w3 ⟨A3, c3, L3, rfl, hL3, hO3, hb3⟩
    have hl3 : L3.length = n := by rw [← Hn.out.1, ← List.length_map FrL.b, hL3, List.length_map]
    have H3 := hide (And.intro hL3 hl3)
    have HO3 := hide hO3
    clear hL3 hO3 hl3
    go_wp2_with fail
    refine (unhide hO w3 hb3).mono ?_
    rintro e w4 ⟨A4, c4, rfl, hown, hb4⟩
    have hb04 := fresh hb3 hb4
    have HO4 := hide (HO3.out.below hb4)
    have Hown := hide hown
    obtain ⟨bl, hbl⟩ : ∃ k, k = b.length := ⟨_, rfl⟩
    have hmb : m = bl := by rw [hbl, Hn.out.2]
    rw [hmb] at Hown ⊢
    rw [hbl] at Hown ⊢
    clear hown hmb hbl
    go_wp2_with (at_builtin; refine wpList_append_fr _ rfl (.tmp 19) (.tmp 22) rfl w2.heap.size A3 c3 n L3 H3.out.2 rfl (HO4.out.below (fboxF _ _)) ⟨A4, c4, b⟩ (fr_less (own_below Hown.out (fboxF _ _) (Nat.le_refl _)) hb3.size) (some ⟨w4.heap.size, 0, none⟩) rfl (fr_row w4 ⟨A4, c4, b⟩) (by omega) (Nat.le_trans hb04.size (fboxF w4 _).size) ?_; intro A5 c5 w5 hO5 hb5)
    have HO5 := hide hO5
    have hb05 := (fresh hb04 (fboxF w4 _)).trans hb5
    refine bodyPost_ret (v := .tuple #[.slice A5 (n + 1) c5, .int .i64 0]) (by simp [results, Try.results11, go_sem]) rfl ?_
    exact ⟨A5, c5, L3 ++ [⟨A4, c4, b⟩], by rw [HE.out.1, List.length_append, H3.out.2]; rfl, by rw [HE.out.2, List.map_append, H3.out.1]; rfl, HO5.out, hb05⟩
end Go.Proofs.Ytmkpfdcnikgokaa
