/-
  Texts of this claim, put together: LinkAlive, LinkNames. What each theorem asks stands in its statement.
-/
import Derived.Lib.SlBytesConst
import Derived.Test.YtmkpfdcnikgokaaMb37
import Derived.Test.YtmkpfdcnikgokaaMb41
import Derived.Test.YtmkpfdcnikgokaaMb43
set_option linter.unusedVariables false
set_option linter.unusedSimpArgs false
namespace Go.Proofs.Ytmkpfdcnikgokaa
open Go.RowKit
theorem okF_of {L : List FrL} {K : List (List UInt8)} (h : L.map FrL.b = K) (h1 : K.length ≤ 64) (h2 : ∀ b ∈ K, b.length ≤ 20000) : okF L := by
  refine ⟨by rw [← List.length_map FrL.b, h]; exact h1, fun x hx => h2 x.b ?_⟩
  rw [← h]
  exact List.mem_map_of_mem hx
theorem push_of {L : List FrL} {K : List (List UInt8)} {b : List UInt8} (h : L.map FrL.b = K) (h1 : K.length < 64) (h2 : ∀ b ∈ K, b.length ≤ 20000) (hb : b.length ≤ 20000) : pushE L b = 0 ∧ pushL L b = K ++ [b] := by
  have hl : L.length = K.length := by rw [← h, List.length_map]
  have hE : pushE L b = 0 := by
    unfold pushE
    rw [if_neg (fun k => k (okF_of h (by omega) h2)), if_neg (by omega), if_neg (by omega)]
  exact ⟨hE, by unfold pushL; rw [if_pos hE, h]⟩
theorem atE_of {L : List FrL} {K : List (List UInt8)} {m : Nat} (h : L.map FrL.b = K) (h1 : K.length ≤ 64) (h2 : ∀ b ∈ K, b.length ≤ 20000) (hm : m < K.length) : atE L m = 0 ∧ pullV L m = ((K[m]?).getD [], K.eraseIdx m) := by
  have hl : L.length = K.length := by rw [← h, List.length_map]
  have hE : atE L m = 0 := by
    unfold atE
    rw [if_neg (fun k => k (okF_of h h1 h2)), if_neg (by omega)]
  refine ⟨hE, ?_⟩
  unfold pullV
  rw [if_pos hE, h, Int.toNat_natCast]
theorem two_small : ∀ b ∈ [[(97 : UInt8)], [98]], b.length ≤ 20000 := by decide
set_option maxHeartbeats 1600000 in
set_option maxRecDepth 100000 in
theorem lboth (w : World) : Calls Try.prog 24 #[] w fun e w' => ∃ (A : Option Addr) (c : Nat) (Q : List FrL), e = .returned (.tuple #[.slice A 2 c, .bool true]) ∧ Q.map FrL.b = [[97], [98]] ∧ OF w' w.heap.size A c Q ∧ Below w.heap.size w w' := by
  have P1 := hide (fun (W : World) => lpush none (some ⟨W.heap.size, 0, none⟩) 0 0 1 1 [] [97] (W.alloc (.cells #[.int .u8 97] 5 (1, 2))) (RF.nil _ _ _) rfl (RB.row (heap_alloc_new _ _) rfl) rfl)
  have P2 := hide (fun (W : World) (A : Option Addr) (c : Nat) (Q : List FrL) (h : RF W W.heap.size A Q) (hn : Q.length = 1) => lpush A (some ⟨W.heap.size, 0, none⟩) 1 c 1 1 Q [98] (W.alloc (.cells #[.int .u8 98] 5 (1, 2))) ((h.below (fboxF _ _)).more (fboxF W _).size) hn (RB.row (heap_alloc_new _ _) rfl) rfl)
  obtain ⟨e1, e2⟩ := push_of (L := []) (K := []) (b := [97]) rfl (by decide) (fun b hb => by cases hb) (by decide)
  rw [e1, e2] at P1
  clear e1 e2
  have kc := fun (w : World) (C : Array Value) (n c : Nat) => Lib.run_convert_bytes_const (P := Try.prog) w 28 5 C n c Try.underlying28 Try.underlying5
  go_enter Try.func24, Try.ntmps24
  go_wp2_with fail
  refine (unhide P1 w).mono ?_
  rintro e w2 ⟨A2, c2, L2, rfl, hL2, hO2, hb2'⟩
  have hb2 : Below w.heap.size w w2 := fresh (fboxF w _) hb2'
  have hl2 : L2.length = 1 := by rw [← List.length_map FrL.b, hL2]; rfl
  rw [hl2]
  obtain ⟨e1, e2⟩ := push_of (b := [98]) hL2 (by decide) (by decide) (by decide)
  have P3 := hide (unhide P2 w2 A2 c2 L2 hO2.rf hl2)
  rw [e1, e2] at P3
  clear e1 e2 hL2 hO2 hl2 hb2' P1 P2
  go_wp2_with fail
  refine P3.out.mono ?_
  rintro e w3 ⟨A3, c3, L3, rfl, hL3, hO3, hb3'⟩
  have hb3 : Below w2.heap.size w2 w3 := fresh (fboxF w2 _) hb3'
  have hb03 := fresh hb2 hb3
  have hl3 : L3.length = 2 := by rw [← List.length_map FrL.b, hL3]; rfl
  rw [hl3]
  have HH := hide (And.intro hL3 (hO3.less (Nat.le_trans hb2.size (fboxF w2 _).size)))
  clear hL3 hO3 hl3 hb3' P3
  go_wp2_with fail
  refine bodyPost_ret (v := .tuple #[.slice A3 2 c3, .bool true]) (by simp [results, Try.results24, go_sem]) rfl ?_
  exact ⟨A3, c3, L3, rfl, HH.out.1, HH.out.2, hb03⟩
/-- Strings in a row. -/
def strs (W : List (List UInt8)) : List Value := W.map fun b => .string ⟨b.toArray⟩
set_option maxHeartbeats 1600000 in
set_option maxRecDepth 100000 in
theorem lare (A B : Option Addr) (n m c d : Nat) (L : List FrL) (W : List (List UInt8)) (w : World) (hr : RF w w.heap.size A L) (hs : RD w w.heap.size 1 B m (strs W)) (hn : L.length = n) (hm : W.length = m) (hn9 : n < 1000000) :
    Calls Try.prog 25 #[.slice A n c, .slice B m d] w fun e w' => e = .returned (.bool (decide (L.map FrL.b = W))) ∧ Below w.heap.size w w' := by
  have HR := hide hr
  have HS := hide hs
  have Hnm := hide (And.intro hn hm)
  clear hr hs
  by_cases hne : (n : Int) = (m : Int)
  · have hnm : n = m := by omega
    have hbe : ((n : Int) == (m : Int)) = true := by simpa using hne
    have hbn : ((n : Int) != (m : Int)) = false := by simpa using hne
    have E := hide hnm
    clear hne hn hm hnm
    go_enter Try.func25, Try.ntmps25
    go_wp2_with fail
    go_loopw [5] (fun i wr => ∃ j : Nat, j ≤ n ∧ i = .int .i64 (j : Int) ∧ Hid ((L.take j).map FrL.b = W.take j) ∧ Below w.heap.size w wr) (fun i _ => n - (intOf i).toNat)
    case atStart => exact ⟨0, by omega, rfl, hide rfl, Below.refl _ _⟩
    case round =>
      obtain ⟨j, hj, rfl, hT, hb⟩ := hrel
      by_cases hlt : j < n
      · have z0 : (j : Int) < n := by omega
        have z1 : (j : Int) < m := by have := E.out; omega
        have zj : (0 : Int) ≤ j := by omega
        have hltL : j < L.length := by rw [Hnm.out.1]; exact hlt
        have hltM : j < W.length := by rw [Hnm.out.2, ← E.out]; exact hlt
        obtain ⟨b0, o0, rfl, hB0, hC0⟩ := RF.cell (HR.out.below hb) (by omega)
        obtain ⟨b1, o1, rfl, hB1, hC1⟩ := (RD.below HS.out hb).2 (by rw [← E.out]; omega)
        obtain ⟨x, hx⟩ : ∃ x, L[j] = x := ⟨_, rfl⟩
        obtain ⟨y, hy⟩ : ∃ y, W[j] = y := ⟨_, rfl⟩
        have d0 := hC0 j hltL
        have e0 := hC1 j (.string ⟨y.toArray⟩) (by simp [strs, hltM, hy])
        rw [hx] at d0
        have hxm : x ∈ L := by rw [← hx]; exact List.getElem_mem hltL
        have s1 := fun u => conv_bytes (P := Try.prog) (show RB (past wr u) (past wr u).heap.size x.A x.b from (RD.below (((HR.out.below hb).more hb.size).2 x hxm) (below_past wr u)).more (below_past wr u).size) Try.underlying28 Try.underlying5 Try.underlying9 x.c
        have T0 := hide (show (L.take (j + 1)).map FrL.b = (L.take j).map FrL.b ++ [x.b] by rw [List.take_succ_eq_append_getElem hltL, hx, List.map_append]; rfl)
        have T1 := hide (show W.take (j + 1) = W.take j ++ [y] by rw [List.take_succ_eq_append_getElem hltM, hy])
        have X0 := hide (And.intro hx hy)
        have hB0r : b0 < wr.heap.size := by have := hb.size; omega
        have hB1r : b1 < wr.heap.size := by have := hb.size; omega
        clear hC0 hC1 hxm hx hy
        by_cases hxy : x.b = y
        · have hst : (x.b == y) = true := by simpa using hxy
          have Hxy := hide hxy
          clear hxy
          go_wp2_with fail
          refine wp_region_wq (by kernel_rfl) (by kernel_rfl) ?_
          repeat (
            refine WQ.step (fun K hK => ?_)
            go_simp
            refine hK _ ?_
            clear hK K)
          refine WQ.nil ?_
          intro u
          have hb3 := fresh hb (below_past wr u)
          clear s1 d0 e0
          go_wp2_with fail
          go_roundw
          case rel =>
            refine ⟨j + 1, by omega, by go_num, hide ?_, hb3⟩
            rw [T0.out, T1.out, hT.out, Hxy.out]
          case measure => simp [intOf]; omega
        · have hst : (x.b == y) = false := by simpa using hxy
          have hf := hide (show decide (L.map FrL.b = W) = false from decide_eq_false fun h => by
            have h1 := congrArg (fun l => l[j]?) h
            simp only [List.getElem?_map, List.getElem?_eq_getElem hltL, List.getElem?_eq_getElem hltM, X0.out.1, X0.out.2, Option.map_some, Option.some.injEq] at h1
            exact hxy h1)
          clear hxy
          go_wp2_with fail
          refine wp_region_wq (by kernel_rfl) (by kernel_rfl) ?_
          repeat (
            refine WQ.step (fun K hK => ?_)
            go_simp
            refine hK _ ?_
            clear hK K)
          refine WQ.nil ?_
          intro u
          have hb3 := fresh hb (below_past wr u)
          clear s1 d0 e0
          go_wp2_with fail
          go_ret
          exact ⟨ret_bool hf.out.symm, hb3⟩
      · have z0 : ¬ (j : Int) < n := by omega
        have fin := hide (show decide (L.map FrL.b = W) = true by
          have h1 := hT.out
          rw [List.take_of_length_le (by rw [Hnm.out.1]; omega), List.take_of_length_le (by rw [Hnm.out.2, ← E.out]; omega)] at h1
          exact decide_eq_true h1)
        go_wp2_with fail
        go_ret
        exact ⟨ret_bool fin.out.symm, hb⟩
  · have hbe : ((n : Int) == (m : Int)) = false := by simpa using hne
    have hbn : ((n : Int) != (m : Int)) = true := by simpa using hne
    have fin := hide (show decide (L.map FrL.b = W) = false by
      rw [decide_eq_false_iff_not]
      intro e
      have := congrArg List.length e
      rw [List.length_map, hn, hm] at this
      exact hne (by rw [this]))
    clear hne hn hm
    go_enter Try.func25, Try.ntmps25
    go_wp2_with fail
    go_ret
    exact ⟨ret_bool fin.out.symm, Below.refl _ _⟩
set_option maxHeartbeats 1600000 in
set_option maxRecDepth 100000 in
theorem lalive (w : World) : Calls Try.prog 9 #[] w fun e w' => e = .returned (.bool true) ∧ Below w.heap.size w w' := by
  go_enter Try.func9, Try.ntmps9
  go_wp2_with fail
  refine (lboth w).mono ?_
  rintro e w1 ⟨A1, c1, Q, rfl, hQ, hO, hb1⟩
  have hl : Q.length = 2 := by rw [← List.length_map FrL.b, hQ]; rfl
  obtain ⟨e1, e2⟩ := atE_of (m := 0) hQ (by decide) two_small (by decide)
  have P1 := hide (lpull A1 2 c1 ((0 : Nat) : Int) Q w1 hO.rf hl)
  rw [e1, e2] at P1
  have hD : doubE Q ((0 : Nat) : Int) = 0 := by unfold doubE; rw [if_pos e1, if_neg (by omega)]
  have P2 := hide (fun (W : World) (h : Below w1.heap.size w1 W) => ldouble A1 2 c1 ((0 : Nat) : Int) Q W ((hO.rf.below h).more h.size) hl)
  have hV : doubV Q ((0 : Nat) : Int) = [[97], [98], [97]] := by unfold doubV; rw [if_pos hD, hQ]; rfl
  rw [hD, hV] at P2
  clear e1 e2 hD hV hl hQ hO
  simp only [Int.natCast_zero] at P1 P2
  go_wp2_with fail
  refine P1.out.mono ?_
  rintro e w2 ⟨A2, c2, R, x, rfl, hx, hR, ho, hOR, hb2⟩
  have hx' : x.b = [97] := hx
  have hR' : R.map FrL.b = [[98]] := hR
  have hb02 := fresh hb1 hb2
  have hlR : R.length = 1 := by rw [← List.length_map FrL.b, hR']; rfl
  rw [hlR, show x.b.length = 1 by rw [hx']; rfl]
  have HH := hide (And.intro hx' (And.intro hR' (And.intro hlR (And.intro ho hOR))))
  clear hx hR ho hOR hx' hR' hlR P1
  go_wp2_with fail
  refine (unhide P2 w2 hb2).mono ?_
  rintro e w3 ⟨A3, c3, D, rfl, hD, hOD, hb3⟩
  have hb03 := fresh hb02 hb3
  have hlD : D.length = 3 := by rw [← List.length_map FrL.b, hD]; rfl
  rw [hlD]
  have HD := hide (And.intro hD (And.intro hlD hOD))
  have k1 := conv_bytes (P := Try.prog) (show RB w3 w3.heap.size x.A [97] from by
    have h := RD.of_own HH.out.2.2.2.1
    rw [HH.out.1] at h
    exact (RD.below h hb3).more hb3.size) Try.underlying28 Try.underlying5 Try.underlying9 x.c
  simp only [List.length_cons, List.length_nil, Nat.reduceAdd] at k1
  clear hD hOD hlD P2
  have A1' := hide (fun (W : World) (h : Below w3.heap.size w3 W) => lare A2 (some ⟨W.heap.size, 0, none⟩) 1 1 c2 1 R [[98]] (W.alloc (.cells #[.string ⟨#[98]⟩] 9)) (by
    have h1 := fresh (fresh hb3 h) (fboxF W (.cells #[.string ⟨#[98]⟩] 9))
    exact (HH.out.2.2.2.2.rf.below h1).more h1.size) (by
    refine ⟨rfl, fun _ => ⟨_, _, rfl, by rw [World.size_alloc]; omega, fun j u hu => ?_⟩⟩
    rw [Nat.zero_add, World.cell?_alloc_new, ← Array.getElem?_toList]
    exact hu) HH.out.2.2.1 rfl (by decide))
  have A2' := hide (fun (W : World) (h : Below w3.heap.size w3 W) => lare A3 (some ⟨W.heap.size, 0, none⟩) 3 3 c3 3 D [[97], [98], [97]] (W.alloc (.cells #[.string ⟨#[97]⟩, .string ⟨#[98]⟩, .string ⟨#[97]⟩] 9)) (by
    have h1 := fresh h (fboxF W (.cells #[.string ⟨#[97]⟩, .string ⟨#[98]⟩, .string ⟨#[97]⟩] 9))
    exact (HD.out.2.2.rf.below h1).more h1.size) (by
    refine ⟨rfl, fun _ => ⟨_, _, rfl, by rw [World.size_alloc]; omega, fun j u hu => ?_⟩⟩
    rw [Nat.zero_add, World.cell?_alloc_new, ← Array.getElem?_toList]
    exact hu) HD.out.2.1 rfl (by decide))
  rw [decide_eq_true HH.out.2.1] at A1'
  rw [decide_eq_true HD.out.1] at A2'
  go_wp2_with fail
  refine (unhide A1' w3 (Below.refl _ _)).mono ?_
  rintro e w4 ⟨rfl, hb4'⟩
  have hb4 : Below w3.heap.size w3 w4 := fresh (fboxF w3 _) hb4'
  have hb04 := fresh hb03 hb4
  clear k1 hb4'
  go_wp2_with fail
  refine (unhide A2' w4 hb4).mono ?_
  rintro e w5 ⟨rfl, hb5'⟩
  have hb05 := fresh hb04 (fresh (fboxF w4 _) hb5')
  go_wp2_with fail
  go_ret
  exact ⟨rfl, hb05⟩
end Go.Proofs.Ytmkpfdcnikgokaa
namespace Go.Proofs.Ytmkpfdcnikgokaa
open Go.RowKit
def ack0 : MlL := ⟨2, 0, 0, 0, none, 0, [], none, 0, [], none, 0, []⟩
theorem ack0_ok : okM ack0 := by
  simp only [okM, ack0, List.length_nil, List.not_mem_nil, false_implies, implies_true, and_true, true_and]
  omega
theorem ack0_rm (w : World) (B : Nat) : RM w B ack0 := ⟨RT.nil _ _ _, ⟨RD.nil_, fun y hy => by cases hy⟩, RW.nil _ _ _⟩
theorem ack0_may : mayM ack0.mp := by
  show mayM ⟨2, 0, 0, 0, [], [], []⟩
  decide
theorem ack0_body : bodyB ack0.mp = [2, 0] := by
  show bodyB ⟨2, 0, 0, 0, [], [], []⟩ = [2, 0]
  simp [bodyB, ckNums, nbs, nb_small]
theorem code_x : codeM [120] = 30 := by
  unfold codeM
  cases h : opn [120] with
  | none => rfl
  | some l =>
    have := congrArg List.length (opn_inv h).1
    rw [frm_len] at this
    simp only [List.length_singleton] at this
    omega
/-- Frames of which none has a byte. -/
def nils (n : Nat) : List FrL := List.replicate n ⟨none, 0, []⟩
theorem nils_frs (n : Nat) : frs (nils n) = List.replicate n (.slice none 0 0) := by
  simp [frs, nils, FrL.cell]
theorem nils_small (n : Nat) : ∀ x ∈ nils n, x.b.length ≤ 20000 := by
  intro x hx
  rw [(List.mem_replicate.1 hx).2]
  exact Nat.zero_le _
theorem lnils (w : World) (n : Nat) (h : n ≤ 100000) :
    ∃ w', (Instr.makeSlice 22 (.int .i64 (n : Int)) (.int .i64 (n : Int))).run Try.prog w = .ok (.slice (some ⟨w.heap.size, 0, none⟩) n n) w' ∧ RF w' w'.heap.size (some ⟨w.heap.size, 0, none⟩) (nils n) ∧ Below w.heap.size w w' := by
  obtain ⟨i0, hi0, hz0, hz1, hz2⟩ := info_parts frinfo
  obtain ⟨w', h1, h2, h3⟩ := run_makeSlice_full (P := Try.prog) w w.heap.size 22 28 i0 (.slice none 0 0) 1 Try.underlying22 hi0 hz0 hz1 .i64 .i64 n (by omega) (by rw [hz2]; omega) (by unfold maxLen; omega) (Nat.le_refl _)
  rw [show (Value.slice none 0 0 : Value).cells = #[.slice none 0 0] from rfl, toList_madeCells_one, Nat.mul_one, ← nils_frs] at h2
  have hl : (nils n).length = n := List.length_replicate
  refine ⟨w', h1, ⟨?_, fun x hx => ?_⟩, grown_below (World.ownsRow_nil _ _ _ _ : w.ownsRow w.heap.size 28 1 (.slice none 0 0) 0 []) h3 (Nat.le_refl _)⟩
  · rw [hl]
    exact RD.of_own h2
  · rw [(List.mem_replicate.1 hx).2]
    exact RD.nil_
theorem lbytes (w : World) (n : Nat) (h : n ≤ 100000) :
    ∃ (w' : World) (b : List UInt8), (Instr.makeSlice 28 (.int .i64 (n : Int)) (.int .i64 (n : Int))).run Try.prog w = .ok (.slice (some ⟨w.heap.size, 0, none⟩) n n) w' ∧ b.length = n ∧ RB w' w'.heap.size (some ⟨w.heap.size, 0, none⟩) b ∧ Below w.heap.size w w' := by
  obtain ⟨i0, hi0, hz0, hz1, hz2⟩ := info_parts fru8
  obtain ⟨w', h1, h2, h3⟩ := run_makeSlice_full (P := Try.prog) w w.heap.size 28 5 i0 (.int .u8 0) 1 Try.underlying28 hi0 hz0 hz1 .i64 .i64 n (by omega) (by rw [hz2]; omega) (by unfold maxLen; omega) (Nat.le_refl _)
  rw [show (Value.int .u8 0 : Value).cells = #[.int .u8 0] from rfl, toList_madeCells_one, Nat.mul_one] at h2
  refine ⟨w', List.replicate n 0, h1, List.length_replicate, ?_, grown_below (World.ownsRow_nil _ _ _ _ : w.ownsRow w.heap.size 5 1 (.slice none 0 0) 0 []) h3 (Nat.le_refl _)⟩
  have e : u8s (List.replicate n 0) = List.replicate n (.int .u8 0) := by simp [u8s]
  unfold RB
  rw [List.length_replicate, e]
  exact RD.of_own h2
/-- A row of strings, in a block of its own. -/
theorem str_row (w : World) (W : List (List UInt8)) (cs : Array Value) (hcs : cs.toList = strs W) (n : Nat) (hn : W.length = n) : RD (w.alloc (.cells cs 9)) (w.alloc (.cells cs 9)).heap.size 1 (some ⟨w.heap.size, 0, none⟩) n (strs W) := by
  refine ⟨by rw [← hn]; simp [strs], fun _ => ⟨_, _, rfl, by rw [World.size_alloc]; omega, fun j u hu => ?_⟩⟩
  rw [Nat.zero_add, World.cell?_alloc_new, ← Array.getElem?_toList, hcs]
  exact hu
set_option maxHeartbeats 12800000 in
set_option maxRecDepth 100000 in
theorem linkNames_walk (w : World) : Calls Try.prog 8 #[] w fun e w' => e = .returned (.bool true) ∧ Below w.heap.size w w' := by
  go_enter Try.func8, Try.ntmps8
  go_wp2_with fail
  refine (lboth w).mono ?_
  rintro e w1 ⟨A1, c1, Q, rfl, hQ, hO1, hb1⟩
  have HQ := hide hQ
  have HO1 := hide hO1
  have HB1 := hide hb1
  have hl : Q.length = 2 := by rw [← List.length_map FrL.b, hQ]; rfl
  have Hl := hide hl
  obtain ⟨w2, hw2⟩ : ∃ q, w1.alloc (.cells #[.int .u8 120] 5 (1, 2)) = q := ⟨_, rfl⟩
  have hb2 : Below w1.heap.size w1 w2 := by rw [← hw2]; exact fboxF _ _
  have hr2 : RB w2 w2.heap.size (some ⟨w1.heap.size, 0, none⟩) [120] := by rw [← hw2]; exact RB.row (heap_alloc_new _ _) rfl
  have kc := fun (w : World) (C : Array Value) (n c : Nat) => Lib.run_convert_bytes_const (P := Try.prog) w 28 5 C n c Try.underlying28 Try.underlying5
  have hat : atE Q 1 = 0 := (atE_of (m := 1) hQ (by decide) two_small (by decide)).1
  have G1 := hide (lgarble A1 (some ⟨w1.heap.size, 0, none⟩) 2 c1 1 1 1 [120] Q w2 ((hO1.rf.below hb2).more hb2.size) hl hr2 rfl (Nat.le_refl _))
  rw [show garE Q 1 [120] = 0 by unfold garE; rw [if_pos hat]; rfl, show garV Q 1 [120] = [[97], [120]] by unfold garV gar1V; rw [if_pos hat, if_neg (by decide), if_neg (by rw [code_x]; decide), hQ]; rfl] at G1
  have Hat := hide hat
  have Hw2 := hide hw2
  have HB2 := hide (fresh hb1 hb2)
  have HB12 := hide hb2
  clear hQ hO1 hb1 hl hw2 hb2 hr2 hat
  go_wp2_with fail
  rw [Hw2.out]
  clear kc
  refine G1.out.mono ?_
  rintro e w3 ⟨A3, c3, Q3, rfl, hQ3, hO3, hb3⟩
  have hl3 : Q3.length = 2 := by rw [← List.length_map FrL.b, hQ3]; rfl
  rw [hl3]
  have H3 := hide (And.intro hQ3 (And.intro hO3 hl3))
  have HB3 := hide (fresh HB2.out hb3)
  have HB13 := hide (fresh HB12.out hb3)
  have P3 := hide (mput_any ack0 w3 (ack0_rm _ _) ack0_ok)
  have hE0 : putE ack0.mp = 0 := putE_zero.2 ⟨ack0_may, by rw [ack0_body]; decide⟩
  obtain ⟨pg1, pg2, pg3⟩ := put_got (okM_good ack0_ok) hE0
  have hVl : (putV ack0.mp).length ≤ 20000 := by
    rw [putV_ok hE0, ack0_body, frm_len]
    simp [nb_small]
  rw [hE0] at P3
  obtain ⟨V, hV⟩ : ∃ q, q = putV ack0.mp := ⟨_, rfl⟩
  rw [← hV] at P3 pg3 hVl
  have HV := hide (And.intro pg3 hVl)
  clear hQ3 hO3 hb3 hl3 pg1 pg2 pg3 hVl hV G1 HB2 HB12 hE0
  go_wp2_with fail
  refine P3.out.mono ?_
  rintro e w4 ⟨A4, c4, q, rfl, hq, hO4, hb4⟩
  subst hq
  obtain ⟨A9, c9, e9, hc4, -, -⟩ := own_slice hO4
  simp only [Value.slice.injEq] at e9
  obtain ⟨rfl, -, rfl⟩ := e9
  have hb14 := fresh HB13.out hb4
  obtain ⟨vn, hvn⟩ : ∃ z, z = q.length := ⟨_, rfl⟩
  have G2 := hide (lgarble A1 A4 2 c1 vn c4 1 q Q w4 ((HO1.out.rf.below hb14).more hb14.size) Hl.out (RD.of_own hO4) hvn.symm (by rw [hvn]; exact hc4))
  rw [show garE Q 1 q = 0 by unfold garE gar1E; rw [if_pos Hat.out, if_neg (by have := HV.out.2; omega)], show garV Q 1 q = [[97]] by unfold garV gar1V; rw [if_pos Hat.out, if_neg (by have := HV.out.2; omega), if_pos HV.out.1, HQ.out]; rfl] at G2
  rw [← hvn]
  have H4 := hide (And.intro (H3.out.2.1.below hb4) H3.out.1)
  have HB4 := hide (fresh HB3.out hb4)
  clear hO4 hb4 hb14 hvn hc4 HV HB13 P3 HB3
  go_wp2_with fail
  refine G2.out.mono ?_
  rintro e w5 ⟨A5, c5, Q5, rfl, hQ5, hO5, hb5⟩
  have hl5 : Q5.length = 1 := by rw [← List.length_map FrL.b, hQ5]; rfl
  rw [hl5]
  have H5 := hide (And.intro hQ5 (And.intro hO5 hl5))
  have HB5 := hide (fresh HB4.out hb5)
  have H35 := hide (H4.out.1.below hb5)
  have P5 := hide (lpull none 0 0 0 [] w5 (RF.nil _ _ _) rfl)
  rw [show atE [] 0 = 2 by decide] at P5
  clear hQ5 hO5 hb5 hl5 G2 HB4
  go_wp2_with fail
  refine P5.out.mono ?_
  rintro e w6 ⟨A6, c6, Q6, x6, rfl, -, -, -, -, hb6⟩
  have HB6 := hide (fresh HB5.out hb6)
  have H36 := hide (H35.out.below hb6)
  have H56 := hide (H5.out.2.1.below hb6)
  obtain ⟨w7, b7, hmk0, hl7, hr7, hb7⟩ := lbytes w6 20001 (by decide)
  have hmk : (Instr.makeSlice 28 (.int .i64 20001) (.int .i64 20001)).run Try.prog w6 = .ok (.slice (some ⟨w6.heap.size, 0, none⟩) 20001 20001) w7 := hmk0
  have U7 := hide (lpush none (some ⟨w6.heap.size, 0, none⟩) 0 0 20001 20001 [] b7 w7 (RF.nil _ _ _) rfl hr7 hl7)
  rw [show pushE [] b7 = 4 by unfold pushE; rw [if_neg (by decide), if_pos (by omega)]] at U7
  have HB7 := hide (fresh HB6.out hb7)
  have H37 := hide (H36.out.below hb7)
  have H57 := hide (H56.out.below hb7)
  clear hb6 hmk0 hl7 hr7 hb7 P5 HB5 HB6 H35 H36 H56
  go_wp2_with fail
  try rw [hmk]
  refine U7.out.mono ?_
  rintro e w8 ⟨A8, c8, L8, rfl, -, -, hb8⟩
  have HB8 := hide (fresh HB7.out hb8)
  have H38 := hide (H37.out.below hb8)
  have H58 := hide (H57.out.below hb8)
  obtain ⟨w9, hmk0, hr9, hb9⟩ := lnils w8 64 (by decide)
  have hmk2 : (Instr.makeSlice 22 (.int .i64 64) (.int .i64 64)).run Try.prog w8 = .ok (.slice (some ⟨w8.heap.size, 0, none⟩) 64 64) w9 := hmk0
  have U9 := hide (lpush (some ⟨w8.heap.size, 0, none⟩) none 64 64 0 0 (nils 64) [] w9 hr9 List.length_replicate RD.nil_ rfl)
  rw [show pushE (nils 64) [] = 9 by
    have h : (nils 64).length = 64 := List.length_replicate
    unfold pushE
    rw [if_neg (fun h' => h' ⟨by omega, nils_small 64⟩), if_neg (by decide), if_pos h]] at U9
  have HB9 := hide (fresh HB8.out hb9)
  have H39 := hide (H38.out.below hb9)
  have H59 := hide (H58.out.below hb9)
  clear hb8 hmk0 hr9 hb9 U7 HB7 HB8 H37 H38 H57 H58 hmk
  go_wp2_with fail
  try rw [hmk2]
  refine U9.out.mono ?_
  rintro e w10 ⟨A10, c10, L10, rfl, -, -, hb10⟩
  have HB10 := hide (fresh HB9.out hb10)
  have H310 := hide (H39.out.below hb10)
  have H510 := hide (H59.out.below hb10)
  obtain ⟨w11, hmk0, hr11, hb11⟩ := lnils w10 65 (by decide)
  have hmk3 : (Instr.makeSlice 22 (.int .i64 65) (.int .i64 65)).run Try.prog w10 = .ok (.slice (some ⟨w10.heap.size, 0, none⟩) 65 65) w11 := hmk0
  have U11 := hide (lpush (some ⟨w10.heap.size, 0, none⟩) none 65 65 0 0 (nils 65) [] w11 hr11 List.length_replicate RD.nil_ rfl)
  rw [show pushE (nils 65) [] = 8 by
    have h : (nils 65).length = 65 := List.length_replicate
    unfold pushE
    rw [if_pos (fun h' => by have := h'.1; omega)]] at U11
  have HB11 := hide (fresh HB10.out hb11)
  have H311 := hide (H310.out.below hb11)
  have H511 := hide (H510.out.below hb11)
  clear hb10 hmk0 hr11 hb11 U9 HB9 HB10 H39 H310 H59 H510 hmk2
  go_wp2_with fail
  try rw [hmk3]
  refine U11.out.mono ?_
  rintro e w12 ⟨A12, c12, L12, rfl, -, -, hb12⟩
  have HB12 := hide (fresh HB11.out hb12)
  have H312 := hide (H311.out.below hb12)
  have H512 := hide (H511.out.below hb12)
  clear hb12 U11 HB11 H311 H511 hmk3
  go_wp2_with fail
  refine (lalive w12).mono ?_
  rintro e w13 ⟨rfl, hb13⟩
  have HB13 := hide (fresh HB12.out hb13)
  have H313 := hide (H312.out.below hb13)
  have H513 := hide (H512.out.below hb13)
  have R1 := hide (lare A3 (some ⟨w13.heap.size, 0, none⟩) 2 2 c3 2 Q3 [[97], [120]] (w13.alloc (.cells #[.string ⟨#[97]⟩, .string ⟨#[120]⟩] 9)) (by
    have h1 := fboxF w13 (.cells #[.string ⟨#[97]⟩, .string ⟨#[120]⟩] 9)
    exact (H313.out.rf.below h1).more h1.size) (str_row w13 [[97], [120]] _ rfl 2 rfl) H3.out.2.2 rfl (by decide))
  rw [decide_eq_true H3.out.1] at R1
  clear hb13 HB12 H312 H512
  go_wp2_with fail
  refine R1.out.mono ?_
  rintro e w14 ⟨rfl, hb14⟩
  have hb14' : Below w13.heap.size w13 w14 := fresh (fboxF w13 _) hb14
  have HB14 := hide (fresh HB13.out hb14')
  have H514 := hide (H513.out.below hb14')
  have R2 := hide (lare A5 (some ⟨w14.heap.size, 0, none⟩) 1 1 c5 1 Q5 [[97]] (w14.alloc (.cells #[.string ⟨#[97]⟩] 9)) (by
    have h1 := fboxF w14 (.cells #[.string ⟨#[97]⟩] 9)
    exact (H514.out.rf.below h1).more h1.size) (str_row w14 [[97]] _ rfl 1 rfl) H5.out.2.2 rfl (by decide))
  rw [decide_eq_true H5.out.1] at R2
  clear hb14 hb14' HB13 H313 H513 R1
  go_wp2_with fail
  refine R2.out.mono ?_
  rintro e w15 ⟨rfl, hb15⟩
  have hbz := fresh HB14.out (fresh (fboxF w14 _) hb15)
  go_wp2_with fail
  go_ret
  exact ⟨rfl, hbz⟩
end Go.Proofs.Ytmkpfdcnikgokaa
