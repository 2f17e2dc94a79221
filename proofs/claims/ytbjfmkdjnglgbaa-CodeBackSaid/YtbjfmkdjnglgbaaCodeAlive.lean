/-
  The small functions of octavolaw10: one, two, alive, bad; code.All and Read at the chapter's examples. No condition.
-/
import Derived.Test.YtbjfmkdjnglgbaaCodeGet
import Derived.Test.YtbjfmkdjnglgbaaOpSame
namespace Go.Proofs.Ytbjfmkdjnglgbaa
open Go.RowKit

/-- Kinds of claims: a value; an operation with runs. -/
inductive Kc where
  | val (v : Value)
  | opr (k t r : Int) (p : List Rn) (z : Int)
/-- What each says. -/
def Kc.say : Kc → Clm
  | .val v => fun u _ => u = v
  | .opr k t r p z => fun u w => ∃ A c, u = opv k t r A p.length c z ∧ RR w w.heap.size A p
theorem kcs_mono (ks : List Kc) : ∀ V ∈ ks.map Kc.say, ∀ v w w', V v w → Below w.heap.size w w' → V v w' := by
  intro V hV v w w' h hb
  obtain ⟨k, -, rfl⟩ := List.mem_map.1 hV
  cases k with
  | val u => exact h
  | opr k t r p z =>
    obtain ⟨A, c, e, hr⟩ := h
    exact ⟨A, c, e, RR.below' hr hb⟩

theorem okR_dec' {p : List Rn} (h : ∀ x ∈ p, 0 ≤ x.1 ∧ x.1 < 4294967296 ∧ 0 ≤ x.2.1 ∧ x.2.1 < 256 ∧ -9223372036854775808 ≤ x.2.2 ∧ x.2.2 ≤ 9223372036854775807) : ∀ x ∈ p, okR x := fun x hx => by
  have := h x hx
  unfold okR
  omega

set_option maxHeartbeats 400000 in
set_option maxRecDepth 100000 in
theorem cone_ok (w : World) : Calls Try.prog 117 #[] w fun e w' => ∃ A c, e = .returned (opv 1 3 0 A 1 c 97) ∧ RR w' w'.heap.size A [(1, 0, 3)] ∧ Below w.heap.size w w' := by
  obtain ⟨w1, hw1, F1, hs1, hb1⟩ := five_fb w (.int .u8 0) (.int .u32 0) (.int .u8 0) (.slice none 0 0) (.int .i64 0)
  obtain ⟨o0, o1, o2, o3, o4⟩ := (F1.below (boxed w1 (.cells #[.int .u32 1, .int .u8 0, .int .i64 3] 41))).cells
  have f0 := (F1.below (boxed w1 (.cells #[.int .u32 1, .int .u8 0, .int .i64 3] 41))).fr
  obtain ⟨w2, hw2⟩ : ∃ w2, w1.alloc (.cells #[.int .u32 1, .int .u8 0, .int .i64 3] 41) = w2 := ⟨_, rfl⟩
  have hR : RR w2 w2.heap.size (some ⟨w1.heap.size, 0, none⟩) [(1, 0, 3)] := by rw [← hw2]; exact RR.new _ _ _ _ rfl
  have hb2 : Below w.heap.size w w2 := by rw [← hw2]; exact fresh hb1 (boxed _ _)
  have F2 := F1.below (show Below w1.heap.size w1 w2 by rw [← hw2]; exact boxed _ _)
  rw [hw2] at o0 o1 o2 o3 o4 f0
  have g0 := f0 0
  have g1 := f0 1
  have g2 := f0 2
  have g3 := f0 3
  have g4 := f0 4
  have HF := hide F2
  have HR := hide hR
  obtain ⟨g, hg⟩ : ∃ g, g = w.heap.size := ⟨_, rfl⟩
  have Hg := hide hg
  clear f0 F1 F2 hR
  go_enter Try.func117, Try.ntmps117
  go_wp2_with fail
  change bodyPost _ _ _ _ _ (put5 w2 w.heap.size (.int .u8 1) (.int .u32 3) (.int .u8 0) (.slice (some ⟨w1.heap.size, 0, none⟩) 1 1) (.int .i64 97))
  have F5 := put5_fb HF.out (.int .u8 1) (.int .u32 3) (.int .u8 0) (.slice (some ⟨w1.heap.size, 0, none⟩) 1 1) (.int .i64 97)
  have hb5 : Below w.heap.size w (put5 w2 w.heap.size (.int .u8 1) (.int .u32 3) (.int .u8 0) (.slice (some ⟨w1.heap.size, 0, none⟩) 1 1) (.int .i64 97)) := put5_below hb2 _ _ _ _ _ _ (Nat.le_refl _)
  have hR5 : RR (put5 w2 w.heap.size (.int .u8 1) (.int .u32 3) (.int .u8 0) (.slice (some ⟨w1.heap.size, 0, none⟩) 1 1) (.int .i64 97)) (put5 w2 w.heap.size (.int .u8 1) (.int .u32 3) (.int .u8 0) (.slice (some ⟨w1.heap.size, 0, none⟩) 1 1) (.int .i64 97)).heap.size (some ⟨w1.heap.size, 0, none⟩) [(1, 0, 3)] := by
    refine ⟨rfl, fun _ => ⟨w1.heap.size, 0, rfl, ?_, fun j u hu => ?_⟩⟩
    · have : (put5 w2 w.heap.size (.int .u8 1) (.int .u32 3) (.int .u8 0) (.slice (some ⟨w1.heap.size, 0, none⟩) 1 1) (.int .i64 97)).heap[w1.heap.size]? = _ := put5_other (w := w2) (g := w.heap.size) (by omega)
      have h2 : w2.heap[w1.heap.size]? = some (.cells #[.int .u32 1, .int .u8 0, .int .i64 3] 41 (0, 0)) := by rw [← hw2]; exact heap_alloc_new _ _
      exact (Array.getElem?_eq_some_iff.1 (this.trans h2)).1
    · have h2 : w2.heap[w1.heap.size]? = some (.cells #[.int .u32 1, .int .u8 0, .int .i64 3] 41 (0, 0)) := by rw [← hw2]; exact heap_alloc_new _ _
      have h3 := (put5_other (w := w2) (g := w.heap.size) (g' := w1.heap.size) (k := .int .u8 1) (t := .int .u32 3) (r := .int .u8 0) (s := .slice (some ⟨w1.heap.size, 0, none⟩) 1 1) (z := .int .i64 97) (by omega)).trans h2
      rw [Nat.zero_add, cell_of_row _ _ _ _ _ _ h3, ← Array.getElem?_toList]
      exact hu
  generalize put5 w2 w.heap.size (.int .u8 1) (.int .u32 3) (.int .u8 0) (.slice (some ⟨w1.heap.size, 0, none⟩) 1 1) (.int .i64 97) = W at F5 hb5 hR5 ⊢
  obtain ⟨v0, v1, v2, v3, v4⟩ := F5.cells
  refine bodyPost_ret (v := opv 1 3 0 (some ⟨w1.heap.size, 0, none⟩) 1 1 97) (by simp [results, Try.results117, go_sem, v0, v1, v2, v3, v4]) rfl ?_
  exact ⟨_, _, rfl, hR5, hb5⟩
set_option maxHeartbeats 400000 in
set_option maxRecDepth 100000 in
theorem ctwo_ok (w : World) : Calls Try.prog 118 #[] w fun e w' => ∃ A c, e = .returned (opv 3 9 1 A 2 c 0) ∧ RR w' w'.heap.size A [(1, 0, 3), (5, 2, 1)] ∧ Below w.heap.size w w' := by
  obtain ⟨w1, hw1, F1, hs1, hb1⟩ := five_fb w (.int .u8 0) (.int .u32 0) (.int .u8 0) (.slice none 0 0) (.int .i64 0)
  obtain ⟨o0, o1, o2, o3, o4⟩ := (F1.below (boxed w1 (.cells #[.int .u32 1, .int .u8 0, .int .i64 3, .int .u32 5, .int .u8 2, .int .i64 1] 41))).cells
  have f0 := (F1.below (boxed w1 (.cells #[.int .u32 1, .int .u8 0, .int .i64 3, .int .u32 5, .int .u8 2, .int .i64 1] 41))).fr
  obtain ⟨w2, hw2⟩ : ∃ w2, w1.alloc (.cells #[.int .u32 1, .int .u8 0, .int .i64 3, .int .u32 5, .int .u8 2, .int .i64 1] 41) = w2 := ⟨_, rfl⟩
  have hR : RR w2 w2.heap.size (some ⟨w1.heap.size, 0, none⟩) [(1, 0, 3), (5, 2, 1)] := by rw [← hw2]; exact RR.new _ _ _ _ rfl
  have hb2 : Below w.heap.size w w2 := by rw [← hw2]; exact fresh hb1 (boxed _ _)
  have F2 := F1.below (show Below w1.heap.size w1 w2 by rw [← hw2]; exact boxed _ _)
  rw [hw2] at o0 o1 o2 o3 o4 f0
  have g0 := f0 0
  have g1 := f0 1
  have g2 := f0 2
  have g3 := f0 3
  have g4 := f0 4
  have HF := hide F2
  have HR := hide hR
  obtain ⟨g, hg⟩ : ∃ g, g = w.heap.size := ⟨_, rfl⟩
  have Hg := hide hg
  clear f0 F1 F2 hR
  go_enter Try.func118, Try.ntmps118
  go_wp2_with fail
  change bodyPost _ _ _ _ _ (put5 w2 w.heap.size (.int .u8 3) (.int .u32 9) (.int .u8 1) (.slice (some ⟨w1.heap.size, 0, none⟩) 2 2) (.int .i64 0))
  have F5 := put5_fb HF.out (.int .u8 3) (.int .u32 9) (.int .u8 1) (.slice (some ⟨w1.heap.size, 0, none⟩) 2 2) (.int .i64 0)
  have hb5 : Below w.heap.size w (put5 w2 w.heap.size (.int .u8 3) (.int .u32 9) (.int .u8 1) (.slice (some ⟨w1.heap.size, 0, none⟩) 2 2) (.int .i64 0)) := put5_below hb2 _ _ _ _ _ _ (Nat.le_refl _)
  have hR5 : RR (put5 w2 w.heap.size (.int .u8 3) (.int .u32 9) (.int .u8 1) (.slice (some ⟨w1.heap.size, 0, none⟩) 2 2) (.int .i64 0)) (put5 w2 w.heap.size (.int .u8 3) (.int .u32 9) (.int .u8 1) (.slice (some ⟨w1.heap.size, 0, none⟩) 2 2) (.int .i64 0)).heap.size (some ⟨w1.heap.size, 0, none⟩) [(1, 0, 3), (5, 2, 1)] := by
    refine ⟨rfl, fun _ => ⟨w1.heap.size, 0, rfl, ?_, fun j u hu => ?_⟩⟩
    · have : (put5 w2 w.heap.size (.int .u8 3) (.int .u32 9) (.int .u8 1) (.slice (some ⟨w1.heap.size, 0, none⟩) 2 2) (.int .i64 0)).heap[w1.heap.size]? = _ := put5_other (w := w2) (g := w.heap.size) (by omega)
      have h2 : w2.heap[w1.heap.size]? = some (.cells #[.int .u32 1, .int .u8 0, .int .i64 3, .int .u32 5, .int .u8 2, .int .i64 1] 41 (0, 0)) := by rw [← hw2]; exact heap_alloc_new _ _
      exact (Array.getElem?_eq_some_iff.1 (this.trans h2)).1
    · have h2 : w2.heap[w1.heap.size]? = some (.cells #[.int .u32 1, .int .u8 0, .int .i64 3, .int .u32 5, .int .u8 2, .int .i64 1] 41 (0, 0)) := by rw [← hw2]; exact heap_alloc_new _ _
      have h3 := (put5_other (w := w2) (g := w.heap.size) (g' := w1.heap.size) (k := .int .u8 3) (t := .int .u32 9) (r := .int .u8 1) (s := .slice (some ⟨w1.heap.size, 0, none⟩) 2 2) (z := .int .i64 0) (by omega)).trans h2
      rw [Nat.zero_add, cell_of_row _ _ _ _ _ _ h3, ← Array.getElem?_toList]
      exact hu
  generalize put5 w2 w.heap.size (.int .u8 3) (.int .u32 9) (.int .u8 1) (.slice (some ⟨w1.heap.size, 0, none⟩) 2 2) (.int .i64 0) = W at F5 hb5 hR5 ⊢
  obtain ⟨v0, v1, v2, v3, v4⟩ := F5.cells
  refine bodyPost_ret (v := opv 3 9 1 (some ⟨w1.heap.size, 0, none⟩) 2 2 0) (by simp [results, Try.results118, go_sem, v0, v1, v2, v3, v4]) rfl ?_
  exact ⟨_, _, rfl, hR5, hb5⟩

theorem nb_lit {n : Nat} (h : n < 128) : nb n = [UInt8.ofNat n] := nb_small h
theorem one_bytes : opB 1 3 0 [(1, 0, 3)] 97 = [1, 1, 1, 0, 3, 97] := by simp [opB, opNums, runNums, tailNums, nbs, nb_small]
theorem two_bytes : opB 3 9 1 [(1, 0, 3), (5, 2, 1)] 0 = [3, 2, 1, 0, 3, 2, 2, 1, 4, 1] := by simp [opB, opNums, runNums, tailNums, wasR, nbs, nb_small]
theorem one_may : mayO 1 3 0 [(1, 0, 3)] 97 := by decide
theorem two_may : mayO 3 9 1 [(1, 0, 3), (5, 2, 1)] 0 := by decide
theorem one_read : getP [1, 1, 1, 0, 3, 97, 5] = some (1, 3, 0, [(1, 0, 3)], 97, 6) := by
  have := getP_fwd [5] one_may (okR_dec' (by decide)) (by decide)
  rw [one_bytes] at this
  exact this
theorem bad_one : getP [1, 1, 1, 0, 3] = none := by decide +kernel
theorem bad_two : getP [9, 1, 1, 0, 3, 97] = none := by decide +kernel
theorem bad_three : getP [] = none := by decide +kernel

set_option maxHeartbeats 400000 in
set_option maxRecDepth 100000 in
/-- Bytes that are no operation's. -/
theorem cbad_ok (A : Option Addr) (b : List UInt8) (n c : Nat) (w : World) (hr : RB w w.heap.size A b) (hn : b.length = n) (hl : n < 1073741824) (hc : n ≤ c) (hA : A = none → c = 0) (hb : getP b = none) :
    Calls Try.prog 79 #[.slice A n c] w fun e w' => e = .returned (.bool true) ∧ Below w.heap.size w w' := by
  have G := hide (cget_any A b n c w hr hn hl hc hA)
  rw [hb] at G
  clear hr hn hl hc hA hb
  go_enter Try.func79, Try.ntmps79
  go_wp2_with fail
  refine G.out.mono ?_
  rintro e w1 ⟨A', c', rfl, -, hb1⟩
  simp only [outP]
  go_wp2_with fail
  go_ret
  exact ⟨rfl, fresh hb1 (boxed _ _)⟩

set_option maxHeartbeats 400000 in
set_option maxRecDepth 100000 in
theorem call_nil (w : World) :
    Calls Try.prog 74 #[.slice none 0 0] w fun e w' => ∃ A c, e = .returned (.tuple #[.slice A 1 c, .int .i64 0]) ∧ RB w' w'.heap.size A [0] ∧ Below w.heap.size w w' := by
  go_enter Try.func74, Try.ntmps74
  go_wp2_with fail
  refine (cput_ok (.slice none 0 0) [] w.heap.size w.heap.size 1 [0] _ (World.ownsRow_nil _ _ _ _) (by simp) (heap_alloc_new _ _) (by decide) (by decide)).mono ?_
  rintro e w1 ⟨v, rfl, hown, hb1, -⟩
  have e0 : [] ++ nbs [0] = [0] := by simp [nbs, nb_small]
  rw [e0] at hown
  obtain ⟨A, c, rfl, -, -, -⟩ := own_slice hown
  have hR : RB w1 w1.heap.size A [0] := RD.of_own hown
  have HR := hide hR
  have hb : Below w.heap.size w w1 := ((Below.refl w.heap.size w).alloc (Nat.le_refl _) _).trans hb1
  clear hown hR hb1
  go_wp2_with fail
  go_loopw [4, 18] (fun u i wr => u = .slice A 1 c ∧ i = .int .i64 0 ∧ wr = w1) (fun _ _ _ => 0)
  case atStart => exact ⟨rfl, rfl, rfl⟩
  obtain ⟨rfl, rfl, rfl⟩ := hrel
  go_wp2_with fail
  refine bodyPost_ret (v := .tuple #[.slice A 1 c, .int .i64 0]) (by simp [results, Try.results74, go_sem]) rfl ?_
  exact ⟨A, c, rfl, HR.out, hb⟩
set_option maxHeartbeats 400000 in
set_option maxRecDepth 100000 in
theorem call_many (A : Option Addr) (n c : Nat) (w : World) (h : 1024 < n) :
    Calls Try.prog 74 #[.slice A n c] w fun e w' => e = .returned (.tuple #[.slice none 0 0, .int .i64 4]) ∧ w' = w := by
  have h1 : (1024 : Int) < n := by omega
  clear h
  go_enter Try.func74, Try.ntmps74
  go_wp2_with fail
  refine bodyPost_ret (v := .tuple #[.slice none 0 0, .int .i64 4]) (by simp [results, Try.results74, go_sem]) rfl ⟨rfl, rfl⟩

set_option maxHeartbeats 1600000 in
set_option maxRecDepth 100000 in
/-- No operation in a list. -/
theorem cread_none (A : Option Addr) (b : List UInt8) (n c : Nat) (w : World) (hr : RB w w.heap.size A b) (hn : b.length = n) (hl : n < 1073741824) (hc : n ≤ c) (hA : A = none → c = 0) (hb : ∀ x q, nxt b 0 0 1024 = some (x, q) → x = 0) :
    Calls Try.prog 76 #[.slice A n c] w fun e w' => e = .returned (match nxt b 0 0 1024 with | some (_, q) => .tuple #[.slice none 0 0, .int .i64 (q : Int), .int .i64 0] | none => .tuple #[.slice none 0 0, .int .i64 0, .int .i64 8]) ∧ Below w.heap.size w w' := by
  obtain ⟨w2, hw2⟩ : ∃ w2, w.alloc (.cells #[.slice A n c, .int .i64 0, .bool false] 117) = w2 := ⟨_, rfl⟩
  have hR2 : RDR w2 w.heap.size A n c 0 false := by rw [← hw2]; exact heap_alloc_new _ _
  have hb2 : Below w.heap.size w w2 := by rw [← hw2]; exact boxed _ _
  have hN := hide (next_ok A b n c w.heap.size 0 0 1024 w2 hR2 ((RD.below hr hb2).more hb2.size) hn hl (Nat.zero_le _) hc hA)
  clear hR2 hr hn hl hc hA
  cases hx : nxt b 0 0 1024 with
  | none =>
    have Hx := hide hx
    clear hx hb
    go_enter Try.func76, Try.ntmps76
    go_wp2_with fail
    refine hN.out.mono ?_
    rintro e w3 ⟨x, a', bd, rfl, hR3, ho3, -, -, hq⟩
    obtain ⟨rfl, rfl⟩ := hq Hx.out
    have hb3 : Below w.heap.size w w3 := hb2.trans ho3.1
    obtain ⟨r0, r1, r2⟩ := hR3.cells
    clear hR3 ho3 hw2
    go_wp2_with fail
    go_loopw [2, 14] (fun u i wr => u = .slice none 0 0 ∧ i = .int .i64 0 ∧ wr = w3) (fun _ _ _ => 0)
    case atStart => exact ⟨rfl, rfl, rfl⟩
    obtain ⟨rfl, rfl, rfl⟩ := hrel
    go_wp2_with fail
    refine bodyPost_ret (v := .tuple #[.slice none 0 0, .int .i64 0, .int .i64 8]) (by simp [results, Try.results76, go_sem]) rfl ⟨rfl, hb3⟩
  | some y =>
    obtain ⟨y, q⟩ := y
    obtain rfl := hb y q hx
    have Hx := hide hx
    clear hx hb
    go_enter Try.func76, Try.ntmps76
    go_wp2_with fail
    refine hN.out.mono ?_
    rintro e w3 ⟨x, a', bd, rfl, hR3, ho3, -, hq, -⟩
    obtain ⟨rfl, rfl, rfl⟩ := hq _ _ Hx.out
    have hb3 : Below w.heap.size w w3 := hb2.trans ho3.1
    have hlt := hR3.lt
    obtain ⟨r0, r1, r2⟩ := hR3.cells
    clear hR3 ho3 hw2
    go_wp2_with fail
    go_loopw [2, 14] (fun u i wr => u = .slice none 0 0 ∧ i = .int .i64 0 ∧ wr = w3) (fun _ _ _ => 0)
    case atStart => exact ⟨rfl, rfl, rfl⟩
    obtain ⟨rfl, rfl, rfl⟩ := hrel
    go_wp2_with fail
    go_quiet (fail)
    go_wp2_with fail
    refine bodyPost_ret (v := .tuple #[.slice none 0 0, .int .i64 (a' : Int), .int .i64 0]) (by simp [results, Try.results76, go_sem]) rfl ⟨rfl, below_drewN hb3 _⟩

set_option maxHeartbeats 3200000 in
set_option maxRecDepth 100000 in
theorem calive_ok (w : World) : Calls Try.prog 78 #[] w fun e w' => e = .returned (.bool true) ∧ Below w.heap.size w w' := by
  have P1 := hide (fun (W : World) (A : Option Addr) (c : Nat) h => cwrite_any 1 3 0 97 A 1 c [(1, 0, 3)] W h rfl (by decide) (okR_dec' (by decide)) (by decide) ⟨by decide, by decide, by decide, by decide⟩)
  have P2 := hide (fun (W : World) (A : Option Addr) (c : Nat) h => cwrite_any 3 9 1 0 A 2 c [(1, 0, 3), (5, 2, 1)] W h rfl (by decide) (okR_dec' (by decide)) (by decide) ⟨by decide, by decide, by decide, by decide⟩)
  rw [show chkO 1 3 0 [(1, 0, 3)] 97 = 0 from if_pos one_may, show putB 1 3 0 [(1, 0, 3)] 97 = [1, 1, 1, 0, 3, 97] from (if_pos one_may).trans one_bytes] at P1
  rw [show chkO 3 9 1 [(1, 0, 3), (5, 2, 1)] 0 = 0 from if_pos two_may, show putB 3 9 1 [(1, 0, 3), (5, 2, 1)] 0 = [3, 2, 1, 0, 3, 2, 2, 1, 4, 1] from (if_pos two_may).trans two_bytes] at P2
  go_enter Try.func78, Try.ntmps78
  go_wp2_with fail
  refine (cone_ok w).mono ?_
  rintro e w1 ⟨A1, c1, rfl, hr1, hb1⟩
  go_wp2_with fail
  refine (unhide P1 w1 A1 c1 hr1).mono ?_
  rintro e w2 ⟨v2, rfl, hown2, hb2⟩
  have hb02 := fresh hb1 hb2
  obtain ⟨A2, c2, rfl, -, -, -⟩ := own_slice hown2
  have R2 : RB w2 w2.heap.size A2 [1, 1, 1, 0, 3, 97] := RD.of_own hown2
  clear hown2 hr1
  go_wp2_with fail
  refine (ctwo_ok w2).mono ?_
  rintro e w3 ⟨A3, c3, rfl, hr3, hb3⟩
  have hb03 := fresh hb02 hb3
  go_wp2_with fail
  refine (unhide P2 w3 A3 c3 hr3).mono ?_
  rintro e w4 ⟨v4, rfl, hown4, hb4⟩
  have hb04 := fresh hb03 hb4
  obtain ⟨A4, c4, rfl, -, -, -⟩ := own_slice hown4
  have R4 : RB w4 w4.heap.size A4 [3, 2, 1, 0, 3, 2, 2, 1, 4, 1] := RD.of_own hown4
  have R24 : RB w4 w4.heap.size A2 [1, 1, 1, 0, 3, 97] := (RD.below R2 (fresh hb3 hb4)).more (fresh hb3 hb4).size
  clear hown4 hr3 R2
  obtain ⟨w5, hw5⟩ : ∃ w5, w4.alloc (.cells #[.int .u8 1, .int .u8 1, .int .u8 1, .int .u8 0, .int .u8 3, .int .u8 97, .int .u8 5] 5) = w5 := ⟨_, rfl⟩
  have R5 : RB w5 w5.heap.size (some ⟨w4.heap.size, 0, none⟩) [1, 1, 1, 0, 3, 97, 5] := by rw [← hw5]; exact RB.row (heap_alloc_new _ _) rfl
  have hb5 : Below w4.heap.size w4 w5 := by rw [← hw5]; exact boxed _ _
  have hb05 := fresh hb04 hb5
  have G := hide (cget_any (some ⟨w4.heap.size, 0, none⟩) [1, 1, 1, 0, 3, 97, 5] 7 7 w5 R5 rfl (by decide) (Nat.le_refl _) (fun h => by cases h))
  rw [one_read] at G
  simp only [outP] at G
  clear R5
  go_wp2_with fail
  refine G.out.mono ?_
  rintro e w6 ⟨A6, c6, rfl, hown6, hb6⟩
  have hb06 := fresh hb05 hb6
  have hr6 : RR w6 w6.heap.size A6 [(1, 0, 3)] := RR.of_own hown6 rfl
  obtain ⟨w7, hw7, F7, hs7, hb7⟩ := five_fb w6 (.int .u8 1) (.int .u32 3) (.int .u8 0) (.slice A6 1 c6) (.int .i64 97)
  have hb07 := fresh hb06 hb7
  have hb47 := fresh hb5 (fresh hb6 hb7)
  have HF := hide F7
  have HR6 := hide (hr6.below' hb7)
  have H4 := hide (show RB w7 w7.heap.size A4 [3, 2, 1, 0, 3, 2, 2, 1, 4, 1] from (RD.below R4 hb47).more hb47.size)
  have H2 := hide (show RB w7 w7.heap.size A2 [1, 1, 1, 0, 3, 97] from (RD.below R24 hb47).more hb47.size)
  obtain ⟨g7, hg7⟩ : ∃ g, g = w6.heap.size := ⟨_, rfl⟩
  have HF' := HF
  rw [← hg7] at HF'
  clear R4 R24 hown6 hr6 F7 hb5 hb6 hb7 hb47
  go_wp2_with fail
  rw [← hg7]
  clear hw5 hw7 hg7 HF hs7 G P1 P2 hb1 hb2 hb02 hb3 hb03 hb4 hb04 hb05 hb06
  refine wp_region_claims ([.val (.int .i64 0), .val (.bool true), .val (.bool true), .val (.int .i64 0), .val (.bool true), .val (.bool true), .val (.bool true), .val (.int .i64 0), .val (.bool true), .val (.bool true), .val (.bool true), .val (.slice A2 6 c2), .val (.string ⟨#[1, 1, 1, 0, 3, 97]⟩), .val (.bool true), .val (.bool true), .val (.bool true), .val (.slice A4 10 c4), .val (.string ⟨#[3, 2, 1, 0, 3, 2, 2, 1, 4, 1]⟩), .val (.bool true), .val (.bool true), .val (.bool true), .val (.int .i64 6), .val (.bool true), .val (.bool true), .val (.bool true), .val (opv 1 3 0 A6 1 c6 97), .opr 1 3 0 [(1, 0, 3)] 97, .val (.bool true), .val (.bool true), .val (.bool true)].map Kc.say) (by kernel_rfl) 53 (by rfl) (by kernel_rfl) (kcs_mono _) ?_ ?_
  · refine ⟨?_, ?_, ?_, ?_, ?_, ?_, ?_, ?_, ?_, ?_, ?_, ?_, ?_, ?_, ?_, ?_, ?_, ?_, ?_, ?_, ?_, ?_, ?_, ?_, ?_, ?_, ?_, ?_, ?_, ?_, trivial⟩
    · -- 0: slot 24
      intro ρ w' hb hf hd
      have h2 := hf 2 (by kernel_rfl)
      change ρ 2 = .int .i64 0 at h2
      clear hf hd
      refine .inl ⟨rfl, opOK_step fun R hR => ?_⟩
      unfold opOK
      go_simp
      exact hR _ _ ⟨Below.refl _ _, rfl⟩
    · -- 1: slot 25
      intro ρ w' hb hf hd
      have h24 : (Kc.val (.int .i64 0)).say (ρ 24) w' := hd 0 (by kernel_rfl)
      change ρ 24 = (.int .i64 0) at h24
      clear hf hd
      refine .inl ⟨rfl, opOK_step fun R hR => ?_⟩
      unfold opOK
      go_simp
      exact hR _ _ ⟨Below.refl _ _, rfl⟩
    · -- 2: slot 26
      intro ρ w' hb hf hd
      have h25 : (Kc.val (.bool true)).say (ρ 25) w' := hd 1 (by kernel_rfl)
      change ρ 25 = (.bool true) at h25
      clear hf hd
      refine .inl ⟨rfl, opOK_step fun R hR => ?_⟩
      unfold opOK
      go_simp
      exact hR _ _ ⟨Below.refl _ _, rfl⟩
    · -- 3: slot 27
      intro ρ w' hb hf hd
      have h4 := hf 4 (by kernel_rfl)
      have h26 : (Kc.val (.bool true)).say (ρ 26) w' := hd 2 (by kernel_rfl)
      change ρ 4 = .int .i64 0 at h4
      change ρ 26 = (.bool true) at h26
      clear hf hd
      refine .inl ⟨ask_of rfl rfl h26, opOK_step fun R hR => ?_⟩
      unfold opOK
      go_simp
      exact hR _ _ ⟨Below.refl _ _, rfl⟩
    · -- 4: slot 28
      intro ρ w' hb hf hd
      have h26 : (Kc.val (.bool true)).say (ρ 26) w' := hd 2 (by kernel_rfl)
      have h27 : (Kc.val (.int .i64 0)).say (ρ 27) w' := hd 3 (by kernel_rfl)
      change ρ 26 = (.bool true) at h26
      change ρ 27 = (.int .i64 0) at h27
      clear hf hd
      refine .inl ⟨ask_of rfl rfl h26, opOK_step fun R hR => ?_⟩
      unfold opOK
      go_simp
      exact hR _ _ ⟨Below.refl _ _, rfl⟩
    · -- 5: slot 29
      intro ρ w' hb hf hd
      have h26 : (Kc.val (.bool true)).say (ρ 26) w' := hd 2 (by kernel_rfl)
      have h28 : (Kc.val (.bool true)).say (ρ 28) w' := hd 4 (by kernel_rfl)
      change ρ 26 = (.bool true) at h26
      change ρ 28 = (.bool true) at h28
      clear hf hd
      refine .inl ⟨rfl, opOK_step fun R hR => ?_⟩
      unfold opOK
      go_simp
      exact hR _ _ ⟨Below.refl _ _, rfl⟩
    · -- 6: slot 30
      intro ρ w' hb hf hd
      have h29 : (Kc.val (.bool true)).say (ρ 29) w' := hd 5 (by kernel_rfl)
      change ρ 29 = (.bool true) at h29
      clear hf hd
      refine .inl ⟨rfl, opOK_step fun R hR => ?_⟩
      unfold opOK
      go_simp
      exact hR _ _ ⟨Below.refl _ _, rfl⟩
    · -- 7: slot 31
      intro ρ w' hb hf hd
      have h7 := hf 7 (by kernel_rfl)
      have h30 : (Kc.val (.bool true)).say (ρ 30) w' := hd 6 (by kernel_rfl)
      change ρ 7 = .int .i64 0 at h7
      change ρ 30 = (.bool true) at h30
      clear hf hd
      refine .inl ⟨ask_of rfl rfl h30, opOK_step fun R hR => ?_⟩
      unfold opOK
      go_simp
      exact hR _ _ ⟨Below.refl _ _, rfl⟩
    · -- 8: slot 32
      intro ρ w' hb hf hd
      have h30 : (Kc.val (.bool true)).say (ρ 30) w' := hd 6 (by kernel_rfl)
      have h31 : (Kc.val (.int .i64 0)).say (ρ 31) w' := hd 7 (by kernel_rfl)
      change ρ 30 = (.bool true) at h30
      change ρ 31 = (.int .i64 0) at h31
      clear hf hd
      refine .inl ⟨ask_of rfl rfl h30, opOK_step fun R hR => ?_⟩
      unfold opOK
      go_simp
      exact hR _ _ ⟨Below.refl _ _, rfl⟩
    · -- 9: slot 33
      intro ρ w' hb hf hd
      have h30 : (Kc.val (.bool true)).say (ρ 30) w' := hd 6 (by kernel_rfl)
      have h32 : (Kc.val (.bool true)).say (ρ 32) w' := hd 8 (by kernel_rfl)
      change ρ 30 = (.bool true) at h30
      change ρ 32 = (.bool true) at h32
      clear hf hd
      refine .inl ⟨rfl, opOK_step fun R hR => ?_⟩
      unfold opOK
      go_simp
      exact hR _ _ ⟨Below.refl _ _, rfl⟩
    · -- 10: slot 34
      intro ρ w' hb hf hd
      have h33 : (Kc.val (.bool true)).say (ρ 33) w' := hd 9 (by kernel_rfl)
      change ρ 33 = (.bool true) at h33
      clear hf hd
      refine .inl ⟨rfl, opOK_step fun R hR => ?_⟩
      unfold opOK
      go_simp
      exact hR _ _ ⟨Below.refl _ _, rfl⟩
    · -- 11: slot 35
      intro ρ w' hb hf hd
      have h1 := hf 1 (by kernel_rfl)
      have h34 : (Kc.val (.bool true)).say (ρ 34) w' := hd 10 (by kernel_rfl)
      change ρ 1 = .slice A2 6 c2 at h1
      change ρ 34 = (.bool true) at h34
      clear hf hd
      refine .inl ⟨ask_of rfl rfl h34, opOK_step fun R hR => ?_⟩
      unfold opOK
      go_simp
      exact hR _ _ ⟨Below.refl _ _, rfl⟩
    · -- 12: slot 36
      intro ρ w' hb hf hd
      have h34 : (Kc.val (.bool true)).say (ρ 34) w' := hd 10 (by kernel_rfl)
      have h35 : (Kc.val (.slice A2 6 c2)).say (ρ 35) w' := hd 11 (by kernel_rfl)
      change ρ 34 = (.bool true) at h34
      change ρ 35 = (.slice A2 6 c2) at h35
      clear hf hd
      refine .inl ⟨ask_of rfl rfl h34, opOK_step fun R hR => ?_⟩
      have q := conv_bytes (P := Try.prog) (show RB w' w'.heap.size _ _ from (RD.below H2.out hb).more hb.size) Try.underlying67 Try.underlying5 Try.underlying9 c2
      simp only [List.length_cons, List.length_nil, Nat.reduceAdd] at q
      unfold opOK
      go_simp
      exact hR _ _ ⟨Below.refl _ _, rfl⟩
    · -- 13: slot 37
      intro ρ w' hb hf hd
      have h34 : (Kc.val (.bool true)).say (ρ 34) w' := hd 10 (by kernel_rfl)
      have h36 : (Kc.val (.string ⟨#[1, 1, 1, 0, 3, 97]⟩)).say (ρ 36) w' := hd 12 (by kernel_rfl)
      change ρ 34 = (.bool true) at h34
      change ρ 36 = (.string ⟨#[1, 1, 1, 0, 3, 97]⟩) at h36
      clear hf hd
      refine .inl ⟨ask_of rfl rfl h34, opOK_step fun R hR => ?_⟩
      unfold opOK
      go_simp
      exact hR _ _ ⟨Below.refl _ _, rfl⟩
    · -- 14: slot 38
      intro ρ w' hb hf hd
      have h34 : (Kc.val (.bool true)).say (ρ 34) w' := hd 10 (by kernel_rfl)
      have h37 : (Kc.val (.bool true)).say (ρ 37) w' := hd 13 (by kernel_rfl)
      change ρ 34 = (.bool true) at h34
      change ρ 37 = (.bool true) at h37
      clear hf hd
      refine .inl ⟨rfl, opOK_step fun R hR => ?_⟩
      unfold opOK
      go_simp
      exact hR _ _ ⟨Below.refl _ _, rfl⟩
    · -- 15: slot 39
      intro ρ w' hb hf hd
      have h38 : (Kc.val (.bool true)).say (ρ 38) w' := hd 14 (by kernel_rfl)
      change ρ 38 = (.bool true) at h38
      clear hf hd
      refine .inl ⟨rfl, opOK_step fun R hR => ?_⟩
      unfold opOK
      go_simp
      exact hR _ _ ⟨Below.refl _ _, rfl⟩
    · -- 16: slot 40
      intro ρ w' hb hf hd
      have h3 := hf 3 (by kernel_rfl)
      have h39 : (Kc.val (.bool true)).say (ρ 39) w' := hd 15 (by kernel_rfl)
      change ρ 3 = .slice A4 10 c4 at h3
      change ρ 39 = (.bool true) at h39
      clear hf hd
      refine .inl ⟨ask_of rfl rfl h39, opOK_step fun R hR => ?_⟩
      unfold opOK
      go_simp
      exact hR _ _ ⟨Below.refl _ _, rfl⟩
    · -- 17: slot 41
      intro ρ w' hb hf hd
      have h39 : (Kc.val (.bool true)).say (ρ 39) w' := hd 15 (by kernel_rfl)
      have h40 : (Kc.val (.slice A4 10 c4)).say (ρ 40) w' := hd 16 (by kernel_rfl)
      change ρ 39 = (.bool true) at h39
      change ρ 40 = (.slice A4 10 c4) at h40
      clear hf hd
      refine .inl ⟨ask_of rfl rfl h39, opOK_step fun R hR => ?_⟩
      have q := conv_bytes (P := Try.prog) (show RB w' w'.heap.size _ _ from (RD.below H4.out hb).more hb.size) Try.underlying67 Try.underlying5 Try.underlying9 c4
      simp only [List.length_cons, List.length_nil, Nat.reduceAdd] at q
      unfold opOK
      go_simp
      exact hR _ _ ⟨Below.refl _ _, rfl⟩
    · -- 18: slot 42
      intro ρ w' hb hf hd
      have h39 : (Kc.val (.bool true)).say (ρ 39) w' := hd 15 (by kernel_rfl)
      have h41 : (Kc.val (.string ⟨#[3, 2, 1, 0, 3, 2, 2, 1, 4, 1]⟩)).say (ρ 41) w' := hd 17 (by kernel_rfl)
      change ρ 39 = (.bool true) at h39
      change ρ 41 = (.string ⟨#[3, 2, 1, 0, 3, 2, 2, 1, 4, 1]⟩) at h41
      clear hf hd
      refine .inl ⟨ask_of rfl rfl h39, opOK_step fun R hR => ?_⟩
      unfold opOK
      go_simp
      exact hR _ _ ⟨Below.refl _ _, rfl⟩
    · -- 19: slot 43
      intro ρ w' hb hf hd
      have h39 : (Kc.val (.bool true)).say (ρ 39) w' := hd 15 (by kernel_rfl)
      have h42 : (Kc.val (.bool true)).say (ρ 42) w' := hd 18 (by kernel_rfl)
      change ρ 39 = (.bool true) at h39
      change ρ 42 = (.bool true) at h42
      clear hf hd
      refine .inl ⟨rfl, opOK_step fun R hR => ?_⟩
      unfold opOK
      go_simp
      exact hR _ _ ⟨Below.refl _ _, rfl⟩
    · -- 20: slot 44
      intro ρ w' hb hf hd
      have h43 : (Kc.val (.bool true)).say (ρ 43) w' := hd 19 (by kernel_rfl)
      change ρ 43 = (.bool true) at h43
      clear hf hd
      refine .inl ⟨rfl, opOK_step fun R hR => ?_⟩
      unfold opOK
      go_simp
      exact hR _ _ ⟨Below.refl _ _, rfl⟩
    · -- 21: slot 45
      intro ρ w' hb hf hd
      have h6 := hf 6 (by kernel_rfl)
      have h44 : (Kc.val (.bool true)).say (ρ 44) w' := hd 20 (by kernel_rfl)
      change ρ 6 = .int .i64 6 at h6
      change ρ 44 = (.bool true) at h44
      clear hf hd
      refine .inl ⟨ask_of rfl rfl h44, opOK_step fun R hR => ?_⟩
      unfold opOK
      go_simp
      exact hR _ _ ⟨Below.refl _ _, rfl⟩
    · -- 22: slot 46
      intro ρ w' hb hf hd
      have h44 : (Kc.val (.bool true)).say (ρ 44) w' := hd 20 (by kernel_rfl)
      have h45 : (Kc.val (.int .i64 6)).say (ρ 45) w' := hd 21 (by kernel_rfl)
      change ρ 44 = (.bool true) at h44
      change ρ 45 = (.int .i64 6) at h45
      clear hf hd
      refine .inl ⟨ask_of rfl rfl h44, opOK_step fun R hR => ?_⟩
      unfold opOK
      go_simp
      exact hR _ _ ⟨Below.refl _ _, rfl⟩
    · -- 23: slot 47
      intro ρ w' hb hf hd
      have h44 : (Kc.val (.bool true)).say (ρ 44) w' := hd 20 (by kernel_rfl)
      have h46 : (Kc.val (.bool true)).say (ρ 46) w' := hd 22 (by kernel_rfl)
      change ρ 44 = (.bool true) at h44
      change ρ 46 = (.bool true) at h46
      clear hf hd
      refine .inl ⟨rfl, opOK_step fun R hR => ?_⟩
      unfold opOK
      go_simp
      exact hR _ _ ⟨Below.refl _ _, rfl⟩
    · -- 24: slot 48
      intro ρ w' hb hf hd
      have h47 : (Kc.val (.bool true)).say (ρ 47) w' := hd 23 (by kernel_rfl)
      change ρ 47 = (.bool true) at h47
      clear hf hd
      refine .inl ⟨rfl, opOK_step fun R hR => ?_⟩
      unfold opOK
      go_simp
      exact hR _ _ ⟨Below.refl _ _, rfl⟩
    · -- 25: slot 49
      intro ρ w' hb hf hd
      have h5 := hf 5 (by kernel_rfl)
      have h48 : (Kc.val (.bool true)).say (ρ 48) w' := hd 24 (by kernel_rfl)
      change ρ 5 = .pointer (some ⟨g7, 0, none⟩) at h5
      change ρ 48 = (.bool true) at h48
      clear hf hd
      refine .inl ⟨ask_of rfl rfl h48, opOK_step fun R hR => ?_⟩
      obtain ⟨y0, y1, y2, y3, y4⟩ := (HF'.out.below hb).cells
      unfold opOK
      go_simp
      exact hR _ _ ⟨Below.refl _ _, rfl⟩
    · -- 26: slot 50
      intro ρ w' hb hf hd
      have h48 : (Kc.val (.bool true)).say (ρ 48) w' := hd 24 (by kernel_rfl)
      change ρ 48 = (.bool true) at h48
      clear hf hd
      refine .inl ⟨ask_of rfl rfl h48, opOK_step fun R hR => ?_⟩
      unfold opOK
      go_simp
      exact (cone_ok w').mono fun e w3 ⟨A, c, he, hr, hb3⟩ => ⟨_, he, hR _ _ ⟨hb3, A, c, rfl, hr⟩⟩
    · -- 27: slot 51
      intro ρ w' hb hf hd
      have h48 : (Kc.val (.bool true)).say (ρ 48) w' := hd 24 (by kernel_rfl)
      have h49 : (Kc.val (opv 1 3 0 A6 1 c6 97)).say (ρ 49) w' := hd 25 (by kernel_rfl)
      have h50 : (Kc.opr 1 3 0 [(1, 0, 3)] 97).say (ρ 50) w' := hd 26 (by kernel_rfl)
      change ρ 48 = (.bool true) at h48
      change ρ 49 = (opv 1 3 0 A6 1 c6 97) at h49
      clear hf hd
      refine .inl ⟨ask_of rfl rfl h48, opOK_step fun R hR => ?_⟩
      obtain ⟨A, c, hA, hrA⟩ := h50
      change ρ 50 = opv 1 3 0 A 1 c 97 at hA
      unfold opOK
      go_simp
      exact (opsame_any 1 3 0 97 1 3 0 97 A6 A 1 1 c6 c [(1, 0, 3)] [(1, 0, 3)] w' (RR.below' HR6.out hb) hrA rfl rfl (by decide) (by decide)).mono fun e w3 ⟨he, hb3⟩ => ⟨_, he, hR _ _ ⟨hb3, rfl⟩⟩
    · -- 28: slot 52
      intro ρ w' hb hf hd
      have h48 : (Kc.val (.bool true)).say (ρ 48) w' := hd 24 (by kernel_rfl)
      have h51 : (Kc.val (.bool true)).say (ρ 51) w' := hd 27 (by kernel_rfl)
      change ρ 48 = (.bool true) at h48
      change ρ 51 = (.bool true) at h51
      clear hf hd
      refine .inl ⟨rfl, opOK_step fun R hR => ?_⟩
      unfold opOK
      go_simp
      exact hR _ _ ⟨Below.refl _ _, rfl⟩
    · -- 29: slot 0
      intro ρ w' hb hf hd
      have h52 : (Kc.val (.bool true)).say (ρ 52) w' := hd 28 (by kernel_rfl)
      change ρ 52 = (.bool true) at h52
      clear hf hd
      refine .inl ⟨rfl, opOK_step fun R hR => ?_⟩
      unfold opOK
      go_simp
      exact hR _ _ ⟨Below.refl _ _, rfl⟩
  · intro a' w9 hb9 hdf hsz hf hd
    have h0 : slotsOf a' 0 = .bool true := hd 29 (by decide)
    obtain ⟨T, D⟩ := a'
    have hD : D = [] := hdf
    subst hD
    go_wp2_with fail
    go_ret
    exact ⟨by rw [← h0]; rfl, fresh hb07 hb9⟩
end Go.Proofs.Ytbjfmkdjnglgbaa
