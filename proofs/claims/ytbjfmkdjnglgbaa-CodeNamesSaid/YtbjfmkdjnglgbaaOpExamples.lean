/-
  The small functions of octavolaw09: by, three, needs, bad. Condition: parts of their types.
-/
import Derived.Test.YtbjfmkdjnglgbaaOpNeeds
import Derived.Test.YtbjfmkdjnglgbaaClaims
namespace Go.Proofs.Ytbjfmkdjnglgbaa
open Go.RowKit

/-- Kinds of claims: a value; a row of stamps; a row of runs. -/
inductive Kn where
  | val (v : Value)
  | ids (l : List Id2)
  | rns (l : List Rn)
  | any
/-- What each says. -/
def Kn.say : Kn → Clm
  | .val v => fun u _ => u = v
  | .ids l => fun u w => ∃ A c, u = .slice A l.length c ∧ RI w w.heap.size A l
  | .rns l => fun u w => ∃ A c, u = .slice A l.length c ∧ (A = none → c = 0) ∧ RR w w.heap.size A l
  | .any => fun _ _ => True
theorem RI.belowO {w w' : World} {A : Option Addr} {l : List Id2} (h : RI w w.heap.size A l) (hb : Below w.heap.size w w') : RI w' w'.heap.size A l := (RD.below h hb).more hb.size
theorem Kn.mono (k : Kn) (v : Value) (w w' : World) (h : k.say v w) (hb : Below w.heap.size w w') : k.say v w' := by
  cases k with
  | val u => exact h
  | ids l => obtain ⟨A, c, e, hr⟩ := h; exact ⟨A, c, e, hr.belowO hb⟩
  | rns l => obtain ⟨A, c, e, h0, hr⟩ := h; exact ⟨A, c, e, h0, hr.below' hb⟩
  | any => trivial
theorem kns_mono (ks : List Kn) : ∀ V ∈ ks.map Kn.say, ∀ v w w', V v w → Below w.heap.size w w' → V v w' := by
  intro V hV v w w' h hb
  obtain ⟨k, -, rfl⟩ := List.mem_map.1 hV
  exact k.mono v w w' h hb

set_option maxHeartbeats 800000 in
set_option maxRecDepth 100000 in
theorem by_ok (t r : Int) (w : World) : Calls Try.prog 34 #[.int .u32 t, .int .u8 r] w fun e w' => e = .returned (.agg #[.int .u32 t, .int .u8 r]) ∧ Below w.heap.size w w' := by
  go_enter Try.func34, Try.ntmps34
  go_wp2_with fail
  exact bodyPost_ret (v := .agg #[.int .u32 t, .int .u8 r]) (by simp [results, Try.results34, go_sem]) rfl ⟨rfl, boxed w _⟩

set_option maxHeartbeats 800000 in
set_option maxRecDepth 100000 in
theorem three_ok (w : World) : Calls Try.prog 37 #[] w fun e w' => ∃ A c, e = .returned (.slice A 1 c) ∧ (A = none → c = 0) ∧ RR w' w'.heap.size A [(1, 0, 3)] ∧ Below w.heap.size w w' := by
  go_enter Try.func37, Try.ntmps37
  go_wp2_with fail
  go_ret
  exact ⟨some ⟨w.heap.size, 0, none⟩, 1, rfl, by simp, RR.new _ _ _ _ rfl, boxed _ _⟩

set_option maxHeartbeats 800000 in
set_option maxRecDepth 100000 in
theorem needs_ok (k t r z : Int) (A B : Option Addr) (n c m d : Nat) (p : List Rn) (L : List Id2) (w : World) (hr : RR w w.heap.size A p) (hn : p.length = n) (hl : n < 1073741824) (hok : ∀ x ∈ p, okR x) (k0 : 0 ≤ k) (hi : RI w w.heap.size B L) (hm : L.length = m) (hml : m < 1073741824) :
    Calls Try.prog 35 #[opv k t r A n c z, .slice B m d] w fun e w' => e = .returned (.bool (decide (mayO k t r p z ∧ needsO k t r p z = L))) ∧ Below w.heap.size w w' := by
  obtain ⟨w1, hw1, c0, c1, c2, c3, c4, hs1, hb1⟩ := five_box w (.int .u8 k) (.int .u32 t) (.int .u8 r) (.slice A n c) (.int .i64 z) 47
  have hE := hide (opneeds_any k t r z A n c p w1 (hr.below' hb1) hn hl hok k0)
  go_enter Try.func35, Try.ntmps35
  go_wp2_with fail
  refine hE.out.mono ?_
  rintro e w2 ⟨A', c', rfl, hri, hb2⟩
  have hb := fresh hb1 hb2
  clear c0 c1 c2 c3 c4 hE
  by_cases hmo : mayO k t r p z
  · have hN : (needsO k t r p z).length < 1073741824 := by
      have h1 := allR_long (p := p) (fun x hx => by have := (chainR_mem hmo.2.1.2.2.1 x hx).2.2.2.1; omega)
      have h2 := hmo.2.1.2.2.2
      unfold needsO
      rw [if_pos hmo]
      split
      · simp; omega
      · omega
    rw [show chkO k t r p z = 0 from if_pos hmo]
    have hd := hide (show decide (mayO k t r p z ∧ needsO k t r p z = L) = decide (needsO k t r p z = L) from decide_eq_decide.2 ⟨fun h => h.2, fun h => ⟨hmo, h⟩⟩)
    have hS := hide (sameids_any A' B c' d _ m (needsO k t r p z) L w2 hri (hi.belowO hb) rfl hm hN hml)
    clear hN hmo
    go_wp2_with fail
    refine hS.out.mono ?_
    rintro e w3 ⟨rfl, hb3⟩
    go_wp2_with fail
    go_ret
    exact ⟨ret_bool hd.out.symm, fresh hb hb3⟩
  · rw [show chkO k t r p z = 8 from if_neg hmo]
    have hd := hide (show decide (mayO k t r p z ∧ needsO k t r p z = L) = false from decide_eq_false fun h => hmo h.1)
    clear hmo
    go_wp2_with fail
    go_ret
    exact ⟨ret_bool hd.out.symm, hb⟩

set_option maxHeartbeats 800000 in
set_option maxRecDepth 100000 in
theorem bad_ok (k t r z : Int) (A : Option Addr) (n c : Nat) (p : List Rn) (w : World) (hr : RR w w.heap.size A p) (hn : p.length = n) (hl : n < 1073741824) (hok : ∀ x ∈ p, okR x) (k0 : 0 ≤ k) (hno : ¬ mayO k t r p z) :
    Calls Try.prog 36 #[opv k t r A n c z] w fun e w' => e = .returned (.bool true) ∧ Below w.heap.size w w' := by
  obtain ⟨w1, hw1, c0, c1, c2, c3, c4, hs1, hb1⟩ := five_box w (.int .u8 k) (.int .u32 t) (.int .u8 r) (.slice A n c) (.int .i64 z) 47
  have hE := hide (opneeds_any k t r z A n c p w1 (hr.below' hb1) hn hl hok k0)
  rw [show needsO k t r p z = [] from if_neg hno, show chkO k t r p z = 8 from if_neg hno] at hE
  have hC := hide (fun W (h : RR W W.heap.size A p) => opcheck_any k t r z A n c p W h hn hl hok k0)
  rw [show chkO k t r p z = 8 from if_neg hno] at hC
  clear hno
  go_enter Try.func36, Try.ntmps36
  go_wp2_with fail
  refine hE.out.mono ?_
  rintro e w2 ⟨A', c', rfl, hri, hb2⟩
  have hb := fresh hb1 hb2
  have d0 := keep_cell hb2 hs1 c0
  have d1 := keep_cell hb2 hs1 c1
  have d2 := keep_cell hb2 hs1 c2
  have d3 := keep_cell hb2 hs1 c3
  have d4 := keep_cell hb2 hs1 c4
  clear c0 c1 c2 c3 c4 hE
  simp only [List.length_nil]
  go_wp2_with fail
  refine (hC.out w2 (hr.below' hb)).mono ?_
  rintro e w3 ⟨rfl, hb3⟩
  go_wp2_with fail
  go_ret
  exact ⟨rfl, fresh hb hb3⟩
end Go.Proofs.Ytbjfmkdjnglgbaa
