/-
  Texts of this claim, put together: PlaceBase, Append. What each theorem asks stands in its statement.
-/
import Derived.Test.YtmkpfdcnikgokaaMc1
import Derived.Test.YtmkpfdcnikgokaaMc2
set_option linter.unusedVariables false
set_option linter.unusedSimpArgs false
namespace Go.Proofs.Ytmkpfdcnikgokaa
open Go.RowKit
/-- Runs as cells. -/
def rns (l : List Rn) : List Value := l.flatMap fun x => [.int .u32 x.1, .int .u8 x.2.1, .int .i64 x.2.2]
theorem rns_len (l : List Rn) : (rns l).length = l.length * 3 := by
  induction l with
  | nil => rfl
  | cons a l ih => simp only [rns, List.flatMap_cons, List.length_append, List.length_cons, List.length_nil] at *; omega
theorem rns_append (a b : List Rn) : rns (a ++ b) = rns a ++ rns b := by simp [rns]
theorem rns_get (l : List Rn) : ∀ (i : Nat) (h : i < l.length), (rns l)[i * 3]? = some (.int .u32 l[i].1) ∧ (rns l)[i * 3 + 1]? = some (.int .u8 l[i].2.1) ∧ (rns l)[i * 3 + 2]? = some (.int .i64 l[i].2.2) := by
  induction l with
  | nil => intro i h; simp at h
  | cons a l ih =>
    intro i h
    have e : rns (a :: l) = .int .u32 a.1 :: .int .u8 a.2.1 :: .int .i64 a.2.2 :: rns l := rfl
    rw [e]
    cases i with
    | zero => exact ⟨rfl, rfl, rfl⟩
    | succ i =>
      have := ih i (by simpa using h)
      rw [show (i + 1) * 3 = i * 3 + 3 by omega]
      exact this
theorem rns_one (l : List Rn) : ∀ u ∈ rns l, u.oneCell' = true := by
  intro u hu
  simp only [rns, List.mem_flatMap] at hu
  obtain ⟨a, _, h⟩ := hu
  simp at h
  rcases h with rfl | rfl | rfl <;> rfl
/-- A slice of runs that reads as l. -/
def RR (w : World) (B : Nat) (A : Option Addr) (l : List Rn) : Prop := RD w B 3 A l.length (rns l)
theorem RR.cell {w : World} {B : Nat} {A : Option Addr} {l : List Rn} (h : RR w B A l) (hl : 0 < l.length) :
    ∃ b off, A = some ⟨b, off, none⟩ ∧ b < B ∧ ∀ j (hj : j < l.length), w.cell? ⟨b, off + j * 3, none⟩ = some (.int .u32 l[j].1) ∧ w.cell? ⟨b, off + j * 3 + 1, none⟩ = some (.int .u8 l[j].2.1) ∧ w.cell? ⟨b, off + j * 3 + 2, none⟩ = some (.int .i64 l[j].2.2) := by
  obtain ⟨b, off, e, hb, hc⟩ := h.2 hl
  refine ⟨b, off, e, hb, fun j hj => ⟨hc (j * 3) _ (rns_get l j hj).1, ?_, ?_⟩⟩
  · have := hc (j * 3 + 1) _ (rns_get l j hj).2.1
    rwa [← Nat.add_assoc] at this
  · have := hc (j * 3 + 2) _ (rns_get l j hj).2.2
    rwa [← Nat.add_assoc] at this
theorem RR.below' {w w' : World} {A : Option Addr} {l : List Rn} (h : RR w w.heap.size A l) (hb : Below w.heap.size w w') : RR w' w'.heap.size A l := (RD.below h hb).more hb.size
theorem RR.of_own {w : World} {base : Nat} {e : TypeId} {c n : Nat} {A : Option Addr} {l : List Rn} (h : w.ownsRow base e 3 (.slice A n c) n (rns l)) (hn : l.length = n) : RR w w.heap.size A l := by
  subst hn
  exact RD.of_own h
theorem RR.new (w : World) (cs : Array Value) (T : TypeId) (l : List Rn) (h : cs.toList = rns l) : RR (w.alloc (.cells cs T)) (w.alloc (.cells cs T)).heap.size (some ⟨w.heap.size, 0, none⟩) l := by
  refine ⟨rns_len l, fun _ => ⟨_, _, rfl, by rw [World.size_alloc]; omega, fun j u hu => ?_⟩⟩
  rw [Nat.zero_add, World.cell?_alloc_new, ← Array.getElem?_toList, h]
  exact hu
/-- The parts of a run are of their types. -/
def okR (x : Rn) : Prop := 0 ≤ x.1 ∧ x.1 < 4294967296 ∧ 0 ≤ x.2.1 ∧ x.2.1 < 256 ∧ -9223372036854775808 ≤ x.2.2 ∧ x.2.2 ≤ 9223372036854775807
set_option maxHeartbeats 400000 in
set_option maxRecDepth 100000 in
theorem first_ok (t r m : Int) (w : World) :
    Calls Try.prog 120 #[.agg #[.int .u32 t, .int .u8 r, .int .i64 m]] w fun e w' => e = .returned (.agg #[.int .u32 t, .int .u8 r]) ∧ Below w.heap.size w w' := by
  go_enter Try.func120, Try.ntmps120
  go_wp2_with fail
  exact bodyPost_ret (v := .agg #[.int .u32 t, .int .u8 r]) (by simp [results, Try.results120, go_sem]) rfl ⟨rfl, (boxed _ _).trans ((boxed _ _).mono (by simp))⟩
set_option maxHeartbeats 400000 in
set_option maxRecDepth 100000 in
theorem last_ok (t r m : Int) (w : World) (h1 : 0 ≤ t) (h2 : t ≤ 1073741824) (h3 : 1 ≤ m) (h4 : m ≤ 4096) :
    Calls Try.prog 114 #[.agg #[.int .u32 t, .int .u8 r, .int .i64 m]] w fun e w' => e = .returned (.agg #[.int .u32 (t + m - 1), .int .u8 r]) ∧ Below w.heap.size w w' := by
  go_enter Try.func114, Try.ntmps114
  go_wp2_with fail
  exact bodyPost_ret (v := .agg #[.int .u32 (t + m - 1), .int .u8 r]) (by simp [results, Try.results114, go_sem]) rfl ⟨rfl, (boxed _ _).trans ((boxed _ _).mono (by simp))⟩
theorem take_chain {p : List Rn} {k : Nat} (hk : k < p.length) : chainR (p.take (k + 1)) ↔ chainR (p.take k) ∧ oneR p[k] ∧ (∀ h : 0 < k, stepR (p[k - 1]'(by omega)) p[k]) := by
  rw [List.take_succ_eq_append_getElem hk]
  rcases Nat.eq_zero_or_pos k with h0 | h0
  · subst h0
    rw [List.take_zero, List.nil_append, chainR_one]
    exact ⟨fun h => ⟨trivial, h, fun h => absurd h (by omega)⟩, fun h => h.2.1⟩
  · have hne : p.take k ≠ [] := by
      intro e
      have := congrArg List.length e
      rw [List.length_take, Nat.min_eq_left (Nat.le_of_lt hk), List.length_nil] at this
      omega
    rw [chainR_snoc hne]
    have hl : (p.take k).getLast hne = p[k - 1]'(by omega) := by
      rw [List.getLast_eq_getElem]
      simp only [List.getElem_take, List.length_take, Nat.min_eq_left (Nat.le_of_lt hk)]
    rw [hl]
    exact ⟨fun h => ⟨h.1, h.2.1, fun _ => h.2.2⟩, fun h => ⟨h.1, h.2.1, h.2.2 h0⟩⟩
theorem chain_take {p : List Rn} (h : chainR p) (k : Nat) : chainR (p.take k) := by
  have : chainR (p.take k ++ p.drop k) := by rw [List.take_append_drop]; exact h
  exact (chainR_append this).1
/-- The number that Check answers. -/
def chkR (p : List Rn) : Int := if mayR p then 0 else 8
theorem chkR_no {p : List Rn} (h : ¬ mayR p) : chkR p = 8 := if_neg h
theorem chkR_bad {p : List Rn} {k : Nat} (h : ¬ chainR (p.take k)) : chkR p = 8 := if_neg (fun hm => h (chain_take hm.2.2.1 k))
set_option maxHeartbeats 1600000 in
set_option maxRecDepth 100000 in
theorem pcheck_any (A : Option Addr) (n c : Nat) (p : List Rn) (w : World) (hr : RR w w.heap.size A p) (hn : p.length = n) (hl : n < 1073741824) (hok : ∀ x ∈ p, okR x) :
    Calls Try.prog 105 #[.slice A n c] w fun e w' => e = .returned (.int .i64 (chkR p)) ∧ Below w.heap.size w w' := by
  subst hn
  by_cases h1 : (p.length : Int) < 1
  · have hf := hide (show chkR p = 8 from chkR_no (fun h => by have := h.1; omega))
    go_enter Try.func105, Try.ntmps105
    go_wp2_with fail
    go_ret
    exact ⟨ret_int hf.out.symm, Below.refl _ _⟩
  by_cases h2 : (64 : Int) < (p.length : Int)
  · have hf := hide (show chkR p = 8 from chkR_no (fun h => by have := h.2.1; omega))
    go_enter Try.func105, Try.ntmps105
    go_wp2_with fail
    go_ret
    exact ⟨ret_int hf.out.symm, Below.refl _ _⟩
  have Hok := hide hok
  clear hok
  go_enter Try.func105, Try.ntmps105
  go_wp2_with fail
  obtain ⟨w1, hw1, m0, m1, hs1, hb1⟩ := one_box w (.int .u32 0) (.int .u8 0) 36
  have f0 : w1.frozen? ⟨w.heap.size, 0, none⟩ = false := by rw [← hw1]; simp
  have f1 : w1.frozen? ⟨w.heap.size, 1, none⟩ = false := by rw [← hw1]; simp
  have hr1 : RR w1 w.heap.size A p := RD.below hr hb1
  rw [hw1]
  clear hw1
  go_loopw [3, 17] (fun d i wr => ∃ (k : Nat) (y : Int), k ≤ p.length ∧ i = .int .i64 (k : Int) ∧ d = .int .i64 y ∧ 0 ≤ y ∧ y ≤ 4096 * (k : Int) ∧ Hid (y = long (p.take k)) ∧ Hid (chainR (p.take k)) ∧ Below w.heap.size w wr ∧ w.heap.size < wr.heap.size ∧
    wr.frozen? ⟨w.heap.size, 0, none⟩ = false ∧ wr.frozen? ⟨w.heap.size, 1, none⟩ = false ∧ ∃ a b : Int, wr.cell? ⟨w.heap.size, 0, none⟩ = some (.int .u32 a) ∧ wr.cell? ⟨w.heap.size, 1, none⟩ = some (.int .u8 b) ∧ 0 ≤ a ∧ a ≤ 1073741824 ∧
    Hid (∀ h : 0 < k ∧ k ≤ p.length, a = rend (p[k - 1]'(by omega)) ∧ b = (p[k - 1]'(by omega)).2.1)) (fun _ i _ => p.length - (intOf i).toNat)
  case atStart => exact ⟨0, 0, by omega, rfl, rfl, by decide, by decide, hide rfl, hide trivial, hb1, hs1, f0, f1, 0, 0, m0, m1, by decide, by decide, hide (fun h => absurd h.1 (by decide))⟩
  case round =>
    obtain ⟨k, y, hk, rfl, rfl, hy0, hy1, hy, hch, hb, hs, g0, g1, a, b, q0, q1, ha0, ha1, hab⟩ := hrel
    by_cases hlt : k < p.length
    · obtain ⟨b0, o0, rfl, hB0, hC0⟩ := RR.cell (RD.below hr hb) (by omega)
      obtain ⟨d0, d1, d2⟩ := hC0 k hlt
      clear hC0
      have z0 : (k : Int) < p.length := by omega
      obtain ⟨t, ht⟩ : ∃ t, t = p[k].1 := ⟨_, rfl⟩
      obtain ⟨r, hr'⟩ : ∃ r, r = p[k].2.1 := ⟨_, rfl⟩
      obtain ⟨m, hm⟩ : ∃ m, m = p[k].2.2 := ⟨_, rfl⟩
      rw [← ht] at d0
      rw [← hr'] at d1
      rw [← hm] at d2
      have hel : p[k] = (t, r, m) := by rw [ht, hr', hm]
      have hokk := Hok.out p[k] (List.getElem_mem hlt)
      rw [hel] at hokk
      obtain ⟨t0, t1, r0, r1, n0, n1⟩ := hokk
      simp only at t0 t1 r0 r1 n0 n1
      have hchk := take_chain hlt
      rw [hel] at hchk
      have Hchk := hide hchk
      have Hel := hide hel
      clear ht hr' hm hel hchk
      by_cases c1 : m < 1
      · have hf := hide (show chkR p = 8 from chkR_bad (k := k + 1) (fun h => by have := (Hchk.out.1 h).2.1.2.2.2.1; simp only at this; omega))
        go_wp2_with fail
        go_ret
        exact ⟨ret_int hf.out.symm, hb.trans ((boxed wr _).mono hb.size)⟩
      by_cases c2 : (4096 : Int) < m
      · have hf := hide (show chkR p = 8 from chkR_bad (k := k + 1) (fun h => by have := (Hchk.out.1 h).2.1.2.2.2.2.1; simp only at this; omega))
        go_wp2_with fail
        go_ret
        exact ⟨ret_int hf.out.symm, hb.trans ((boxed wr _).mono hb.size)⟩
      -- the run's box
      have hbx : Below w.heap.size w (wr.alloc (.cells #[.int .u32 t, .int .u8 r, .int .i64 m] 123)) := hb.trans ((boxed wr _).mono hb.size)
      have keepx : ∀ W, Below (wr.alloc (.cells #[.int .u32 t, .int .u8 r, .int .i64 m] 123)).heap.size (wr.alloc (.cells #[.int .u32 t, .int .u8 r, .int .i64 m] 123)) W → W.cell? ⟨wr.heap.size, 0, none⟩ = some (.int .u32 t) ∧ W.cell? ⟨wr.heap.size, 1, none⟩ = some (.int .u8 r) ∧ W.cell? ⟨wr.heap.size, 2, none⟩ = some (.int .i64 m) ∧
          W.cell? ⟨w.heap.size, 0, none⟩ = some (.int .u32 a) ∧ W.cell? ⟨w.heap.size, 1, none⟩ = some (.int .u8 b) ∧ W.frozen? ⟨w.heap.size, 0, none⟩ = false ∧ W.frozen? ⟨w.heap.size, 1, none⟩ = false ∧ w.heap.size < W.heap.size := by
        intro W hW
        have hl1 : wr.heap.size < (wr.alloc (.cells #[.int .u32 t, .int .u8 r, .int .i64 m] 123)).heap.size := by simp
        have hl2 : w.heap.size < (wr.alloc (.cells #[.int .u32 t, .int .u8 r, .int .i64 m] 123)).heap.size := by simp; omega
        refine ⟨(hW.cell (p := ⟨wr.heap.size, 0, none⟩) hl1).trans ?_, (hW.cell (p := ⟨wr.heap.size, 1, none⟩) hl1).trans ?_, (hW.cell (p := ⟨wr.heap.size, 2, none⟩) hl1).trans ?_,
          (hW.cell (p := ⟨w.heap.size, 0, none⟩) hl2).trans ?_, (hW.cell (p := ⟨w.heap.size, 1, none⟩) hl2).trans ?_, (hW.frozen (p := ⟨w.heap.size, 0, none⟩) hl2).trans ?_, (hW.frozen (p := ⟨w.heap.size, 1, none⟩) hl2).trans ?_, Nat.lt_of_lt_of_le hl2 hW.size⟩
        · rw [World.cell?_alloc_new]; rfl
        · rw [World.cell?_alloc_new]; rfl
        · rw [World.cell?_alloc_new]; rfl
        · rw [World.cell?_alloc_lt _ _ _ hs]; exact q0
        · rw [World.cell?_alloc_lt _ _ _ hs]; exact q1
        · have := (boxed wr (.cells #[.int .u32 t, .int .u8 r, .int .i64 m] 123)).frozen (p := ⟨w.heap.size, 0, none⟩) hs
          exact this.trans g0
        · have := (boxed wr (.cells #[.int .u32 t, .int .u8 r, .int .i64 m] 123)).frozen (p := ⟨w.heap.size, 1, none⟩) hs
          exact this.trans g1
      have Keepx := hide keepx
      clear keepx
      by_cases c3 : mayI t r
      · have c3b := c3
        obtain ⟨c31, c32, c33⟩ := c3b
        have Hc3 := hide c3
        clear c3
        go_wp2_with fail
        refine (first_ok t r m _).mono ?_
        rintro e w2 ⟨rfl, hb2⟩
        obtain ⟨x0, x1, x2, x3, x4, x5, x6, x7⟩ := Keepx.out w2 hb2
        have hbw2 := hbx.trans (hb2.mono hbx.size)
        go_wp2_with fail
        refine (scheck_yes t r w2 Hc3.out).mono ?_
        rintro e w3 ⟨rfl, hb3⟩
        have hb23 := fresh hb2 hb3
        clear x0 x1 x2 x3 x4 x5 x6 x7
        obtain ⟨x0, x1, x2, x3, x4, x5, x6, x7⟩ := Keepx.out w3 hb23
        have hbw3 := hbw2.trans (hb3.mono hbw2.size)
        go_wp2_with fail
        refine (last_ok t r m w3 t0 c32 (by omega) (by omega)).mono ?_
        rintro e w4 ⟨rfl, hb4⟩
        have hb24 := fresh hb23 hb4
        clear x0 x1 x2 x3 x4 x5 x6 x7
        obtain ⟨x0, x1, x2, x3, x4, x5, x6, x7⟩ := Keepx.out w4 hb24
        have hbw4 := hbw3.trans (hb4.mono hbw3.size)
        by_cases c4 : t + m - 1 ≤ 1073741824
        · have hone : oneR (t, r, m) := ⟨c31, c32, c33, by simp only; omega, by simp only; omega, c4⟩
          have Hone := hide hone
          clear hone
          go_wp2_with fail
          refine (scheck_yes (t + m - 1) r w4 ⟨by omega, c4, c33⟩).mono ?_
          rintro e w5 ⟨rfl, hb5⟩
          have hb25 := fresh hb24 hb5
          clear x0 x1 x2 x3 x4 x5 x6 x7
          obtain ⟨x0, x1, x2, x3, x4, x5, x6, x7⟩ := Keepx.out w5 hb25
          have hbw5 := hbw4.trans (hb5.mono hbw4.size)
          clear q0 q1 g0 g1 d0 d1 d2
          by_cases hstep : 0 < k → ∀ h : k ≤ p.length, stepR (p[k - 1]'(by omega)) (t, r, m)
          · have hch' := hide (show chainR (p.take (k + 1)) from Hchk.out.2 ⟨hch.out, Hone.out, fun h => hstep h hk⟩)
            have hlong := hide (show long (p.take (k + 1)) = y + m by rw [List.take_succ_eq_append_getElem hlt, long_snoc, hy.out, Hel.out])
            have hab' := hide (show ∀ h : 0 < k + 1 ∧ k + 1 ≤ p.length, t + m - 1 = rend (p[k + 1 - 1]'(by omega)) ∧ r = (p[k + 1 - 1]'(by omega)).2.1 by
              intro h
              simp only [Nat.add_sub_cancel]
              rw [Hel.out]
              exact ⟨rfl, rfl⟩)
            have hkc : (¬ (0 : Int) < k) ∨ ((0 : Int) < k ∧ a < t ∧ (¬ r = b)) ∨ ((0 : Int) < k ∧ a < t ∧ (r == b) = true ∧ (t == a + 1) = false) := by
              by_cases hk0 : 0 < k
              · obtain ⟨e1, e2⟩ := hab.out ⟨hk0, hk⟩
                obtain ⟨s1, s2⟩ := hstep hk0 hk
                simp only at s1 s2
                unfold rend at e1
                rw [← e2, ← e1] at s2
                rw [← e1] at s1
                by_cases hrb : r = b
                · exact .inr (.inr ⟨by omega, s1, by simpa using hrb, by simpa using fun h => s2 ⟨hrb, h⟩⟩)
                · exact .inr (.inl ⟨by omega, s1, hrb⟩)
              · exact .inl (by omega)
            clear hstep
            have fin : ∀ W, Below w.heap.size w W → Below w.heap.size w ((W.setCell ⟨w.heap.size, 0, none⟩ (.int .u32 (t + m - 1))).setCell ⟨w.heap.size, 1, none⟩ (.int .u8 r)) := fun W hW => (hW.setCell (Nat.le_refl _) _).setCell (Nat.le_refl _) _
            have Fin := hide fin
            clear fin
            have hym : y + m ≤ 4096 * ((k : Int) + 1) := by omega
            rcases hkc with k1 | ⟨k1, k2, k3⟩ | ⟨k1, k2, k3, k4⟩
            all_goals
              go_wp2_with fail
              refine (last_ok t r m w5 t0 c32 (by omega) (by omega)).mono ?_
              rintro e w6 ⟨rfl, hb6⟩
              have hb26 := fresh hb25 hb6
              clear x0 x1 x2 x3 x4 x5 x6 x7
              obtain ⟨x0, x1, x2, x3, x4, x5, x6, x7⟩ := Keepx.out w6 hb26
              have hbw6 := hbw5.trans (hb6.mono hbw5.size)
              go_wp2_with fail
              go_roundw
              case rel =>
                refine ⟨k + 1, y + m, by omega, by go_num, rfl, by omega, by omega, hide hlong.out.symm, hch', Fin.out _ hbw6, by simp; omega, by simp [x5], by simp [x6], t + m - 1, r, ?_, ?_, by omega, c4, hab'⟩
                · simp [go_sem, x3]
                · simp [go_sem, x4]
              case measure => simp [intOf]; omega
          · have hk0 : 0 < k := by
              apply Classical.byContradiction
              intro h
              exact hstep (fun h2 => absurd h2 h)
            have hst : ¬ stepR (p[k - 1]'(by omega)) (t, r, m) := fun h => hstep (fun _ _ => h)
            have hf := hide (show chkR p = 8 from chkR_bad (k := k + 1) (fun h => hst ((Hchk.out.1 h).2.2 hk0)))
            have k1 : (0 : Int) < k := by omega
            have hkc : t ≤ a ∨ (¬ t ≤ a ∧ r = b ∧ t = a + 1) := by
              obtain ⟨e1, e2⟩ := hab.out ⟨hk0, hk⟩
              unfold rend at e1
              unfold stepR at hst
              simp only at hst
              rw [← e2, ← e1] at hst
              by_cases hta : t ≤ a
              · exact .inl hta
              · exact .inr ⟨hta, by omega, by omega⟩
            clear hstep hst
            rcases hkc with k2 | ⟨k2, k3, k4⟩
            · go_wp2_with fail
              go_ret
              exact ⟨ret_int hf.out.symm, hbw5⟩
            · have K4 := hide k4
              have e1 : (r == b) = true := by simpa using k3
              have e2 : (t == a + 1) = true := by simpa using k4
              clear k3 k4
              go_wp2_with fail
              go_ret
              exact ⟨ret_int hf.out.symm, hbw5⟩
        · have hf := hide (show chkR p = 8 from chkR_bad (k := k + 1) (fun h => by have := (Hchk.out.1 h).2.1.2.2.2.2.2; simp only at this; omega))
          have hno := hide (show ¬ mayI (t + m - 1) r from fun h => c4 h.2.1)
          go_wp2_with fail
          refine (scheck_no (t + m - 1) r w4 hno.out).mono ?_
          rintro e w5 ⟨rfl, hb5⟩
          go_wp2_with fail
          go_ret
          exact ⟨ret_int hf.out.symm, hbw4.trans (hb5.mono hbw4.size)⟩
      · have hf := hide (show chkR p = 8 from chkR_bad (k := k + 1) (fun h => by have := (Hchk.out.1 h).2.1; exact c3 ⟨this.1, this.2.1, this.2.2.1⟩))
        have Hc3 := hide c3
        clear c3
        go_wp2_with fail
        refine (first_ok t r m _).mono ?_
        rintro e w2 ⟨rfl, hb2⟩
        have hbw2 := hbx.trans (hb2.mono hbx.size)
        go_wp2_with fail
        refine (scheck_no t r w2 Hc3.out).mono ?_
        rintro e w3 ⟨rfl, hb3⟩
        go_wp2_with fail
        go_ret
        exact ⟨ret_int hf.out.symm, hbw2.trans (hb3.mono hbw2.size)⟩
    · have hkl : ¬ (k : Int) < p.length := by omega
      have hall : p.take k = p := List.take_of_length_le (by omega)
      have hy' := hy.out
      have hch' := hch.out
      rw [hall] at hy' hch'
      by_cases hlong : (4096 : Int) < y
      · have hf := hide (show chkR p = 8 from chkR_no (fun h => by have := h.2.2.2; omega))
        clear hall hy' hch' hy
        go_wp2_with fail
        go_ret
        exact ⟨ret_int hf.out.symm, hb⟩
      · have hf := hide (show chkR p = 0 from if_pos ⟨by omega, by omega, hch', by omega⟩)
        clear hall hy' hch' hy
        go_wp2_with fail
        go_ret
        exact ⟨ret_int hf.out.symm, hb⟩
end Go.Proofs.Ytmkpfdcnikgokaa
namespace Go.Proofs.Ytmkpfdcnikgokaa
open Go.RowKit
section
variable {P : Program} (w : World)
theorem run_append_zero (base : Nat) (t ty e : TypeId) (i : TypeInfo) (size : Nat) (ht : P.underlying t = some (.slice e)) (hi : P.info? e = some i)
    (v : Value) (n : Nat) (xs : List Value) (hown : w.ownsRow base e size v n xs) (c : Nat) : (Builtin.append_ #[t, t] ty #[v, .slice none 0 c]).run P w = .ok v w := by
  rcases hown.2 with ⟨rfl, rfl⟩ | ⟨g, cap, cur, rfl, _, _, hnc, _⟩
  · simp [Builtin.append_, run_underlying ht, sizeOf, typeInfo, hi, Builtin.lenOf, Builtin.firstCells]
  · simp [Builtin.append_, run_underlying ht, sizeOf, typeInfo, hi, Builtin.lenOf, Builtin.firstCells, hnc, storeCells]
theorem run_append_src (base : Nat) (t ty e : TypeId) (i : TypeInfo) (z : Value) (size bytes : Nat) (ht : P.underlying t = some (.slice e)) (hi : P.info? e = some i) (hz : i.zero = some z)
    (hsize : i.size = size) (hby : i.bytes = bytes) (hzs : z.cells.size = size) (hsz : 0 < size)
    (v : Value) (n : Nat) (xs : List Value) (hown : w.ownsRow base e size v n xs)
    (B : Nat) (A : Option Addr) (m c : Nat) (news : List Value) (hr : RD w B size A m news) (h1 : ∀ u ∈ news, u.oneCell' = true)
    (h63 : n + m ≤ maxLen) (hbytes : (n + m) * bytes ≤ 140737488355328) (hbase : base ≤ w.heap.size) :
    ∃ v' w', (Builtin.append_ #[t, t] ty #[v, .slice A m c]).run P w = .ok v' w' ∧ w'.ownsRow base e size v' (n + m) (xs ++ news) ∧ w.grownBy w' v.ownBlock := by
  rcases A with _ | ad
  · have hm : m = 0 := by
      rcases Nat.eq_zero_or_pos m with h0 | h0
      · exact h0
      · obtain ⟨b, off, h, _⟩ := hr.2 h0
        cases h
    subst hm
    have hn : news = [] := List.eq_nil_of_length_eq_zero (by simpa using hr.1)
    subst hn
    exact ⟨v, w, run_append_zero w base t ty e i size ht hi v n xs hown c, by simpa using hown, World.grownBy.refl w _⟩
  · have hcells : ∀ j u, news[j]? = some u → w.cell? (ad.add j) = some u := by
      intro j u hu
      rcases Nat.eq_zero_or_pos m with h0 | h0
      · subst h0
        have hn : news = [] := List.eq_nil_of_length_eq_zero (by simpa using hr.1)
        subst hn
        simp at hu
      · obtain ⟨b, off, h, _, hc⟩ := hr.2 h0
        injection h with h
        subst h
        rw [add_none]
        exact hc j u hu
    obtain ⟨v', w', hrun, h2, h3, _, _⟩ := run_append_own_at (P := P) w base t ty e i z size bytes ht hi hz hsize hby hzs hsz v n xs hown ad m c news hr.1 hcells h1 h63 hbytes hbase
    exact ⟨v', w', hrun, h2, h3⟩
theorem wp_append_src {o : Oper} {a : Act} {K : Act → World → Prop} {Q : Exit → Act → World → Prop} (s x : Operand) (t : TypeId)
    (ho : o.op = .call { callee := .builtin .append, args := #[s, x], argTypes := #[t, t] })
    (base : Nat) (e : TypeId) (i : TypeInfo) (z : Value) (size bytes : Nat) (ht : P.underlying t = some (.slice e)) (hi : P.info? e = some i) (hz : i.zero = some z)
    (hsize : i.size = size) (hby : i.bytes = bytes) (hzs : z.cells.size = size) (hsz : 0 < size)
    (v : Value) (n : Nat) (xs : List Value) (hs : a.eval s = v) (hown : w.ownsRow base e size v n xs)
    (B : Nat) (A : Option Addr) (m c : Nat) (news : List Value) (hx : a.eval x = .slice A m c) (hr : RD w B size A m news) (h1 : ∀ u ∈ news, u.oneCell' = true)
    (h63 : n + m ≤ 1073741824) (hbytes : bytes ≤ 65536) (hbase : base ≤ w.heap.size)
    (h : ∀ v' w', w'.ownsRow base e size v' (n + m) (xs ++ news) → Below base w w' → K (a.put o.dst v') w') : o.wp P a w K Q := by
  have hb' : (n + m) * bytes ≤ 140737488355328 := by
    have : (n + m) * bytes ≤ (n + m) * 65536 := Nat.mul_le_mul_left _ hbytes
    omega
  obtain ⟨v', w', hrun, h2, h3⟩ := run_append_src (P := P) w base t o.type e i z size bytes ht hi hz hsize hby hzs hsz v n xs hown B A m c news hr h1 (by unfold maxLen; omega) hb' hbase
  unfold Oper.wp execOp
  simp only [ho, resolve, invoke, builtin, Sem.run_bind, Sem.run_pure, Result.andThen_ok, List.map_toArray, List.map_cons, List.map_nil, hs, hx, hrun]
  exact h v' w' h2 (grown_below hown h3 hbase)
theorem wpList_append_src {ops : Array Oper} {rest : List Oper} {o : Oper} {a : Act} {Q : Exit → Act → World → Prop} (hgd : o.guard = none) (s x : Operand) (t : TypeId)
    (ho : o.op = .call { callee := .builtin .append, args := #[s, x], argTypes := #[t, t] })
    (base : Nat) (e : TypeId) (i : TypeInfo) (z : Value) (size bytes : Nat) (ht : P.underlying t = some (.slice e)) (hi : P.info? e = some i) (hz : i.zero = some z)
    (hsize : i.size = size) (hby : i.bytes = bytes) (hzs : z.cells.size = size) (hsz : 0 < size)
    (v : Value) (n : Nat) (xs : List Value) (hs : a.eval s = v) (hown : w.ownsRow base e size v n xs)
    (B : Nat) (A : Option Addr) (m c : Nat) (news : List Value) (hx : a.eval x = .slice A m c) (hr : RD w B size A m news) (h1 : ∀ u ∈ news, u.oneCell' = true)
    (h63 : n + m ≤ 1073741824) (hbytes : bytes ≤ 65536) (hbase : base ≤ w.heap.size)
    (h : ∀ v' w', w'.ownsRow base e size v' (n + m) (xs ++ news) → Below base w w' → wpList P ops Q rest (a.put o.dst v') w') : wpList P ops Q (o :: rest) a w :=
  wpList_plain hgd fun _ hK => wp_append_src w s x t ho base e i z size bytes ht hi hz hsize hby hzs hsz v n xs hs hown B A m c news hx hr h1 h63 hbytes hbase fun v' w' h2 h3 => hK _ _ (h v' w' h2 h3)
end
/-- '[]T{}' as a row of the call's own. -/
theorem own_empty (w : World) (e : TypeId) (size base : Nat) (hb : base ≤ w.heap.size) : (w.alloc (.cells #[] e)).ownsRow base e size (.slice (some ⟨w.heap.size, 0, none⟩) 0 0) 0 [] :=
  World.ownsRow_made w #[] 0 hb (Nat.zero_le _) (by simp)
end Go.Proofs.Ytmkpfdcnikgokaa
