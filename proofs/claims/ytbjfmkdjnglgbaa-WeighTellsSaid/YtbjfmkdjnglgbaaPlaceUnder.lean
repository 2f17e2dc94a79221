/-
  What place.Under does. Condition: fewer than 2^30 runs, whose parts are of their types, as the stamp's.
-/
import Derived.Test.YtbjfmkdjnglgbaaPlaceBegins
namespace Go.Proofs.Ytbjfmkdjnglgbaa
open Go.RowKit

/-- Does a stamp carry on with the last run? -/
def goesOn (p : List Rn) (t r : Int) : Prop := p ≠ [] ∧ r = (lastR p).2 ∧ t = (lastR p).1 + 1
instance (p : List Rn) (t r : Int) : Decidable (goesOn p t r) := by unfold goesOn; infer_instance
/-- One more in the last run. -/
def bump (x : Rn) : Rn := (x.1, x.2.1, x.2.2 + 1)
/-- A place and a stamp behind. -/
def moreR (p : List Rn) (t r : Int) : List Rn := if goesOn p t r then p.dropLast ++ [bump (p.getLastD (0, 0, 0))] else p ++ [(t, r, 1)]
/-- What Under answers. -/
def underR (p : List Rn) (t r : Int) : List Rn × Int :=
  if ¬ (anyR p ∧ mayI t r) then ([], 8) else if t ≤ (lastR p).1 then ([], 2) else if mayR (moreR p t r) then (moreR p t r, 0) else ([], 60)

theorem rns_set (m : Int) : ∀ (l : List Rn) (k : Nat) (h : k < l.length), rns (l.set k (l[k].1, l[k].2.1, m)) = (rns l).set (k * 3 + 2) (.int .i64 m) := by
  intro l
  induction l with
  | nil => intro k h; simp at h
  | cons x l ih =>
    intro k h
    cases k with
    | zero => rfl
    | succ k =>
      have := ih k (by simpa using h)
      rw [List.set_cons_succ, rns_cons, rns_cons, List.getElem_cons_succ, this, show (k + 1) * 3 + 2 = (k * 3 + 2) + 1 + 1 + 1 by omega]
      rfl
theorem SB.many {w : World} {g base c off : Nat} {l : List Rn} (h : SB w g base (some ⟨g, off, none⟩) l c) (k : Nat) (hk : k < l.length) (m : Int) : SB (w.setCell ⟨g, off + k * 3 + 2, none⟩ (.int .i64 m)) g base (some ⟨g, off, none⟩) (l.set k (l[k].1, l[k].2.1, m)) c := by
  refine ⟨by simpa using h.1, fun _ => ?_⟩
  rw [Nat.add_assoc]
  obtain ⟨h0, off', cur, h1, hg, hc⟩ := h.2 (by intro e; rw [e] at hk; simp at hk)
  simp only [Option.some.injEq, Addr.mk.injEq, true_and, and_true] at h1
  subst h1
  refine ⟨h0, off, _, rfl, heap_setCell_same _ _ _ _ _ _ hg, fun j u hu => ?_⟩
  rw [rns_set, List.getElem?_set] at hu
  have hx := (Array.getElem?_eq_some_iff.1 (hc (k * 3 + 2) _ (rns_get l k hk).2.2)).1
  rw [Array.getElem?_setIfInBounds]
  by_cases e : k * 3 + 2 = j
  · subst e
    rw [if_pos rfl] at hu
    rw [if_pos rfl, if_pos hx]
    split at hu
    · exact hu
    · cases hu
  · rw [if_neg e] at hu
    rw [if_neg (by omega)]
    exact hc j u hu
theorem set_last (p : List Rn) (h : p ≠ []) : p.set (p.length - 1) (bump (p.getLastD (0, 0, 0))) = p.dropLast ++ [bump (p.getLastD (0, 0, 0))] := by
  have hp := List.dropLast_concat_getLast h
  obtain ⟨q, x, rfl⟩ : ∃ q x, p = q ++ [x] := ⟨_, _, hp.symm⟩
  simp
theorem lastD_get (p : List Rn) (h : p.length - 1 < p.length) : p.getLastD (0, 0, 0) = p[p.length - 1] := by
  rw [List.getLastD_eq_getLast?, List.getLast?_eq_getElem?, List.getElem?_eq_getElem h]
  rfl
theorem run_row (t r m : Int) (w : World) : RR (w.alloc (.cells #[.int .u32 t, .int .u8 r, .int .i64 m] 41)) (w.alloc (.cells #[.int .u32 t, .int .u8 r, .int .i64 m] 41)).heap.size (some ⟨w.heap.size, 0, none⟩) [(t, r, m)] := RR.new w _ _ _ rfl

theorem lastR_ge (p : List Rn) : 0 ≤ (lastR p).1 := by
  unfold lastR
  split
  · rename_i h
    have hl := h.1
    have := chainR_mem h.2.2.1 _ (List.getElem_mem (h := by omega) : p[p.length - 1]'(by omega) ∈ p)
    rw [lastD_get p (by omega)]
    have h1 := this.1
    have h2 := this.2.2.2.1
    unfold rend
    simp only
    omega
  · simp

set_option maxHeartbeats 3200000 in
set_option maxRecDepth 100000 in
theorem punder_any (A : Option Addr) (n c : Nat) (p : List Rn) (t r : Int) (w : World) (hr : RR w w.heap.size A p) (hn : p.length = n) (hl : n < 1073741823) (hA : A = none → c = 0) (hok : ∀ x ∈ p, okR x)
    (t0 : 0 ≤ t) (t1 : t < 4294967296) (r0 : 0 ≤ r) (r1 : r < 256) :
    Calls Try.prog 23 #[.slice A n c, .agg #[.int .u32 t, .int .u8 r]] w fun e w' => ∃ A' c' g, e = .returned (.tuple #[.slice A' (underR p t r).1.length c', .int .i64 (underR p t r).2]) ∧ SB w' g w.heap.size A' (underR p t r).1 c' ∧ (A' = none → c' = 0) ∧ Below w.heap.size w w' := by
  have M1 := hide (fun w h => pmay_any A n c p w h hn (by omega) hok)
  have T0 := hide (fun w h => ptwin_any A n c p w h hn (by omega) hA)
  have L0 := hide (fun w h => plast_any A n c p w h hn (by omega) hok)
  have Hok := hide hok
  subst hn
  clear hA hok
  by_cases h1 : anyR p
  · have d1 := hide (decide_eq_true h1)
    by_cases h2 : mayI t r
    · have d2 := hide (show chkI t r = 0 from if_pos h2)
      have hu := hide (show underR p t r = if t ≤ (lastR p).1 then ([], 2) else if mayR (moreR p t r) then (moreR p t r, 0) else ([], 60) from if_neg (fun h => h ⟨h1, h2⟩))
      obtain ⟨lt, hlt⟩ : ∃ x, (lastR p).1 = x := ⟨_, rfl⟩
      obtain ⟨lr, hlr⟩ : ∃ x, (lastR p).2 = x := ⟨_, rfl⟩
      rw [hlt] at hu
      have lt0 : 0 ≤ lt := by rw [← hlt]; exact lastR_ge p
      simp only [hlt, hlr] at L0
      by_cases hle : t ≤ lt
      · have hu2 := hide (hu.out.trans (if_pos hle))
        go_enter Try.func23, Try.ntmps23
        go_wp2_with fail
        obtain ⟨w1, hw1, k0, k1, hs1, hb1⟩ := one_box w (.int .u32 t) (.int .u8 r) 25
        simp only [hw1]
        clear hw1
        refine (unhide M1 w1 (RR.below' hr hb1)).mono ?_
        rintro e w2 ⟨rfl, hb2⟩
        rw [d1.out]
        replace k0 := keep_cell hb2 hs1 k0
        replace k1 := keep_cell hb2 hs1 k1
        replace hs1 := Nat.lt_of_lt_of_le hs1 hb2.size
        go_wp2_with fail
        refine (scheck_any t r w2).mono ?_
        rintro e w3 ⟨rfl, hb3⟩
        rw [d2.out]
        replace k0 := keep_cell hb3 hs1 k0
        replace k1 := keep_cell hb3 hs1 k1
        replace hs1 := Nat.lt_of_lt_of_le hs1 hb3.size
        have hbw3 := fresh (fresh hb1 hb2) hb3
        clear hb1 hb2 hb3
        go_wp2_with fail
        refine (unhide L0 w3 (RR.below' hr hbw3)).mono ?_
        rintro e w4 ⟨rfl, hb4⟩
        replace k0 := keep_cell hb4 hs1 k0
        replace k1 := keep_cell hb4 hs1 k1
        replace hs1 := Nat.lt_of_lt_of_le hs1 hb4.size
        have hbw4 := fresh hbw3 hb4
        clear hb4 hbw3
        go_wp2_with fail
        exact bodyPost_ret (v := .tuple #[.slice none 0 0, .int .i64 2]) (by simp [results, Try.results23, go_sem]) rfl ⟨none, 0, 0, by rw [hu2.out]; rfl, by rw [hu2.out]; exact ⟨Nat.le_refl _, fun h => absurd rfl h⟩, fun _ => rfl, fresh hbw4 (boxed _ _)⟩
      · have hu2 := hide (hu.out.trans (if_neg hle))
        have ht2 : t ≤ 1073741824 := h2.2.1
        have hx1 : lt < t := by omega
        clear hu h2
        by_cases hgo : goesOn p t r
        · have hq := hide (show moreR p t r = p.dropLast ++ [bump (p.getLastD (0, 0, 0))] from if_pos hgo)
          have hmay : mayR p := h1.resolve_left hgo.1
          obtain ⟨hne, hrr, htt⟩ := hgo
          rw [hlr] at hrr
          rw [hlt] at htt
          have hpos : (0 : Int) < p.length := by have := List.length_pos_iff.2 hne; omega
          have Hne := hide hne
          have hset := hide (set_last p hne)
          clear hne
          subst hrr htt
          clear h1 hlr
          go_enter Try.func23, Try.ntmps23
          go_wp2_with fail
          obtain ⟨w1, hw1, k0, k1, hs1, hb1⟩ := one_box w (.int .u32 (lt + 1)) (.int .u8 r) 25
          simp only [hw1]
          clear hw1
          refine (unhide M1 w1 (RR.below' hr hb1)).mono ?_
          rintro e w2 ⟨rfl, hb2⟩
          rw [d1.out]
          replace k0 := keep_cell hb2 hs1 k0
          replace k1 := keep_cell hb2 hs1 k1
          replace hs1 := Nat.lt_of_lt_of_le hs1 hb2.size
          go_wp2_with fail
          refine (scheck_any (lt + 1) r w2).mono ?_
          rintro e w3 ⟨rfl, hb3⟩
          rw [d2.out]
          replace k0 := keep_cell hb3 hs1 k0
          replace k1 := keep_cell hb3 hs1 k1
          replace hs1 := Nat.lt_of_lt_of_le hs1 hb3.size
          have hbw3 := fresh (fresh hb1 hb2) hb3
          clear hb1 hb2 hb3
          go_wp2_with fail
          refine (unhide L0 w3 (RR.below' hr hbw3)).mono ?_
          rintro e w4 ⟨rfl, hb4⟩
          replace k0 := keep_cell hb4 hs1 k0
          replace k1 := keep_cell hb4 hs1 k1
          replace hs1 := Nat.lt_of_lt_of_le hs1 hb4.size
          have hbw4 := fresh hbw3 hb4
          clear hb4 hbw3
          go_wp2_with fail
          obtain ⟨w5, hw5, q0, q1, hs5, hb5⟩ := one_box w4 (.int .u32 lt) (.int .u8 r) 25
          simp only [hw5]
          clear hw5
          replace k0 := keep_cell hb5 hs1 k0
          replace k1 := keep_cell hb5 hs1 k1
          replace hs1 := Nat.lt_of_lt_of_le hs1 hb5.size
          have hbw5 := fresh hbw4 hb5
          generalize w4.heap.size = g4 at q0 q1 hs5 ⊢
          clear hb5 hbw4
          refine (unhide T0 w5 (RR.below' hr hbw5)).mono ?_
          rintro e w6 ⟨v6, rfl, hown6, hb6⟩
          replace k0 := keep_cell hb6 hs1 k0
          replace k1 := keep_cell hb6 hs1 k1
          replace q0 := keep_cell hb6 hs5 q0
          replace q1 := keep_cell hb6 hs5 q1
          have hbw6 := fresh hbw5 hb6
          have hB6 : w.heap.size ≤ w5.heap.size := hbw5.size
          clear hb6
          obtain ⟨A7, c7, rfl, hc7, -, -⟩ := own_slice hown6
          obtain ⟨g, S7, -⟩ := own_SB hown6 rfl hc7
          obtain ⟨hbg, off, cur, rfl, hgc, hcc⟩ := S7.2 Hne.out
          have hk : p.length - 1 < p.length := by omega
          obtain ⟨m, hm⟩ : ∃ m, p[p.length - 1].2.2 = m := ⟨_, rfl⟩
          have hone := chainR_mem hmay.2.2.1 _ (List.getElem_mem hk)
          have m1 : 1 ≤ m := by rw [← hm]; exact hone.2.2.2.1
          have m2 : m ≤ 4096 := by rw [← hm]; exact hone.2.2.2.2.1
          have hx2 : w6.cell? ⟨g, off + (p.length - 1) * 3 + 2, none⟩ = some (.int .i64 m) := by
            rw [Nat.add_assoc, cell_of_row _ _ _ _ _ _ hgc, ← hm]
            exact hcc _ _ (rns_get p (p.length - 1) hk).2.2
          have hz := frozen_of_row w6 g (off + (p.length - 1) * 3 + 2) cur _ hgc
          have S8 := S7.many (p.length - 1) hk (m + 1)
          have hqe : p.set (p.length - 1) (p[p.length - 1].1, p[p.length - 1].2.1, m + 1) = moreR p (lt + 1) r := by
            rw [hq.out, ← hset.out, lastD_get p hk]
            unfold bump
            rw [hm]
          have Hqo := hide (show ∀ x ∈ moreR p (lt + 1) r, okR x by
            rw [hq.out]
            intro x hx
            rcases List.mem_append.1 hx with hx | hx
            · exact Hok.out x ((List.dropLast_sublist p).subset hx)
            · rw [List.mem_singleton.1 hx, lastD_get p hk]
              obtain ⟨a1, a2, a3, a4, a5, a6⟩ := Hok.out _ (List.getElem_mem hk)
              unfold bump okR
              rw [hm]
              exact ⟨a1, a2, a3, a4, by simp only; omega, by simp only; omega⟩)
          rw [hqe] at S8
          have hql := hide (show (moreR p (lt + 1) r).length = p.length by rw [← hqe]; simp)
          have z0 : (0 : Int) ≤ (p.length : Int) - 1 := by omega
          have z1 : (p.length : Int) - 1 < p.length := by omega
          have z2 : ((p.length : Int) - 1).toNat = p.length - 1 := by omega
          have hB8 : w.heap.size ≤ g := Nat.le_trans hB6 hbg
          have hbw8 := hbw6.setCell (p := ⟨g, off + (p.length - 1) * 3 + 2, none⟩) hB8 (.int .i64 (m + 1))
          have S8 := hide (S8.weaken hB6)
          clear hqe hset hm hone hcc hgc S7 hk hmay hlt hown6
          go_wp2_with fail
          generalize w6.setCell ⟨g, off + (p.length - 1) * 3 + 2, none⟩ (.int .i64 (m + 1)) = w8 at S8 hbw8 ⊢
          have hs8 := SB.rr S8.out
          by_cases hmq : mayR (moreR p (lt + 1) r)
          · have hu3 := hide (hu2.out.trans (if_pos hmq))
            have hc := hide (show chkR (moreR p (lt + 1) r) = 0 from if_pos hmq)
            clear hmq hu2
            refine (pcheck_any _ p.length c7 (moreR p (lt + 1) r) w8 hs8 hql.out (by omega) Hqo.out).mono ?_
            rintro e w9 ⟨rfl, hb9⟩
            rw [hc.out]
            go_wp2_with fail
            exact bodyPost_ret (v := .tuple #[.slice (some ⟨g, off, none⟩) p.length c7, .int .i64 0]) (by simp [results, Try.results23, go_sem]) rfl ⟨(some ⟨g, off, none⟩), c7, g, by rw [hu3.out]; simp only [hql.out], by rw [hu3.out]; exact S8.out.below hb9, (fun h => by cases h), fresh hbw8 hb9⟩
          · have hu3 := hide (hu2.out.trans (if_neg hmq))
            have hc := hide (show chkR (moreR p (lt + 1) r) = 8 from if_neg hmq)
            clear hmq hu2
            refine (pcheck_any _ p.length c7 (moreR p (lt + 1) r) w8 hs8 hql.out (by omega) Hqo.out).mono ?_
            rintro e w9 ⟨rfl, hb9⟩
            rw [hc.out]
            go_wp2_with fail
            exact bodyPost_ret (v := .tuple #[.slice none 0 0, .int .i64 60]) (by simp [results, Try.results23, go_sem]) rfl ⟨none, 0, 0, by rw [hu3.out]; rfl, by rw [hu3.out]; exact ⟨Nat.le_refl _, fun h => absurd rfl h⟩, fun _ => rfl, fresh hbw8 hb9⟩
        · have hq := hide (show moreR p t r = p ++ [(t, r, 1)] from if_neg hgo)
          have hql := hide (show (moreR p t r).length = p.length + 1 by rw [hq.out]; simp)
          have Hqo := hide (show ∀ x ∈ moreR p t r, okR x by
            rw [hq.out]
            intro x hx
            rcases List.mem_append.1 hx with hx | hx
            · exact Hok.out x hx
            · rw [List.mem_singleton.1 hx]
              unfold okR
              exact ⟨t0, t1, r0, r1, by simp only; omega, by simp only; omega⟩)
          by_cases hp0 : p = []
          · have hpl : ¬ (0 : Int) < p.length := by rw [hp0]; simp
            clear h1 hlr hlt hgo hp0
            go_enter Try.func23, Try.ntmps23
            go_wp2_with fail
            obtain ⟨w1, hw1, k0, k1, hs1, hb1⟩ := one_box w (.int .u32 t) (.int .u8 r) 25
            simp only [hw1]
            clear hw1
            refine (unhide M1 w1 (RR.below' hr hb1)).mono ?_
            rintro e w2 ⟨rfl, hb2⟩
            rw [d1.out]
            replace k0 := keep_cell hb2 hs1 k0
            replace k1 := keep_cell hb2 hs1 k1
            replace hs1 := Nat.lt_of_lt_of_le hs1 hb2.size
            go_wp2_with fail
            refine (scheck_any t r w2).mono ?_
            rintro e w3 ⟨rfl, hb3⟩
            rw [d2.out]
            replace k0 := keep_cell hb3 hs1 k0
            replace k1 := keep_cell hb3 hs1 k1
            replace hs1 := Nat.lt_of_lt_of_le hs1 hb3.size
            have hbw3 := fresh (fresh hb1 hb2) hb3
            clear hb1 hb2 hb3
            go_wp2_with fail
            refine (unhide L0 w3 (RR.below' hr hbw3)).mono ?_
            rintro e w4 ⟨rfl, hb4⟩
            replace k0 := keep_cell hb4 hs1 k0
            replace k1 := keep_cell hb4 hs1 k1
            replace hs1 := Nat.lt_of_lt_of_le hs1 hb4.size
            have hbw4 := fresh hbw3 hb4
            clear hb4 hbw3
            go_wp2_with fail
            obtain ⟨w5, hw5, q0, q1, hs5, hb5⟩ := one_box w4 (.int .u32 lt) (.int .u8 lr) 25
            simp only [hw5]
            clear hw5
            replace k0 := keep_cell hb5 hs1 k0
            replace k1 := keep_cell hb5 hs1 k1
            replace hs1 := Nat.lt_of_lt_of_le hs1 hb5.size
            have hbw5 := fresh hbw4 hb5
            generalize w4.heap.size = g4 at q0 q1 hs5 ⊢
            clear hb5 hbw4
            refine (unhide T0 w5 (RR.below' hr hbw5)).mono ?_
            rintro e w6 ⟨v6, rfl, hown6, hb6⟩
            replace k0 := keep_cell hb6 hs1 k0
            replace k1 := keep_cell hb6 hs1 k1
            replace q0 := keep_cell hb6 hs5 q0
            replace q1 := keep_cell hb6 hs5 q1
            have hbw6 := fresh hbw5 hb6
            have hB6 : w.heap.size ≤ w5.heap.size := hbw5.size
            have h56 := hb6.size
            clear hb6
            obtain ⟨i0, hi0, hz0, hz1, hz2⟩ := info_parts rinfo
            have ha6 := (hbw6.trans ((boxed w6 (.cells #[.int .u32 t, .int .u8 r, .int .i64 1] 41)).mono hbw6.size))
            go_wp2_with (at_builtin; refine wpList_append_src _ rfl (.tmp 53) (.tmp 59) 22 rfl w5.heap.size 41 i0 (.agg #[.int .u32 0, .int .u8 0, .int .i64 0]) 3 16 Try.underlying22 hi0 hz0 hz1 hz2 rfl (by decide) _ p.length (rns p) rfl (hown6.alloc _) _ (some ⟨w6.heap.size, 0, none⟩) 1 1 (rns [(t, r, 1)]) rfl (run_row t r 1 w6) (rns_one _) (by omega) (by decide) (Nat.le_trans h56 (boxed w6 _).size) ?_; intro v8 w8 hown8 hb8)
            have hbw8 := ha6.trans (hb8.mono hB6)
            rw [← rns_append, ← hq.out] at hown8
            obtain ⟨A7, c7, rfl, hc7, -, hg7⟩ := own_slice hown8
            obtain ⟨g, S8, -⟩ := own_SB hown8 hql.out hc7
            have S8 := hide (S8.weaken hB6)
            have hs8 := SB.rr S8.out
            have hA7 : A7 = none → c7 = 0 := by
              intro h
              rcases hg7 with h7 | ⟨g7, h7, -⟩
              · omega
              · rw [h] at h7; cases h7
            clear hown6 hown8 ha6 hg7 hb8 k0 k1 q0 q1
            by_cases hmq : mayR (moreR p t r)
            · have hu3 := hide (hu2.out.trans (if_pos hmq))
              have hc := hide (show chkR (moreR p t r) = 0 from if_pos hmq)
              clear hmq hu2
              refine (pcheck_any _ (p.length + 1) c7 (moreR p t r) w8 hs8 hql.out (by omega) Hqo.out).mono ?_
              rintro e w9 ⟨rfl, hb9⟩
              rw [hc.out]
              go_wp2_with fail
              exact bodyPost_ret (v := .tuple #[.slice A7 (p.length + 1) c7, .int .i64 0]) (by simp [results, Try.results23, go_sem]) rfl ⟨A7, c7, g, by rw [hu3.out]; simp only [hql.out], by rw [hu3.out]; exact S8.out.below hb9, hA7, fresh hbw8 hb9⟩
            · have hu3 := hide (hu2.out.trans (if_neg hmq))
              have hc := hide (show chkR (moreR p t r) = 8 from if_neg hmq)
              clear hmq hu2
              refine (pcheck_any _ (p.length + 1) c7 (moreR p t r) w8 hs8 hql.out (by omega) Hqo.out).mono ?_
              rintro e w9 ⟨rfl, hb9⟩
              rw [hc.out]
              go_wp2_with fail
              exact bodyPost_ret (v := .tuple #[.slice none 0 0, .int .i64 60]) (by simp [results, Try.results23, go_sem]) rfl ⟨none, 0, 0, by rw [hu3.out]; rfl, by rw [hu3.out]; exact ⟨Nat.le_refl _, fun h => absurd rfl h⟩, fun _ => rfl, fresh hbw8 hb9⟩
          · have hpl : (0 : Int) < p.length := by have := List.length_pos_iff.2 hp0; omega
            by_cases hrr : r = lr
            · have htt : ¬ t = lt + 1 := fun e => hgo ⟨hp0, by rw [hlr]; exact hrr, by rw [hlt]; exact e⟩
              subst hrr
              clear h1 hlr hlt hgo hp0
              have hlr2 : lt + 1 < 4294967296 := by omega
              go_enter Try.func23, Try.ntmps23
              go_wp2_with fail
              obtain ⟨w1, hw1, k0, k1, hs1, hb1⟩ := one_box w (.int .u32 t) (.int .u8 r) 25
              simp only [hw1]
              clear hw1
              refine (unhide M1 w1 (RR.below' hr hb1)).mono ?_
              rintro e w2 ⟨rfl, hb2⟩
              rw [d1.out]
              replace k0 := keep_cell hb2 hs1 k0
              replace k1 := keep_cell hb2 hs1 k1
              replace hs1 := Nat.lt_of_lt_of_le hs1 hb2.size
              go_wp2_with fail
              refine (scheck_any t r w2).mono ?_
              rintro e w3 ⟨rfl, hb3⟩
              rw [d2.out]
              replace k0 := keep_cell hb3 hs1 k0
              replace k1 := keep_cell hb3 hs1 k1
              replace hs1 := Nat.lt_of_lt_of_le hs1 hb3.size
              have hbw3 := fresh (fresh hb1 hb2) hb3
              clear hb1 hb2 hb3
              go_wp2_with fail
              refine (unhide L0 w3 (RR.below' hr hbw3)).mono ?_
              rintro e w4 ⟨rfl, hb4⟩
              replace k0 := keep_cell hb4 hs1 k0
              replace k1 := keep_cell hb4 hs1 k1
              replace hs1 := Nat.lt_of_lt_of_le hs1 hb4.size
              have hbw4 := fresh hbw3 hb4
              clear hb4 hbw3
              go_wp2_with fail
              obtain ⟨w5, hw5, q0, q1, hs5, hb5⟩ := one_box w4 (.int .u32 lt) (.int .u8 r) 25
              simp only [hw5]
              clear hw5
              replace k0 := keep_cell hb5 hs1 k0
              replace k1 := keep_cell hb5 hs1 k1
              replace hs1 := Nat.lt_of_lt_of_le hs1 hb5.size
              have hbw5 := fresh hbw4 hb5
              generalize w4.heap.size = g4 at q0 q1 hs5 ⊢
              clear hb5 hbw4
              refine (unhide T0 w5 (RR.below' hr hbw5)).mono ?_
              rintro e w6 ⟨v6, rfl, hown6, hb6⟩
              replace k0 := keep_cell hb6 hs1 k0
              replace k1 := keep_cell hb6 hs1 k1
              replace q0 := keep_cell hb6 hs5 q0
              replace q1 := keep_cell hb6 hs5 q1
              have hbw6 := fresh hbw5 hb6
              have hB6 : w.heap.size ≤ w5.heap.size := hbw5.size
              have h56 := hb6.size
              clear hb6
              obtain ⟨i0, hi0, hz0, hz1, hz2⟩ := info_parts rinfo
              have ha6 := (hbw6.trans ((boxed w6 (.cells #[.int .u32 t, .int .u8 r, .int .i64 1] 41)).mono hbw6.size))
              go_wp2_with (at_builtin; refine wpList_append_src _ rfl (.tmp 53) (.tmp 59) 22 rfl w5.heap.size 41 i0 (.agg #[.int .u32 0, .int .u8 0, .int .i64 0]) 3 16 Try.underlying22 hi0 hz0 hz1 hz2 rfl (by decide) _ p.length (rns p) rfl (hown6.alloc _) _ (some ⟨w6.heap.size, 0, none⟩) 1 1 (rns [(t, r, 1)]) rfl (run_row t r 1 w6) (rns_one _) (by omega) (by decide) (Nat.le_trans h56 (boxed w6 _).size) ?_; intro v8 w8 hown8 hb8)
              have hbw8 := ha6.trans (hb8.mono hB6)
              rw [← rns_append, ← hq.out] at hown8
              obtain ⟨A7, c7, rfl, hc7, -, hg7⟩ := own_slice hown8
              obtain ⟨g, S8, -⟩ := own_SB hown8 hql.out hc7
              have S8 := hide (S8.weaken hB6)
              have hs8 := SB.rr S8.out
              have hA7 : A7 = none → c7 = 0 := by
                intro h
                rcases hg7 with h7 | ⟨g7, h7, -⟩
                · omega
                · rw [h] at h7; cases h7
              clear hown6 hown8 ha6 hg7 hb8 k0 k1 q0 q1
              by_cases hmq : mayR (moreR p t r)
              · have hu3 := hide (hu2.out.trans (if_pos hmq))
                have hc := hide (show chkR (moreR p t r) = 0 from if_pos hmq)
                clear hmq hu2
                refine (pcheck_any _ (p.length + 1) c7 (moreR p t r) w8 hs8 hql.out (by omega) Hqo.out).mono ?_
                rintro e w9 ⟨rfl, hb9⟩
                rw [hc.out]
                go_wp2_with fail
                exact bodyPost_ret (v := .tuple #[.slice A7 (p.length + 1) c7, .int .i64 0]) (by simp [results, Try.results23, go_sem]) rfl ⟨A7, c7, g, by rw [hu3.out]; simp only [hql.out], by rw [hu3.out]; exact S8.out.below hb9, hA7, fresh hbw8 hb9⟩
              · have hu3 := hide (hu2.out.trans (if_neg hmq))
                have hc := hide (show chkR (moreR p t r) = 8 from if_neg hmq)
                clear hmq hu2
                refine (pcheck_any _ (p.length + 1) c7 (moreR p t r) w8 hs8 hql.out (by omega) Hqo.out).mono ?_
                rintro e w9 ⟨rfl, hb9⟩
                rw [hc.out]
                go_wp2_with fail
                exact bodyPost_ret (v := .tuple #[.slice none 0 0, .int .i64 60]) (by simp [results, Try.results23, go_sem]) rfl ⟨none, 0, 0, by rw [hu3.out]; rfl, by rw [hu3.out]; exact ⟨Nat.le_refl _, fun h => absurd rfl h⟩, fun _ => rfl, fresh hbw8 hb9⟩
            · clear h1 hlr hlt hgo hp0
              have hlr2 : lt + 1 < 4294967296 := by omega
              go_enter Try.func23, Try.ntmps23
              go_wp2_with fail
              obtain ⟨w1, hw1, k0, k1, hs1, hb1⟩ := one_box w (.int .u32 t) (.int .u8 r) 25
              simp only [hw1]
              clear hw1
              refine (unhide M1 w1 (RR.below' hr hb1)).mono ?_
              rintro e w2 ⟨rfl, hb2⟩
              rw [d1.out]
              replace k0 := keep_cell hb2 hs1 k0
              replace k1 := keep_cell hb2 hs1 k1
              replace hs1 := Nat.lt_of_lt_of_le hs1 hb2.size
              go_wp2_with fail
              refine (scheck_any t r w2).mono ?_
              rintro e w3 ⟨rfl, hb3⟩
              rw [d2.out]
              replace k0 := keep_cell hb3 hs1 k0
              replace k1 := keep_cell hb3 hs1 k1
              replace hs1 := Nat.lt_of_lt_of_le hs1 hb3.size
              have hbw3 := fresh (fresh hb1 hb2) hb3
              clear hb1 hb2 hb3
              go_wp2_with fail
              refine (unhide L0 w3 (RR.below' hr hbw3)).mono ?_
              rintro e w4 ⟨rfl, hb4⟩
              replace k0 := keep_cell hb4 hs1 k0
              replace k1 := keep_cell hb4 hs1 k1
              replace hs1 := Nat.lt_of_lt_of_le hs1 hb4.size
              have hbw4 := fresh hbw3 hb4
              clear hb4 hbw3
              go_wp2_with fail
              obtain ⟨w5, hw5, q0, q1, hs5, hb5⟩ := one_box w4 (.int .u32 lt) (.int .u8 lr) 25
              simp only [hw5]
              clear hw5
              replace k0 := keep_cell hb5 hs1 k0
              replace k1 := keep_cell hb5 hs1 k1
              replace hs1 := Nat.lt_of_lt_of_le hs1 hb5.size
              have hbw5 := fresh hbw4 hb5
              generalize w4.heap.size = g4 at q0 q1 hs5 ⊢
              clear hb5 hbw4
              refine (unhide T0 w5 (RR.below' hr hbw5)).mono ?_
              rintro e w6 ⟨v6, rfl, hown6, hb6⟩
              replace k0 := keep_cell hb6 hs1 k0
              replace k1 := keep_cell hb6 hs1 k1
              replace q0 := keep_cell hb6 hs5 q0
              replace q1 := keep_cell hb6 hs5 q1
              have hbw6 := fresh hbw5 hb6
              have hB6 : w.heap.size ≤ w5.heap.size := hbw5.size
              have h56 := hb6.size
              clear hb6
              obtain ⟨i0, hi0, hz0, hz1, hz2⟩ := info_parts rinfo
              have ha6 := (hbw6.trans ((boxed w6 (.cells #[.int .u32 t, .int .u8 r, .int .i64 1] 41)).mono hbw6.size))
              go_wp2_with (at_builtin; refine wpList_append_src _ rfl (.tmp 53) (.tmp 59) 22 rfl w5.heap.size 41 i0 (.agg #[.int .u32 0, .int .u8 0, .int .i64 0]) 3 16 Try.underlying22 hi0 hz0 hz1 hz2 rfl (by decide) _ p.length (rns p) rfl (hown6.alloc _) _ (some ⟨w6.heap.size, 0, none⟩) 1 1 (rns [(t, r, 1)]) rfl (run_row t r 1 w6) (rns_one _) (by omega) (by decide) (Nat.le_trans h56 (boxed w6 _).size) ?_; intro v8 w8 hown8 hb8)
              have hbw8 := ha6.trans (hb8.mono hB6)
              rw [← rns_append, ← hq.out] at hown8
              obtain ⟨A7, c7, rfl, hc7, -, hg7⟩ := own_slice hown8
              obtain ⟨g, S8, -⟩ := own_SB hown8 hql.out hc7
              have S8 := hide (S8.weaken hB6)
              have hs8 := SB.rr S8.out
              have hA7 : A7 = none → c7 = 0 := by
                intro h
                rcases hg7 with h7 | ⟨g7, h7, -⟩
                · omega
                · rw [h] at h7; cases h7
              clear hown6 hown8 ha6 hg7 hb8 k0 k1 q0 q1
              by_cases hmq : mayR (moreR p t r)
              · have hu3 := hide (hu2.out.trans (if_pos hmq))
                have hc := hide (show chkR (moreR p t r) = 0 from if_pos hmq)
                clear hmq hu2
                refine (pcheck_any _ (p.length + 1) c7 (moreR p t r) w8 hs8 hql.out (by omega) Hqo.out).mono ?_
                rintro e w9 ⟨rfl, hb9⟩
                rw [hc.out]
                go_wp2_with fail
                exact bodyPost_ret (v := .tuple #[.slice A7 (p.length + 1) c7, .int .i64 0]) (by simp [results, Try.results23, go_sem]) rfl ⟨A7, c7, g, by rw [hu3.out]; simp only [hql.out], by rw [hu3.out]; exact S8.out.below hb9, hA7, fresh hbw8 hb9⟩
              · have hu3 := hide (hu2.out.trans (if_neg hmq))
                have hc := hide (show chkR (moreR p t r) = 8 from if_neg hmq)
                clear hmq hu2
                refine (pcheck_any _ (p.length + 1) c7 (moreR p t r) w8 hs8 hql.out (by omega) Hqo.out).mono ?_
                rintro e w9 ⟨rfl, hb9⟩
                rw [hc.out]
                go_wp2_with fail
                exact bodyPost_ret (v := .tuple #[.slice none 0 0, .int .i64 60]) (by simp [results, Try.results23, go_sem]) rfl ⟨none, 0, 0, by rw [hu3.out]; rfl, by rw [hu3.out]; exact ⟨Nat.le_refl _, fun h => absurd rfl h⟩, fun _ => rfl, fresh hbw8 hb9⟩
    · have d2 := hide (show chkI t r = 8 from if_neg h2)
      have hu := hide (show underR p t r = ([], 8) from if_pos (fun h => h2 h.2))
      clear h1 h2
      go_enter Try.func23, Try.ntmps23
      go_wp2_with fail
      obtain ⟨w1, hw1, k0, k1, hs1, hb1⟩ := one_box w (.int .u32 t) (.int .u8 r) 25
      simp only [hw1]
      clear hw1
      refine (unhide M1 w1 (RR.below' hr hb1)).mono ?_
      rintro e w2 ⟨rfl, hb2⟩
      rw [d1.out]
      replace k0 := keep_cell hb2 hs1 k0
      replace k1 := keep_cell hb2 hs1 k1
      replace hs1 := Nat.lt_of_lt_of_le hs1 hb2.size
      go_wp2_with fail
      refine (scheck_any t r w2).mono ?_
      rintro e w3 ⟨rfl, hb3⟩
      rw [d2.out]
      go_wp2_with fail
      exact bodyPost_ret (v := .tuple #[.slice none 0 0, .int .i64 8]) (by simp [results, Try.results23, go_sem]) rfl ⟨none, 0, 0, by rw [hu.out]; rfl, by rw [hu.out]; exact ⟨Nat.le_refl _, fun h => absurd rfl h⟩, fun _ => rfl, fresh (fresh hb1 hb2) hb3⟩
  · have d1 := hide (decide_eq_false h1)
    have hu := hide (show underR p t r = ([], 8) from if_pos (fun h => h1 h.1))
    clear h1
    go_enter Try.func23, Try.ntmps23
    go_wp2_with fail
    obtain ⟨w1, hw1, k0, k1, hs1, hb1⟩ := one_box w (.int .u32 t) (.int .u8 r) 25
    simp only [hw1]
    clear hw1
    refine (unhide M1 w1 (RR.below' hr hb1)).mono ?_
    rintro e w2 ⟨rfl, hb2⟩
    rw [d1.out]
    go_wp2_with fail
    exact bodyPost_ret (v := .tuple #[.slice none 0 0, .int .i64 8]) (by simp [results, Try.results23, go_sem]) rfl ⟨none, 0, 0, by rw [hu.out]; rfl, by rw [hu.out]; exact ⟨Nat.le_refl _, fun h => absurd rfl h⟩, fun _ => rfl, fresh hb1 hb2⟩
end Go.Proofs.Ytbjfmkdjnglgbaa
