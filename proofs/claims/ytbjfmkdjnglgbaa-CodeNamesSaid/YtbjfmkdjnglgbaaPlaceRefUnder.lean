/-
  octavoref06: More, Last, Under. Condition: parts of their types.
-/
import Derived.Test.YtbjfmkdjnglgbaaPlaceRefIds
import Derived.Test.YtbjfmkdjnglgbaaPlaceChild
import Derived.Test.YtbjfmkdjnglgbaaPlaceCut
namespace Go.Proofs.Ytbjfmkdjnglgbaa
open Go.RowKit

theorem long_nn {p : List Rn} (h : chainR p) : 0 ≤ long p := by
  rw [← allR_long (fun x hx => by have := (chainR_mem h x hx).2.2.2.1; omega)]
  omega
theorem getLastD_snoc (q : List Rn) (x : Rn) : (q ++ [x]).getLastD (0, 0, 0) = x := by simp
theorem more_may {p : List Rn} {t r : Int} (hp : anyR p) (hi : mayI t r) (hl : (lastR p).1 < t) : mayR (moreR p t r) ↔ (moreR p t r).length ≤ 64 ∧ long (moreR p t r) ≤ 4096 := by
  refine ⟨fun h => ⟨h.2.1, h.2.2.2⟩, fun ⟨h1, h2⟩ => ?_⟩
  have hne : 1 ≤ (moreR p t r).length := by unfold moreR; split <;> simp
  refine ⟨hne, h1, ?_, h2⟩
  rcases hp with rfl | hp
  · have : moreR [] t r = [(t, r, 1)] := if_neg (fun h => h.1 rfl)
    rw [this, chainR_one]
    exact ⟨hi.1, hi.2.1, hi.2.2, by simp, by simp, by have := hi.2.1; simp only; omega⟩
  · have hpn : p ≠ [] := by intro e; rw [e] at hp; exact absurd hp.1 (by decide)
    obtain ⟨q, x, rfl⟩ : ∃ q x, p = q ++ [x] := ⟨_, _, (List.dropLast_concat_getLast hpn).symm⟩
    have hlast : lastR (q ++ [x]) = (rend x, x.2.1) := by
      unfold lastR
      rw [if_pos hp, getLastD_snoc]
    rw [hlast] at hl
    simp only [rend] at hl
    have hx := chainR_mem hp.2.2.1 x (by simp)
    by_cases hg : goesOn (q ++ [x]) t r
    · have hm : moreR (q ++ [x]) t r = q ++ [bump x] := by unfold moreR; rw [if_pos hg, getLastD_snoc, List.dropLast_concat]
      obtain ⟨-, -, g2⟩ := hg
      rw [hlast] at g2
      simp only [rend] at g2
      rw [hm] at h2 ⊢
      rw [long_snoc] at h2
      have hq0 := long_nn (chainR_append hp.2.2.1).1
      have hone : oneR (bump x) := by
        obtain ⟨a1, a2, a3, a4, a5, a6⟩ := hx
        refine ⟨a1, a2, a3, ?_, ?_, ?_⟩
        · simp only [bump]; omega
        · simp only [bump] at h2 ⊢; omega
        · have := hi.2.1; simp only [bump]; omega
      by_cases hq : q = []
      · subst hq; exact (chainR_one _).2 hone
      · have := (chainR_snoc hq x).1 hp.2.2.1
        exact (chainR_snoc hq _).2 ⟨this.1, hone, this.2.2⟩
    · have hm : moreR (q ++ [x]) t r = (q ++ [x]) ++ [(t, r, 1)] := by unfold moreR; rw [if_neg hg]
      rw [hm]
      refine (chainR_snoc (by simp) _).2 ⟨hp.2.2.1, ⟨hi.1, hi.2.1, hi.2.2, by simp, by simp, by have := hi.2.1; simp only; omega⟩, ?_⟩
      rw [show (q ++ [x]).getLast (by simp) = x by simp]
      refine ⟨hl, fun h => hg ⟨by simp, ?_, ?_⟩⟩
      · rw [hlast]; exact h.1
      · rw [hlast]; exact h.2
theorem more_parts {p : List Rn} {t r : Int} (hp : anyR p) : ∀ x ∈ moreR p t r, 0 ≤ x.2.2 ∧ x.2.2 ≤ 4097 := by
  intro x hx
  have hone := any_one hp
  unfold moreR at hx
  split at hx
  · rename_i hg
    rcases List.mem_append.1 hx with hx | hx
    · have := hone x ((List.dropLast_sublist p).subset hx); exact ⟨by have := this.2.2.2.1; omega, by have := this.2.2.2.2.1; omega⟩
    · rw [List.mem_singleton.1 hx]
      obtain ⟨q, y, rfl⟩ : ∃ q y, p = q ++ [y] := ⟨_, _, (List.dropLast_concat_getLast hg.1).symm⟩
      rw [getLastD_snoc]
      have := hone y (by simp)
      simp only [bump]
      exact ⟨by have := this.2.2.2.1; omega, by have := this.2.2.2.2.1; omega⟩
  · rcases List.mem_append.1 hx with hx | hx
    · have := hone x hx; exact ⟨by have := this.2.2.2.1; omega, by have := this.2.2.2.2.1; omega⟩
    · rw [List.mem_singleton.1 hx]; exact ⟨by simp, by simp⟩

set_option maxHeartbeats 3200000 in
set_option maxRecDepth 100000 in
theorem refmore_ok (A : Option Addr) (n c : Nat) (p : List Rn) (t r : Int) (w : World) (hr : RR w w.heap.size A p) (hn : p.length = n) (hp : anyR p) (hi : mayI t r) (hlt : (lastR p).1 < t) :
    Calls Try.prog 85 #[.slice A n c, .agg #[.int .u32 t, .int .u8 r]] w fun e w' => ∃ A' c' g, e = .returned (.slice A' (moreR p t r).length c') ∧ SB w' g w.heap.size A' (moreR p t r) c' ∧ Below w.heap.size w w' := by
  obtain ⟨i1, i2, i3⟩ := hi
  have hl64 : n ≤ 64 := by
    rcases hp with rfl | hp
    · simp at hn; omega
    · have := hp.2.1; omega
  have T0 := hide (fun w h => reftwin_any A n c p w h hn (by omega))
  subst hn
  by_cases hpe : p = []
  · have hq := hide (show moreR p t r = p ++ [(t, r, 1)] from if_neg fun h => h.1 hpe)
    have hql := hide (show (moreR p t r).length = p.length + 1 by rw [hq.out]; simp)
    have hpl : ¬ (0 : Int) < p.length := by rw [hpe]; simp
    have hpd : decide (0 < p.length) = false := by rw [hpe]; simp
    obtain ⟨i0, hi0, hz0, hz1, hz2⟩ := info_parts rinfo
    clear hpe hp hlt
    go_enter Try.func85, Try.ntmps85
    go_wp2_with fail
    obtain ⟨w1, hw1, k0, k1, hs1, hb1⟩ := one_box w (.int .u32 t) (.int .u8 r) 25
    try rw [hw1]
    try clear hw1
    refine (unhide T0 w1 (RR.below' hr hb1)).mono ?_
    rintro e w2 ⟨v2, rfl, hown2, hb2⟩
    replace k0 := keep_cell hb2 hs1 k0
    replace k1 := keep_cell hb2 hs1 k1
    have hs2 := Nat.lt_of_lt_of_le hs1 hb2.size
    have hbw2 := fresh hb1 hb2
    have hB1 := hb1.size
    obtain ⟨A2, c2, rfl, hc2, -, -⟩ := own_slice hown2
    go_wp2_with fail
    refine wp_region_wq (by kernel_rfl) (by kernel_rfl) ?_
    repeat (
      refine WQ.step (fun K hK => ?_)
      go_simp
      first
        | (refine hK _ ?_; clear hK K)
        | (apply Exists.intro
           refine ⟨fun _ => ?_, hK _ ?_⟩
           fail
           clear hK K))
    refine WQ.nil ?_
    intro u
    have hb3 := below_past w2 u
    replace k0 := keep_cell hb3 hs2 k0
    replace k1 := keep_cell hb3 hs2 k1
    have hbx := boxed (past w2 u) (.cells #[.int .u32 t, .int .u8 r, .int .i64 1] 41)
    go_wp2_with (at_builtin; refine wpList_append_src _ rfl (.tmp 47) (.tmp 53) 22 rfl w1.heap.size 41 i0 (.agg #[.int .u32 0, .int .u8 0, .int .i64 0]) 3 16 Try.underlying22 hi0 hz0 hz1 hz2 rfl (by decide) _ p.length (rns p) rfl ((own_below hown2 hb3 (Nat.le_refl _)).alloc _) _ (some ⟨(past w2 u).heap.size, 0, none⟩) 1 1 (rns [(t, r, 1)]) rfl (run_row t r 1 (past w2 u)) (rns_one _) (by omega) (by decide) (Nat.le_trans (Nat.le_trans hb2.size hb3.size) (boxed (past w2 u) _).size) ?_; intro v8 w8 hown8 hb8)
    have hbw8 := (fresh (fresh hbw2 hb3) hbx).trans (hb8.mono hB1)
    rw [← rns_append, ← hq.out] at hown8
    obtain ⟨A7, c7, rfl, hc7, -, -⟩ := own_slice hown8
    obtain ⟨g, S8, -⟩ := own_SB hown8 hql.out hc7
    have S8 := S8.weaken hB1
    go_ret
    exact ⟨A7, c7, g, by rw [hql.out]; rfl, S8, hbw8⟩
  have hmp : mayR p := hp.resolve_left hpe
  have hlen : 0 < p.length := hmp.1
  have hk : p.length - 1 < p.length := by omega
  have hone := chainR_mem hmp.2.2.1 _ (List.getElem_mem hk)
  have hld := lastD_get p hk
  obtain ⟨a, ha⟩ : ∃ x, x = p[p.length - 1].1 := ⟨_, rfl⟩
  obtain ⟨b, hb⟩ : ∃ x, x = p[p.length - 1].2.1 := ⟨_, rfl⟩
  obtain ⟨d, hd⟩ : ∃ x, x = p[p.length - 1].2.2 := ⟨_, rfl⟩
  have hel : p[p.length - 1] = (a, b, d) := by rw [ha, hb, hd]
  rw [hel] at hone hld
  obtain ⟨a1, a2, a3, a4, a5, a6⟩ := hone
  simp only at a1 a2 a3 a4 a5 a6
  have hlast : lastR p = (a + d - 1, b) := by
    unfold lastR
    rw [if_pos hmp, hld]
    rfl
  rw [hlast] at hlt
  simp only at hlt
  have hgo : goesOn p t r ↔ (b = r ∧ a + d = t) := by
    unfold goesOn
    rw [hlast]
    simp only
    exact ⟨fun h => ⟨h.2.1.symm, by have := h.2.2; omega⟩, fun h => ⟨hpe, h.1.symm, by have := h.2; omega⟩⟩
  have hset := set_last p hpe
  have E := hide (fun w => end_ok a b d w (by omega) a2 a4 a5)
  have hways : ((b == r) = false ∧ ¬ goesOn p t r) ∨ (((b == r) = true ∧ (a + d == t) = false) ∧ ¬ goesOn p t r) ∨ (((b == r) = true ∧ (a + d == t) = true) ∧ goesOn p t r) := by
    rw [hgo]
    simp only [beq_iff_eq, beq_eq_false_iff_ne, ne_eq]
    omega
  have hpos : (0 : Int) < p.length := by omega
  have z0 : (0 : Int) ≤ (p.length : Int) - 1 := by omega
  have z1 : (p.length : Int) - 1 < p.length := by omega
  have z2 : ((p.length : Int) - 1).toNat = p.length - 1 := by omega
  have z3 : (1 : Int) ≤ p.length := by omega
  have zw : IntKind.i64.wrap ((p.length : Int) - 1) = (p.length : Int) - 1 := IntWalk.i64_in _ (by omega)
  have zw2 : IntKind.i64.wrap (a + d - 1 + 1) = a + d - 1 + 1 := IntWalk.i64_in _ (by omega)
  have zw4 : IntKind.i64.wrap t = t := IntWalk.i64_in _ (by omega)
  have zw3 : IntKind.i64.wrap (a + d) = a + d := IntWalk.i64_in _ (by omega)
  have Hp := hide hpe
  have Hel := hide hel
  have Hld := hide hld
  have Hset := hide hset
  have Hd := hide hd
  clear hgo hlast hmp hp hpe ha hb hd hel hld hset
  rcases hways with ⟨s1, hng⟩ | ⟨⟨s1, s2⟩, hng⟩ | ⟨⟨s1, s2⟩, hg⟩
  · have hq := hide (show moreR p t r = p ++ [(t, r, 1)] from if_neg hng)
    have hql := hide (show (moreR p t r).length = p.length + 1 by rw [hq.out]; simp)
    obtain ⟨i0, hi0, hz0, hz1, hz2⟩ := info_parts rinfo
    clear hng
    go_enter Try.func85, Try.ntmps85
    go_wp2_with fail
    obtain ⟨w1, hw1, k0, k1, hs1, hb1⟩ := one_box w (.int .u32 t) (.int .u8 r) 25
    try rw [hw1]
    try clear hw1
    refine (unhide T0 w1 (RR.below' hr hb1)).mono ?_
    rintro e w2 ⟨v2, rfl, hown2, hb2⟩
    replace k0 := keep_cell hb2 hs1 k0
    replace k1 := keep_cell hb2 hs1 k1
    have hs2 := Nat.lt_of_lt_of_le hs1 hb2.size
    have hbw2 := fresh hb1 hb2
    have hB1 := hb1.size
    obtain ⟨A2, c2, rfl, hc2, -, -⟩ := own_slice hown2
    obtain ⟨g2, S2, -⟩ := own_SB hown2 rfl hc2
    obtain ⟨hbg, off, cur, rfl, hgc, hcc⟩ := S2.2 Hp.out
    have hgl : g2 < w2.heap.size := (Array.getElem?_eq_some_iff.1 hgc).1
    have x0 : w2.cell? ⟨g2, off + (p.length - 1) * 3, none⟩ = some (.int .u32 a) := by
      rw [cell_of_row _ _ _ _ _ _ hgc, hcc _ _ (rns_get p (p.length - 1) hk).1, Hel.out]
    have x1 : w2.cell? ⟨g2, off + (p.length - 1) * 3 + 1, none⟩ = some (.int .u8 b) := by
      rw [Nat.add_assoc, cell_of_row _ _ _ _ _ _ hgc, hcc _ _ (rns_get p (p.length - 1) hk).2.1, Hel.out]
    have x2 : w2.cell? ⟨g2, off + (p.length - 1) * 3 + 2, none⟩ = some (.int .i64 d) := by
      rw [Nat.add_assoc, cell_of_row _ _ _ _ _ _ hgc, hcc _ _ (rns_get p (p.length - 1) hk).2.2, Hel.out]
    go_wp2_with fail
    refine wp_region_wq (by kernel_rfl) (by kernel_rfl) ?_
    repeat (
      refine WQ.step (fun K hK => ?_)
      go_simp
      first
        | (refine hK _ ?_; clear hK K)
        | (apply Exists.intro
           refine ⟨fun _ => ?_, hK _ ?_⟩
           (go_at_call 119; with_reducible exact past_call (unhide E _))
           clear hK K))
    refine WQ.nil ?_
    intro u
    have hb3 := below_past w2 u
    replace k0 := keep_cell hb3 hs2 k0
    replace k1 := keep_cell hb3 hs2 k1
    clear x0 x1 x2
    have hbx := boxed (past w2 u) (.cells #[.int .u32 t, .int .u8 r, .int .i64 1] 41)
    go_wp2_with (at_builtin; refine wpList_append_src _ rfl (.tmp 47) (.tmp 53) 22 rfl w1.heap.size 41 i0 (.agg #[.int .u32 0, .int .u8 0, .int .i64 0]) 3 16 Try.underlying22 hi0 hz0 hz1 hz2 rfl (by decide) _ p.length (rns p) rfl ((own_below hown2 hb3 (Nat.le_refl _)).alloc _) _ (some ⟨(past w2 u).heap.size, 0, none⟩) 1 1 (rns [(t, r, 1)]) rfl (run_row t r 1 (past w2 u)) (rns_one _) (by omega) (by decide) (Nat.le_trans (Nat.le_trans hb2.size hb3.size) (boxed (past w2 u) _).size) ?_; intro v8 w8 hown8 hb8)
    have hbw8 := (fresh (fresh hbw2 hb3) hbx).trans (hb8.mono hB1)
    rw [← rns_append, ← hq.out] at hown8
    obtain ⟨A7, c7, rfl, hc7, -, -⟩ := own_slice hown8
    obtain ⟨g, S8, -⟩ := own_SB hown8 hql.out hc7
    have S8 := S8.weaken hB1
    go_ret
    exact ⟨A7, c7, g, by rw [hql.out]; rfl, S8, hbw8⟩
  · have hq := hide (show moreR p t r = p ++ [(t, r, 1)] from if_neg hng)
    have hql := hide (show (moreR p t r).length = p.length + 1 by rw [hq.out]; simp)
    obtain ⟨i0, hi0, hz0, hz1, hz2⟩ := info_parts rinfo
    clear hng
    go_enter Try.func85, Try.ntmps85
    go_wp2_with fail
    obtain ⟨w1, hw1, k0, k1, hs1, hb1⟩ := one_box w (.int .u32 t) (.int .u8 r) 25
    try rw [hw1]
    try clear hw1
    refine (unhide T0 w1 (RR.below' hr hb1)).mono ?_
    rintro e w2 ⟨v2, rfl, hown2, hb2⟩
    replace k0 := keep_cell hb2 hs1 k0
    replace k1 := keep_cell hb2 hs1 k1
    have hs2 := Nat.lt_of_lt_of_le hs1 hb2.size
    have hbw2 := fresh hb1 hb2
    have hB1 := hb1.size
    obtain ⟨A2, c2, rfl, hc2, -, -⟩ := own_slice hown2
    obtain ⟨g2, S2, -⟩ := own_SB hown2 rfl hc2
    obtain ⟨hbg, off, cur, rfl, hgc, hcc⟩ := S2.2 Hp.out
    have hgl : g2 < w2.heap.size := (Array.getElem?_eq_some_iff.1 hgc).1
    have x0 : w2.cell? ⟨g2, off + (p.length - 1) * 3, none⟩ = some (.int .u32 a) := by
      rw [cell_of_row _ _ _ _ _ _ hgc, hcc _ _ (rns_get p (p.length - 1) hk).1, Hel.out]
    have x1 : w2.cell? ⟨g2, off + (p.length - 1) * 3 + 1, none⟩ = some (.int .u8 b) := by
      rw [Nat.add_assoc, cell_of_row _ _ _ _ _ _ hgc, hcc _ _ (rns_get p (p.length - 1) hk).2.1, Hel.out]
    have x2 : w2.cell? ⟨g2, off + (p.length - 1) * 3 + 2, none⟩ = some (.int .i64 d) := by
      rw [Nat.add_assoc, cell_of_row _ _ _ _ _ _ hgc, hcc _ _ (rns_get p (p.length - 1) hk).2.2, Hel.out]
    go_wp2_with fail
    refine wp_region_wq (by kernel_rfl) (by kernel_rfl) ?_
    repeat (
      refine WQ.step (fun K hK => ?_)
      go_simp
      first
        | (refine hK _ ?_; clear hK K)
        | (apply Exists.intro
           refine ⟨fun _ => ?_, hK _ ?_⟩
           (go_at_call 119; with_reducible exact past_call (unhide E _))
           clear hK K))
    refine WQ.nil ?_
    intro u
    have hb3 := below_past w2 u
    replace k0 := keep_cell hb3 hs2 k0
    replace k1 := keep_cell hb3 hs2 k1
    clear x0 x1 x2
    have hbx := boxed (past w2 u) (.cells #[.int .u32 t, .int .u8 r, .int .i64 1] 41)
    go_wp2_with (at_builtin; refine wpList_append_src _ rfl (.tmp 47) (.tmp 53) 22 rfl w1.heap.size 41 i0 (.agg #[.int .u32 0, .int .u8 0, .int .i64 0]) 3 16 Try.underlying22 hi0 hz0 hz1 hz2 rfl (by decide) _ p.length (rns p) rfl ((own_below hown2 hb3 (Nat.le_refl _)).alloc _) _ (some ⟨(past w2 u).heap.size, 0, none⟩) 1 1 (rns [(t, r, 1)]) rfl (run_row t r 1 (past w2 u)) (rns_one _) (by omega) (by decide) (Nat.le_trans (Nat.le_trans hb2.size hb3.size) (boxed (past w2 u) _).size) ?_; intro v8 w8 hown8 hb8)
    have hbw8 := (fresh (fresh hbw2 hb3) hbx).trans (hb8.mono hB1)
    rw [← rns_append, ← hq.out] at hown8
    obtain ⟨A7, c7, rfl, hc7, -, -⟩ := own_slice hown8
    obtain ⟨g, S8, -⟩ := own_SB hown8 hql.out hc7
    have S8 := S8.weaken hB1
    go_ret
    exact ⟨A7, c7, g, by rw [hql.out]; rfl, S8, hbw8⟩
  · have hq := hide (show moreR p t r = p.dropLast ++ [bump (p.getLastD (0, 0, 0))] from if_pos hg)
    have hqe := hide (show p.set (p.length - 1) (p[p.length - 1].1, p[p.length - 1].2.1, d + 1) = moreR p t r by
      rw [hq.out, ← Hset.out, Hld.out, Hel.out]
      rfl)
    have hql := hide (show (moreR p t r).length = p.length by rw [← hqe.out]; simp)
    clear hg
    go_enter Try.func85, Try.ntmps85
    go_wp2_with fail
    obtain ⟨w1, hw1, k0, k1, hs1, hb1⟩ := one_box w (.int .u32 t) (.int .u8 r) 25
    try rw [hw1]
    try clear hw1
    refine (unhide T0 w1 (RR.below' hr hb1)).mono ?_
    rintro e w2 ⟨v2, rfl, hown2, hb2⟩
    replace k0 := keep_cell hb2 hs1 k0
    replace k1 := keep_cell hb2 hs1 k1
    have hs2 := Nat.lt_of_lt_of_le hs1 hb2.size
    have hbw2 := fresh hb1 hb2
    have hB1 := hb1.size
    obtain ⟨A2, c2, rfl, hc2, -, -⟩ := own_slice hown2
    obtain ⟨g2, S2, -⟩ := own_SB hown2 rfl hc2
    obtain ⟨hbg, off, cur, rfl, hgc, hcc⟩ := S2.2 Hp.out
    have hgl : g2 < w2.heap.size := (Array.getElem?_eq_some_iff.1 hgc).1
    have x0 : w2.cell? ⟨g2, off + (p.length - 1) * 3, none⟩ = some (.int .u32 a) := by
      rw [cell_of_row _ _ _ _ _ _ hgc, hcc _ _ (rns_get p (p.length - 1) hk).1, Hel.out]
    have x1 : w2.cell? ⟨g2, off + (p.length - 1) * 3 + 1, none⟩ = some (.int .u8 b) := by
      rw [Nat.add_assoc, cell_of_row _ _ _ _ _ _ hgc, hcc _ _ (rns_get p (p.length - 1) hk).2.1, Hel.out]
    have x2 : w2.cell? ⟨g2, off + (p.length - 1) * 3 + 2, none⟩ = some (.int .i64 d) := by
      rw [Nat.add_assoc, cell_of_row _ _ _ _ _ _ hgc, hcc _ _ (rns_get p (p.length - 1) hk).2.2, Hel.out]
    go_wp2_with fail
    refine wp_region_wq (by kernel_rfl) (by kernel_rfl) ?_
    repeat (
      refine WQ.step (fun K hK => ?_)
      go_simp
      first
        | (refine hK _ ?_; clear hK K)
        | (apply Exists.intro
           refine ⟨fun _ => ?_, hK _ ?_⟩
           (go_at_call 119; with_reducible exact past_call (unhide E _))
           clear hK K))
    refine WQ.nil ?_
    intro u
    have hb3 := below_past w2 u
    have S3 := S2.below hb3
    have hgc3 := (hb3.block g2 hgl).trans hgc
    have y2 := keep_cell hb3 hgl x2
    have hz := frozen_of_row (past w2 u) g2 (off + (p.length - 1) * 3 + 2) cur _ hgc3
    have S8 := S3.many (p.length - 1) hk (d + 1)
    rw [hqe.out] at S8
    have S8 := hide (S8.weaken hB1)
    have hB8 : w.heap.size ≤ g2 := Nat.le_trans hB1 hbg
    have hbw8 := (fresh hbw2 hb3).setCell (p := ⟨g2, off + (p.length - 1) * 3 + 2, none⟩) hB8 (.int .i64 (d + 1))
    clear x0 x1 x2 hcc S2 S3 hgc hgc3 hown2
    go_wp2_with fail
    go_ret
    exact ⟨some ⟨g2, off, none⟩, c2, g2, by rw [hql.out]; rfl, S8.out, hbw8⟩
end Go.Proofs.Ytbjfmkdjnglgbaa
