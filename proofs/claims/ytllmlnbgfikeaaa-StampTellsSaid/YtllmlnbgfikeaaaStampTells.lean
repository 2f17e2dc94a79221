/-
  StampTells: true for every two stamps, replica and stamps. No condition.
-/
import Derived.Test.YtllmlnbgfikeaaaStampRef

namespace Go.Proofs.Ytllmlnbgfikeaaa
open Go.RowKit

theorem ids_one' (l : List (Int × Int)) : ∀ u ∈ ids l, u.oneCell' = true := by
  intro u hu
  simp only [ids, List.mem_flatMap] at hu
  obtain ⟨a, _, h⟩ := hu
  simp at h
  rcases h with rfl | rfl <;> rfl
theorem keep_two {w w' : World} {g : Nat} {a b : Value} (hb : Below w.heap.size w w') (h : g < w.heap.size ∧ w.cell? ⟨g, 0, none⟩ = some a ∧ w.cell? ⟨g, 1, none⟩ = some b) : g < w'.heap.size ∧ w'.cell? ⟨g, 0, none⟩ = some a ∧ w'.cell? ⟨g, 1, none⟩ = some b :=
  ⟨Nat.lt_of_lt_of_le h.1 hb.size, keep_cell hb h.1 h.2.1, keep_cell hb h.1 h.2.2⟩

set_option maxHeartbeats 1600000 in
set_option maxRecDepth 100000 in
theorem stampTells_walk (t r t' r' x : Int) (A : Option Addr) (c : Nat) (l : List (Int × Int)) (w : World) (h : okI (t, r)) (h' : okI (t', r')) (_wx : (Lit.int .u8 x).wf = true) (hr : RI w w.heap.size A l) (hok : ∀ a ∈ l, okI a) :
    Calls Try.prog 5 #[.agg #[.int .u32 t, .int .u8 r], .agg #[.int .u32 t', .int .u8 r'], .int .u8 x, .slice A l.length c] w fun e w' => e = .returned (.bool true) ∧ Below w.heap.size w w' := by
  clear _wx
  obtain ⟨w2, hw2, k0, k1, k2, k3, hs2, hb2⟩ := two_boxes w (.int .u32 t) (.int .u8 r) (.int .u32 t') (.int .u8 r') 31 31
  have hown0 : (w2.alloc (.cells #[] 31)).ownsRow w2.heap.size 31 2 (.slice (some ⟨w.heap.size + 1 + 1, 0, none⟩) 0 0) 0 [] := by
    have hsz : w2.heap.size = w.heap.size + 1 + 1 := by rw [← hw2]; simp
    have := own_empty w2 31 2 w2.heap.size (Nat.le_refl _)
    rwa [hsz] at this ⊢
  have Hw2 := hide hw2
  clear hw2
  by_cases h1 : (2000 : Int) < (l.length : Int)
  · clear k0 k1 k2 k3
    go_enter Try.func5, Try.ntmps5
    go_wp2_with fail
    rw [Hw2.out]
    go_ret
    exact ⟨rfl, hb2⟩
  have Hok := hide hok
  clear hok
  have hg1 : w.heap.size < w2.heap.size := by omega
  have hr2 : RI w2 w2.heap.size A l := (RD.below hr hb2).more hb2.size
  have B1 := hide (And.intro hg1 (And.intro k0 k1))
  have B2 := hide (And.intro hs2 (And.intro k2 k3))
  clear hr hg1 hs2 k0 k1 k2 k3
  obtain ⟨i0, hi, hz0, hz1, hz2⟩ := info_parts idinfo
  go_enter Try.func5, Try.ntmps5
  go_wp2_with (at_builtin; rw [Hw2.out]; refine wpList_append_src _ rfl (.tmp 19) (.tmp 20) 35 rfl w2.heap.size 31 i0 (.agg #[.int .u32 0, .int .u8 0]) 2 8 Try.underlying35 hi hz0 hz1 hz2 rfl (by decide) _ 0 [] (by rfl) hown0 w2.heap.size A l.length c (ids l) rfl (RD.alloc hr2 (Nat.le_refl _) _) (ids_one' l) (by omega) (by decide) (by simp) ?_; intro v3 w3 hown3 hb3; simp only [Nat.zero_add, List.nil_append] at hown3; replace hb3 : Below w2.heap.size w2 w3 := (boxed w2 _).trans hb3; obtain ⟨A3, c3, rfl, -, -, -⟩ := own_slice hown3; have ho3 : RI w3 w3.heap.size A3 l := RD.of_own hown3; have hr3 : RI w3 w3.heap.size A l := (RD.below hr2 hb3).more hb3.size; clear hown3)
  generalize w.heap.size = g at B1 B2 ⊢
  obtain ⟨⟨⟨p, q⟩, k⟩, hnx⟩ : ∃ q, nextI x l = q := ⟨_, rfl⟩
  have Hnx := hide hnx
  clear hnx hown0
  have hbw3 := fresh hb2 hb3
  replace B1 := hide (keep_two hb3 B1.out)
  replace B2 := hide (keep_two hb3 B2.out)
  refine (next_is x A3 l.length c3 l p q k w3 ho3 rfl (by omega) Hok.out Hnx.out).mono ?_
  rintro e w4 ⟨rfl, hb4⟩
  have hbw4 := fresh hbw3 hb4
  replace B1 := hide (keep_two hb4 B1.out)
  replace B2 := hide (keep_two hb4 B2.out)
  have ho4 : RI w4 w4.heap.size A3 l := (RD.below ho3 hb4).more hb4.size
  have hr4 : RI w4 w4.heap.size A l := (RD.below hr3 hb4).more hb4.size
  clear ho3 hr3 hr2
  go_wp2_with fail
  obtain ⟨w5, hw5, m0, m1, hs5, hb5⟩ := one_box w4 (.int .u32 p) (.int .u8 q) 31
  have B3 := hide (And.intro hs5 (And.intro m0 m1))
  rw [hw5]
  generalize w4.heap.size = g3 at B3 hs5 m0 m1 ⊢
  clear hs5 m0 m1 hw5
  have hbw5 := fresh hbw4 hb5
  replace B1 := hide (keep_two hb5 B1.out)
  replace B2 := hide (keep_two hb5 B2.out)
  have ho5 : RI w5 w5.heap.size A3 l := (RD.below ho4 hb5).more hb5.size
  have hr5 : RI w5 w5.heap.size A l := (RD.below hr4 hb5).more hb5.size
  clear ho4 hr4
  refine (refnext_any x A l.length c l w5 hr5 rfl (by omega) Hok.out).mono ?_
  rintro e w6 ⟨rfl, hb6⟩
  rw [Hnx.out]
  have hbw6 := fresh hbw5 hb6
  replace B1 := hide (keep_two hb6 B1.out)
  replace B2 := hide (keep_two hb6 B2.out)
  replace B3 := hide (keep_two hb6 B3.out)
  have ho6 : RI w6 w6.heap.size A3 l := (RD.below ho5 hb6).more hb6.size
  have hr6 : RI w6 w6.heap.size A l := (RD.below hr5 hb6).more hb6.size
  clear ho5 hr5
  go_wp2_with fail
  obtain ⟨w7, hw7, m0, m1, hs7, hb7⟩ := one_box w6 (.int .u32 p) (.int .u8 q) 31
  rw [hw7]
  generalize w6.heap.size = g4 at hs7 m0 m1 ⊢
  clear hw7
  have hbw7 := fresh hbw6 hb7
  replace B1 := keep_two hb7 B1.out
  replace B2 := keep_two hb7 B2.out
  replace B3 := keep_two hb7 B3.out
  have ho7 : RI w7 w7.heap.size A3 l := (RD.below ho6 hb7).more hb7.size
  have hr7 : RI w7 w7.heap.size A l := (RD.below hr6 hb7).more hb7.size
  clear ho6 hr6
  obtain ⟨s1, k0, k1⟩ := B1
  obtain ⟨s2, k2, k3⟩ := B2
  obtain ⟨s3, k4, k5⟩ := B3
  obtain ⟨bb, hbb⟩ : ∃ bb, lessB t r t' r' = bb := ⟨_, rfl⟩
  obtain ⟨ck, hck⟩ : ∃ ck, chkI t r = ck := ⟨_, rfl⟩
  have C1 := hide (fun w => hck ▸ scheck_any t r w)
  have C2 := hide (fun w => hck ▸ refcheck_any t r w)
  have L1 := hide (fun w => hbb ▸ less_any t r t' r' w h.1 h.2.1 h.2.2.1 h.2.2.2 h'.1 h'.2.1 h'.2.2.1 h'.2.2.2)
  have L2 := hide (fun w => hbb ▸ refless_any t r t' r' w)
  clear hbb hck
  refine wp_region_past (by kernel_rfl) (by kernel_rfl) ?_
  repeat (quiet_step ((first
        | (go_at_call 18; exact past_call (unhide C1 _))
        | (go_at_call 20; exact past_call (unhide C2 _))
        | (go_at_call 21; exact past_call (unhide L1 _))
        | (go_at_call 22; exact past_call (unhide L2 _)))))
  refine wpQuiet_nil ?_
  intro w8 hw8
  obtain ⟨u, rfl⟩ := hw8
  have hbp := below_past w7 u
  have ho8 : RI (past w7 u) (past w7 u).heap.size A3 l := (RD.below ho7 hbp).more hbp.size
  have hr8 : RI (past w7 u) (past w7 u).heap.size A l := (RD.below hr7 hbp).more hbp.size
  have hbw8 := fresh hbw7 hbp
  clear k0 k1 k2 k3 k4 k5 m0 m1 hbp ho7 hr7
  generalize past w7 u = W at ho8 hr8 hbw8 ⊢
  go_wp2_with fail
  go_loopw [14, 15] (fun o i wr => ∃ (k : Nat), k ≤ l.length ∧ i = .int .i64 (k : Int) ∧ o = .bool true ∧ Below W.heap.size W wr) (fun _ i _ => l.length - (intOf i).toNat)
  case atStart => exact ⟨0, by omega, rfl, rfl, Below.refl _ _⟩
  case round =>
    obtain ⟨k, hk, rfl, rfl, hb⟩ := hrel
    by_cases hlt : k < l.length
    · obtain ⟨b0, o0, rfl, hB0, hC0⟩ := RI.cell (RD.below ho8 hb) (by omega)
      obtain ⟨b1, o1, rfl, hB1, hC1⟩ := RI.cell (RD.below hr8 hb) (by omega)
      obtain ⟨d0, d1⟩ := hC0 k hlt
      obtain ⟨d2, d3⟩ := hC1 k hlt
      clear hC0 hC1
      have z0 : (k : Int) < l.length := by omega
      have z1 : (0 : Int) ≤ k := by omega
      generalize l[k].1 = y at d0 d2
      generalize l[k].2 = z at d1 d3
      go_wp2_with fail
      go_quiet (fail)
      go_wp2_with fail
      go_roundw
      case rel => exact ⟨k + 1, by omega, by go_num, rfl, below_drewN hb _⟩
      case measure => simp [intOf]; omega
    · have hkl : ¬ (k : Int) < l.length := by omega
      go_wp2_with fail
      go_ret
      exact ⟨rfl, fresh hbw8 hb⟩
end Go.Proofs.Ytllmlnbgfikeaaa
