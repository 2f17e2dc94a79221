/-
  What is written is read back, what is read is written as just these bytes: the walk of CodeBack. Condition: parts of their types.
-/
import Derived.Test.YtbjfmkdjnglgbaaListRead
import Derived.Test.YtbjfmkdjnglgbaaListRef
import Derived.Test.YtbjfmkdjnglgbaaListGreat
import Derived.Test.YtbjfmkdjnglgbaaCodeAlive
namespace Go.Proofs.Ytbjfmkdjnglgbaa
open Go.RowKit

theorem own_nilC {w : World} {base n c : Nat} {e : TypeId} {size : Nat} {A : Option Addr} {xs : List Value} (h : w.ownsRow base e size (.slice A n c) n xs) : A = none → c = 0 := own_nilB h
theorem str_append (l m : List UInt8) : (⟨l.toArray⟩ : ByteArray) ++ ⟨m.toArray⟩ = ⟨(l ++ m).toArray⟩ := by
  apply ByteArray.ext
  rw [ByteArray.data_append]
  simp
theorem RB.opening {w : World} {B : Nat} {A : Option Addr} {l : List UInt8} (h : RB w B A l) (j : Nat) (hj : j ≤ l.length) : RB w B A (l.take j) := by
  have := h.take hj
  rw [Nat.mul_one, u8s_take] at this
  unfold RB
  rw [List.length_take, Nat.min_eq_left hj]; exact this
/-- A good operation may be handed to code.All. -/
theorem good_okO {x : OpL} (h : goodP x.op) : okO x := by
  obtain ⟨h1, h2, h3, h4, h5⟩ := h
  have hm : mayO x.k x.t x.r x.p x.z := h1
  have hp : x.p.length ≤ 64 := hm.2.1.2.1
  obtain ⟨m1, m2, m3⟩ := hm.1
  have h5' : 0 ≤ x.r := h5
  refine ⟨by have : 1 ≤ x.k := h3; omega, ⟨by simp only; omega, by simp only; omega, h5', by simp only; omega⟩, h2, by omega⟩
theorem great_goodP {x : OpL} (hm : mayL x) (hr : ∀ y ∈ x.p, okR y) (hi : okI (x.t, x.r)) : goodP x.op := by
  have h : mayO x.k x.t x.r x.p x.z := hm
  have h2 := h.2.2
  unfold rightO at h2
  unfold okI at hi
  simp only at hi
  exact ⟨h, hr, by show 1 ≤ x.k; omega, by show x.k ≤ 4; omega, by show 0 ≤ x.r; omega⟩

set_option maxHeartbeats 12800000 in
set_option maxRecDepth 100000 in
theorem codeBack_walk (A0 A1 : Option Addr) (n0 c0 c1 : Nat) (L : List OpL) (l1 : List UInt8) (w : World) (hr0 : RO w w.heap.size A0 L) (hn0 : L.length = n0) (hr1 : RB w w.heap.size A1 l1) (hc1 : l1.length ≤ c1) (hn1 : A1 = none → c1 = 0) (ok0 : ∀ x ∈ L, 0 ≤ x.k ∧ okI (x.t, x.r) ∧ (∀ y ∈ x.p, okR y)) :
    Calls Try.prog 21 #[.slice A0 n0 c0, .slice A1 l1.length c1] w fun e w' => e = .returned (.bool true) ∧ Below w.heap.size w w' := by
  obtain ⟨i0, hi0, hz0, hz1, hz2⟩ := info_parts u8info
  have HR1 := hide hr1
  have HR0 := hide hr0
  have Hc1 := hide hc1
  have Hn1 := hide hn1
  have Hn0 := hide hn0
  have Ok0 := hide ok0
  clear hr1 hr0 hc1 hn1 ok0 hn0
  go_enter Try.func21, Try.ntmps21
  go_wp2_with fail
  refine (calive_ok w).mono ?_
  rintro e w1 ⟨rfl, hb1⟩
  go_wp2_with fail
  refine (great_any A0 n0 c0 60 L w1 ((HR0.out.below hb1).more hb1.size) Hn0.out (fun x hx => (Ok0.out x hx).2.2)).mono ?_
  rintro e w2 ⟨v, rfl, ⟨g, rfl, hg⟩, hb2'⟩
  have hb2 := fresh hb1 hb2'
  cases g with
  | true =>
    clear hg
    go_wp2_with fail
    go_ret
    exact ⟨rfl, hb2⟩
  | false =>
    obtain ⟨hn60, hl100⟩ := hg rfl
    by_cases hl1 : (10000 : Int) < l1.length
    · go_wp2_with fail
      go_ret
      exact ⟨rfl, hb2⟩
    have Hl1 := hide (show l1.length ≤ 10000 by omega)
    have Hl100 := hide (hl100 (by omega))
    have Hn60 := hide (show n0 ≤ 60 by omega)
    have GB := hide (fun (W : World) h => cread_any A1 l1 l1.length c1 W h rfl (by omega) Hc1.out Hn1.out)
    have hokO : ∀ x ∈ L, okO x := fun x hx => ⟨(Ok0.out x hx).1, (Ok0.out x hx).2.1, (Ok0.out x hx).2.2, by have := Hl100.out x hx; omega⟩
    have P1 := hide (call_any A0 n0 c0 L w2 ((HR0.out.below hb2).more hb2.size) Hn0.out (by omega) hokO)
    have HokO := hide hokO
    clear hg hl100 hn60 hokO
    by_cases hm : ∀ x ∈ L, mayL x
    rotate_left
    · rw [show allE L = 8 from if_neg hm] at P1
      clear hm
      go_wp2_with fail
      refine P1.out.mono ?_
      rintro e w3 ⟨v3, rfl, -, hb3⟩
      have hb03 := fresh hb2 hb3
      clear P1
      go_wp2_with fail
      refine (unhide GB w3 ((RD.below HR1.out hb03).more hb03.size)).mono ?_
      rintro e wg ⟨Ag, cg, Lg, rfl, hLg, hOg, hbg⟩
      have hb0g := fresh hb03 hbg
      cases hg : readL l1 with
      | none =>
        simp only [outL]
        clear hg hLg hOg GB
        go_wp2_with fail
        go_ret
        exact ⟨rfl, hb0g⟩
      | some q =>
        obtain ⟨l, nn⟩ := q
        rw [hg] at hLg
        simp only [outL] at hLg ⊢
        obtain ⟨g1, g2, g3, g4⟩ := readL_inv hg
        have hlen : Lg.length = l.length := by rw [← hLg, List.length_map]
        have hall : ∀ x ∈ Lg, mayL x := fun x hx => (g1 x.op (by rw [← hLg]; exact List.mem_map_of_mem hx)).1
        have hE : allE Lg = 0 := if_pos hall
        have hY : allY Lg = l1.take nn := by
          rw [show allY Lg = allB Lg from if_pos hall, allB_op, hLg, g4]
        have P2 := hide (call_any Ag l.length cg Lg wg (hOg.ro) hlen g2 (fun x hx => good_okO (g1 x.op (by rw [← hLg]; exact List.mem_map_of_mem hx))))
        rw [hE, hY] at P2
        have Hn' := hide g3
        have hlt' : (l1.take nn).length = nn := by rw [List.length_take]; omega
        rw [hlt'] at P2
        have z1 : (nn : Int) ≤ l1.length := by omega
        have z2 : (0 : Int) ≤ nn := by omega
        have z3 : (nn : Int) ≤ c1 := by have := Hc1.out; omega
        clear hg g1 g2 g3 g4 hlen hall hE hY hlt' GB hLg hOg
        go_wp2_with fail
        refine P2.out.mono ?_
        rintro e wi ⟨vi, rfl, hown_i, hbi⟩
        have hb0i := fresh hb0g hbi
        obtain ⟨Ai, ci, rfl, -, -, -⟩ := own_slice hown_i
        have Ri : RB wi wi.heap.size Ai (l1.take nn) := by
          have := RD.of_own hown_i
          unfold RB
          rw [List.length_take, Nat.min_eq_left Hn'.out]
          exact this
        have Rb : RB wi wi.heap.size A1 (l1.take nn) := RB.opening (show RB wi wi.heap.size A1 l1 from (RD.below HR1.out hb0i).more hb0i.size) nn Hn'.out
        have s1 := fun u => conv_bytes (P := Try.prog) (show RB (past wi u) (past wi u).heap.size Ai (l1.take nn) from (RD.below Ri (below_past wi u)).more (below_past wi u).size) Try.underlying67 Try.underlying5 Try.underlying9 ci
        have s2 := fun u => conv_bytes (P := Try.prog) (show RB (past wi u) (past wi u).heap.size A1 (l1.take nn) from (RD.below Rb (below_past wi u)).more (below_past wi u).size) Try.underlying67 Try.underlying5 Try.underlying9 c1
        rw [List.length_take, Nat.min_eq_left Hn'.out] at s1 s2
        clear hown_i Ri Rb
        go_wp2_with fail
        refine wp_region_wq (by kernel_rfl) (by kernel_rfl) ?_
        repeat (
          refine WQ.step (fun K hK => ?_)
          go_simp
          refine hK _ ?_
          clear hK K)
        refine WQ.nil ?_
        intro u
        go_wp2_with fail
        go_ret
        exact ⟨rfl, fresh hb0i (below_past _ u)⟩
    rw [show allE L = 0 from if_pos hm, show allY L = allB L from if_pos hm] at P1
    have hgood : ∀ o ∈ L.map OpL.op, goodP o := by
      intro o ho
      obtain ⟨x, hx, rfl⟩ := List.mem_map.1 ho
      exact great_goodP (hm x hx) (Ok0.out x hx).2.2 (Ok0.out x hx).2.1
    have hG1 := readL_fwd l1 hgood (by rw [List.length_map, Hn0.out]; have := Hn60.out; omega)
    rw [← allB_op] at hG1
    have hlen : (allB L).length ≤ 100000 := by
      have h1 := flat_len L fun x hx => ⟨hm x hx, HokO.out x hx⟩
      have h2 : (nbs [(L.length : Int)]).length ≤ 6 := nbs_len (L := [(L.length : Int)]) (by intro a ha; simp only [List.mem_singleton] at ha; have := Hn60.out; have := Hn0.out; omega)
      have := Hn60.out
      have := Hn0.out
      unfold allB
      rw [List.length_append]
      omega
    obtain ⟨X, hX⟩ : ∃ l, l = allB L := ⟨_, rfl⟩
    rw [← hX] at hlen hG1 P1
    have Hlen := hide hlen
    have HG1 := hide hG1
    clear hlen hG1 hX hgood hm
    go_wp2_with fail
    refine P1.out.mono ?_
    rintro e w3 ⟨v3, rfl, hown3, hb3⟩
    have hb03 := fresh hb2 hb3
    obtain ⟨A3, c3, rfl, hc3, -, -⟩ := own_slice hown3
    have HR3 := hide (show RB w3 w3.heap.size A3 X from RD.of_own hown3)
    have hsz1 : 0 + X.length ≤ 1073741824 := by have := Hlen.out; omega
    have hsz2 : X.length + l1.length ≤ 1073741824 := by have := Hlen.out; have := Hl1.out; omega
    clear hown3 hc3 P1
    go_wp2_with (first
      | (at_builtin; refine wpList_append_src _ rfl (.tmp 37) (.tmp 38) 67 rfl w3.heap.size 5 i0 (.int .u8 0) 1 1 Try.underlying67 hi0 hz0 hz1 hz2 rfl (by decide) _ 0 [] rfl (own_empty w3 _ _ _ (Nat.le_refl _)) w3.heap.size A3 X.length c3 (u8s X) rfl (RD.alloc HR3.out (Nat.le_refl _) _) (u8s_one _) hsz1 (by decide) (by simp) ?_; intro v4 w4 hown4 hb4; simp only [Nat.zero_add, List.nil_append] at hown4; replace hb4 : Below w3.heap.size w3 w4 := ((Below.refl w3.heap.size w3).alloc (Nat.le_refl _) _).trans hb4; have hb04 := fresh hb03 hb4)
      | (at_builtin; refine wpList_append_src _ rfl (.tmp 39) (.tmp 40) 67 rfl w3.heap.size 5 i0 (.int .u8 0) 1 1 Try.underlying67 hi0 hz0 hz1 hz2 rfl (by decide) _ _ _ rfl hown4 w4.heap.size A1 l1.length c1 (u8s l1) rfl ((RD.below HR1.out hb04).more hb04.size) (u8s_one _) hsz2 (by decide) hb4.size ?_; intro v5 w5 hown5 hb5; obtain ⟨A5, c5, rfl, hc5, -, -⟩ := own_slice hown5))
    have hb35 := hb4.trans hb5
    have hb05 := fresh hb03 hb35
    have Hn5 := hide (own_nilC hown5)
    rw [← u8s_append] at hown5
    have R5 : RB w5 w5.heap.size A5 (X ++ l1) := by
      have := RD.of_own hown5
      unfold RB
      rw [List.length_append]
      exact this
    have G5 := hide (cread_any A5 (X ++ l1) (X.length + l1.length) c5 w5 R5 (by rw [List.length_append]) (by have := Hlen.out; have := Hl1.out; omega) hc5 Hn5.out)
    rw [HG1.out] at G5
    simp only [outL, List.length_map, Hn0.out] at G5
    clear hown4 hown5 R5 hb4 hb5 hb04 hc5
    refine G5.out.mono ?_
    rintro e w6 ⟨A6, c6, L6, rfl, hL6, hO6, hb6⟩
    have hb06 := fresh hb05 hb6
    have S6 := hide (listsame_any A6 A0 n0 n0 c6 c0 L6 L w6 hO6.ro ((HR0.out.below hb06).more hb06.size) (by rw [← Hn0.out, show L6.length = (L6.map OpL.op).length from (List.length_map ..).symm, hL6, List.length_map]) Hn0.out (fun x hx => by
      have h1 : x.op ∈ L.map OpL.op := by rw [← hL6]; exact List.mem_map_of_mem hx
      obtain ⟨y, hy, hyx⟩ := List.mem_map.1 h1
      have := Hl100.out y hy
      rw [(op_eq.1 hyx).2.2.2.1] at this
      omega) (fun x hx => by have := Hl100.out x hx; omega) (by have := Hn60.out; omega))
    rw [decide_eq_true hL6] at S6
    clear hL6 hO6 G5
    go_wp2_with fail
    refine S6.out.mono ?_
    rintro e w9 ⟨rfl, hb9⟩
    have hb09 := fresh hb06 hb9
    clear S6
    go_wp2_with fail
    refine (unhide GB w9 ((RD.below HR1.out hb09).more hb09.size)).mono ?_
    rintro e wg ⟨Ag, cg, Lg, rfl, hLg, hOg, hbg⟩
    have hb0g := fresh hb09 hbg
    cases hg : readL l1 with
    | none =>
      simp only [outL]
      clear hg hLg hOg GB
      go_wp2_with fail
      go_ret
      exact ⟨rfl, hb0g⟩
    | some q =>
      obtain ⟨l, nn⟩ := q
      rw [hg] at hLg
      simp only [outL] at hLg ⊢
      obtain ⟨g1, g2, g3, g4⟩ := readL_inv hg
      have hlen : Lg.length = l.length := by rw [← hLg, List.length_map]
      have hall : ∀ x ∈ Lg, mayL x := fun x hx => (g1 x.op (by rw [← hLg]; exact List.mem_map_of_mem hx)).1
      have hE : allE Lg = 0 := if_pos hall
      have hY : allY Lg = l1.take nn := by
        rw [show allY Lg = allB Lg from if_pos hall, allB_op, hLg, g4]
      have P2 := hide (call_any Ag l.length cg Lg wg (hOg.ro) hlen g2 (fun x hx => good_okO (g1 x.op (by rw [← hLg]; exact List.mem_map_of_mem hx))))
      rw [hE, hY] at P2
      have Hn' := hide g3
      have hlt' : (l1.take nn).length = nn := by rw [List.length_take]; omega
      rw [hlt'] at P2
      have z1 : (nn : Int) ≤ l1.length := by omega
      have z2 : (0 : Int) ≤ nn := by omega
      have z3 : (nn : Int) ≤ c1 := by have := Hc1.out; omega
      clear hg g1 g2 g3 g4 hlen hall hE hY hlt' GB hLg hOg
      go_wp2_with fail
      refine P2.out.mono ?_
      rintro e wi ⟨vi, rfl, hown_i, hbi⟩
      have hb0i := fresh hb0g hbi
      obtain ⟨Ai, ci, rfl, -, -, -⟩ := own_slice hown_i
      have Ri : RB wi wi.heap.size Ai (l1.take nn) := by
        have := RD.of_own hown_i
        unfold RB
        rw [List.length_take, Nat.min_eq_left Hn'.out]
        exact this
      have Rb : RB wi wi.heap.size A1 (l1.take nn) := RB.opening (show RB wi wi.heap.size A1 l1 from (RD.below HR1.out hb0i).more hb0i.size) nn Hn'.out
      have s1 := fun u => conv_bytes (P := Try.prog) (show RB (past wi u) (past wi u).heap.size Ai (l1.take nn) from (RD.below Ri (below_past wi u)).more (below_past wi u).size) Try.underlying67 Try.underlying5 Try.underlying9 ci
      have s2 := fun u => conv_bytes (P := Try.prog) (show RB (past wi u) (past wi u).heap.size A1 (l1.take nn) from (RD.below Rb (below_past wi u)).more (below_past wi u).size) Try.underlying67 Try.underlying5 Try.underlying9 c1
      rw [List.length_take, Nat.min_eq_left Hn'.out] at s1 s2
      clear hown_i Ri Rb
      go_wp2_with fail
      refine wp_region_wq (by kernel_rfl) (by kernel_rfl) ?_
      repeat (
        refine WQ.step (fun K hK => ?_)
        go_simp
        refine hK _ ?_
        clear hK K)
      refine WQ.nil ?_
      intro u
      go_wp2_with fail
      go_ret
      exact ⟨rfl, fresh hb0i (below_past _ u)⟩
end Go.Proofs.Ytbjfmkdjnglgbaa
