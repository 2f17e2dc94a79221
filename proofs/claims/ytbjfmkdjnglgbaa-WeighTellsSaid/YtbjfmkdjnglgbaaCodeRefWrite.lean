/-
  What octavoref10's end, Bytes and Put do: an operation's bytes. Condition: parts of their types; of Bytes: an operation that may be.
-/
import Derived.Test.YtbjfmkdjnglgbaaCodeWrite
import Derived.Test.YtbjfmkdjnglgbaaOpRef
namespace Go.Proofs.Ytbjfmkdjnglgbaa
open Go.RowKit

theorem refbytes_int (z : Int) (w : World) (h0 : 0 ≤ z) (h : z ≤ 1099511627776) :
    Calls Try.prog 133 #[.int .i64 z] w fun e w' => ∃ A c, e = .returned (.slice A (nb z.toNat).length c) ∧ w'.ownsRow w.heap.size 5 1 (.slice A (nb z.toNat).length c) (nb z.toNat).length (u8s (nb z.toNat)) ∧ Below w.heap.size w w' := by
  obtain ⟨n, rfl⟩ := Int.eq_ofNat_of_zero_le h0
  refine (refbytes_ok n w (by omega)).mono ?_
  rintro e w' ⟨v, rfl, hown, hb⟩
  obtain ⟨A, c, rfl, -, -, -⟩ := own_slice hown
  exact ⟨A, c, by rfl, hown, hb⟩
set_option maxHeartbeats 400000 in
set_option maxRecDepth 100000 in
theorem end10_ok (t r m : Int) (w : World) (h1 : 0 ≤ t) (h2 : t ≤ 1073741824) (h3 : 1 ≤ m) (h4 : m ≤ 4096) :
    Calls Try.prog 134 #[.agg #[.int .u32 t, .int .u8 r, .int .i64 m]] w fun e w' => e = .returned (.int .i64 (t + m - 1)) ∧ Below w.heap.size w w' := by
  go_enter Try.func134, Try.ntmps134
  go_wp2_with fail
  go_ret
  exact ⟨rfl, boxed _ _⟩

set_option maxHeartbeats 12800000 in
set_option maxRecDepth 100000 in
theorem crefbytes_ok (k t r z : Int) (A : Option Addr) (n c : Nat) (p : List Rn) (w : World) (hr : RR w w.heap.size A p) (hn : p.length = n) (hok : ∀ x ∈ p, okR x) (hm : mayO k t r p z) (hi : okI (t, r)) :
    Calls Try.prog 101 #[opv k t r A n c z] w fun e w' => ∃ v, e = .returned v ∧ w'.ownsRow w.heap.size 5 1 v (opB k t r p z).length (u8s (opB k t r p z)) ∧ Below w.heap.size w w' := by
  obtain ⟨i0, hi0, hz0, hz1, hz2⟩ := info_parts u8info
  obtain ⟨w1, hw1, F1, hs1, hb1⟩ := five_fb w (.int .u8 k) (.int .u32 t) (.int .u8 r) (.slice A n c) (.int .i64 z)
  obtain ⟨a0, a1, a2, a3, a4⟩ := F1.cells
  have Hm := hide hm
  have Ok := hide hok
  have hn64 : n ≤ 64 := by have := hm.2.1.2.1; omega
  have Hn := hide hn
  have hk4 : 1 ≤ k ∧ k ≤ 4 := by
    have := hm.2.2
    unfold rightO at this
    omega
  have Hi := hide hi
  have Hpl := hide (fun j => pre_len (k := k) (by omega) hm.2.1 hok j)
  have Hgood := hide (may_good hm.2.1 hok)
  have HF1 := hide F1
  have hconv : IntKind.i64.wrap k = k := IntWalk.i64_in _ (by omega)
  have Hnb := hide (fun (z : Int) (h : 0 ≤ z ∧ z ≤ 1099511627776) => nb_six (n := z.toNat) (by omega))
  clear hm hok hn hi F1
  go_enter Try.func101, Try.ntmps101
  go_wp2_with fail
  refine (refbytes_int k w1 (by omega) (by omega)).mono ?_
  rintro e w2 ⟨A2, c2, rfl, hown2, hb2⟩
  have hb02 := fresh hb1 hb2
  have HF2 := hide (HF1.out.below hb2)
  have hown2' : w2.ownsRow w.heap.size 5 1 (.slice A2 (nb k.toNat).length c2) (nbs [k]).length (u8s (nbs [k])) := by
    have e : nbs [k] = nb k.toNat := by simp [nbs]
    rw [e]
    exact own_base hown2 hb1.size
  clear a0 a1 a2 a3 a4 hown2
  obtain ⟨a0, a1, a2, a3, a4⟩ := HF2.out.cells
  go_wp2_with fail
  refine (refbytes_int (n : Int) w2 (by omega) (by omega)).mono ?_
  rintro e w3 ⟨A3, c3, rfl, hown3, hb3⟩
  have hb03 := fresh hb02 hb3
  have HF3 := hide (HF2.out.below hb3)
  have hown23 := own_below hown2' hb3 (Nat.le_refl _)
  have hsz3 : (nbs [k]).length + (nb (n : Int).toNat).length ≤ 1073741824 := by
    have h1 := Hnb.out k (by omega)
    have h2 := Hnb.out n (by omega)
    have e : nbs [k] = nb k.toNat := by simp [nbs]
    rw [e]
    omega
  clear a0 a1 a2 a3 a4 hown2'
  go_wp2_with (at_builtin; refine wpList_append_held _ rfl (.tmp 11) (.tmp 15) 67 rfl w.heap.size 5 i0 (.int .u8 0) 1 1 Try.underlying67 hi0 hz0 hz1 hz2 rfl (by decide) _ _ _ rfl hown23 w3.heap.size A3 _ c3 (u8s (nb (n : Int).toNat)) rfl (RD.of_own hown3) (u8s_one _) hsz3 (by decide) hb03.size ?_; intro v4 w4 hown4 hb4 hk4'; obtain ⟨a0, a1, a2, a3, a4⟩ := (HF3.out.kept hk4').cells)
  have hb04 := hb03.trans hb4
  have HF4 := hide (HF3.out.kept hk4')
  have hown4' : w4.ownsRow w.heap.size 5 1 v4 (nbs [k, (n : Int)]).length (u8s (nbs [k, (n : Int)])) := by
    have e : nbs [k, (n : Int)] = nbs [k] ++ nb (n : Int).toNat := by simp [nbs]
    rw [e, u8s_append, List.length_append]
    exact hown4
  clear hown4 hown23 hown3 hk4' a0 a1 a2 a3 a4
  go_loopw [3, 4, 5] (fun u v i wr => ∃ j : Nat, j ≤ n ∧ i = .int .i64 (j : Int) ∧ v = .int .i64 (wasR 0 (p.take j)) ∧ wr.ownsRow w.heap.size 5 1 u (nbs ([k, (n : Int)] ++ runNums 0 (p.take j))).length (u8s (nbs ([k, (n : Int)] ++ runNums 0 (p.take j)))) ∧ Hid (FB wr w.heap.size (.int .u8 k) (.int .u32 t) (.int .u8 r) (.slice A n c) (.int .i64 z)) ∧ Below w.heap.size w wr) (fun _ _ i _ => n - (intOf i).toNat)
  case atStart => exact ⟨0, by omega, rfl, rfl, by simpa [runNums] using hown4', HF4, hb04⟩
  case round =>
    obtain ⟨j, hj, rfl, rfl, hown, hF, hb⟩ := hrel
    clear HF4 HF3 HF2 hown4' hb04 hb4 hb03 hb3 hb02 hb2
    obtain ⟨a0, a1, a2, a3, a4⟩ := hF.out.cells
    by_cases hlt : j < n
    · have hltp : j < p.length := by have := Hn.out; omega
      obtain ⟨bA, oA, rfl, hB, hC⟩ := RR.cell (RD.below hr hb) (by omega)
      obtain ⟨d0, d1, d2⟩ := hC j hltp
      obtain ⟨t1, ht1⟩ : ∃ x, p[j].1 = x := ⟨_, rfl⟩
      obtain ⟨r1, hr1⟩ : ∃ x, p[j].2.1 = x := ⟨_, rfl⟩
      obtain ⟨m1, hm1⟩ : ∃ x, p[j].2.2 = x := ⟨_, rfl⟩
      obtain ⟨g1, g2, g3⟩ := good_take p 0 j Hgood.out hltp
      replace g2 := g2 (Int.le_refl _)
      replace g3 := g3 (by decide)
      obtain ⟨e1, e2, e3, e4, e5, e6⟩ := chainR_mem Hm.out.2.1.2.2.1 p[j] (List.getElem_mem hltp)
      have eok := Ok.out p[j] (List.getElem_mem hltp)
      unfold okR at eok
      have hnx : runNums 0 (p.take (j + 1)) = runNums 0 (p.take j) ++ [t1 - wasR 0 (p.take j), r1, m1] := by rw [List.take_succ_eq_append_getElem hltp, runNums_snoc, ht1, hr1, hm1]
      have hws : wasR 0 (p.take (j + 1)) = t1 + m1 - 1 := by rw [List.take_succ_eq_append_getElem hltp, wasR_snoc, ht1, hm1]
      have Hnx := hide (And.intro hnx hws)
      rw [ht1] at d0 g1 e1 e2 e6 eok
      rw [hr1] at d1 e3 eok
      rw [hm1] at d2 e4 e5 e6 eok
      have HP := Hpl.out j
      rw [Hn.out] at HP
      obtain ⟨ws, hws'⟩ : ∃ x, wasR 0 (p.take j) = x := ⟨_, rfl⟩
      rw [hws'] at g1 g2 g3 Hnx ⊢
      obtain ⟨q1, q2, q3, q4, q5, q6⟩ := eok
      have z0 : (j : Int) < n := by omega
      have hc1 : IntKind.i64.wrap t1 = t1 := IntWalk.i64_in _ (by omega)
      have hc2 : IntKind.i64.wrap r1 = r1 := IntWalk.i64_in _ (by omega)
      have hc3 : IntKind.i64.wrap (t1 - ws) = t1 - ws := IntWalk.i64_in _ (by omega)
      obtain ⟨wx, hwx, FX, hsx, hbx⟩ := three_xb wr (.int .u32 t1) (.int .u8 r1) (.int .i64 m1)
      obtain ⟨x0, x1, x2⟩ := FX.cells
      have hbw := fresh hb hbx
      have hown' := own_below hown hbx (Nat.le_refl _)
      have HFX := hide FX
      have HFO := hide (hF.out.below hbx)
      obtain ⟨pre, hpre⟩ : ∃ l, nbs ([k, (n : Int)] ++ runNums 0 (p.take j)) = l := ⟨_, rfl⟩
      have Hpre := hide hpre
      rw [hpre] at hown' HP
      have HPre := hide HP
      have s1 := Hnb.out (t1 - ws) (by omega)
      have s2 := Hnb.out r1 (by omega)
      have s3 := Hnb.out m1 (by omega)
      have HS := hide (And.intro s1 (And.intro s2 s3))
      obtain ⟨gx, hgx⟩ : ∃ g, g = wr.heap.size := ⟨_, rfl⟩
      clear ht1 hr1 hm1 hnx hws hws' HP FX hC hpre hown s1 s2 s3
      go_wp2_with fail
      rw [← hgx] at HFX x0 x1 x2 ⊢
      clear hwx hgx
      have hbwx := hbw
      have HFXx := HFX
      have HFOx := HFO
      have hown'x := hown'
      clear hbw HFX HFO hown'
      refine (refbytes_int (t1 - ws) wx (by omega) (by omega)).mono ?_
      rintro e w5 ⟨A5, c5, rfl, hown5, hb5⟩
      have hbw5 := fresh hbwx hb5
      have HFX5 := hide (HFXx.out.below hb5)
      have HFO5 := hide (HFOx.out.below hb5)
      have hownb5 := own_below hown'x hb5 (Nat.le_refl _)
      have hs5 : (pre).length + (nb ((t1 - ws)).toNat).length ≤ 1073741824 := by
        have h1 := HPre.out
        have h2 := HS.out
        try simp only [List.length_append]
        omega
      clear x0 x1 x2
      go_wp2_with (at_builtin; refine wpList_append_held _ rfl (.tmp 29) (.tmp 35) 67 rfl w.heap.size 5 i0 (.int .u8 0) 1 1 Try.underlying67 hi0 hz0 hz1 hz2 rfl (by decide) _ _ _ rfl hownb5 w5.heap.size A5 _ c5 (u8s (nb ((t1 - ws)).toNat)) rfl (RD.of_own hown5) (u8s_one _) hs5 (by decide) hbw5.size ?_; intro v6 w6 hown'6 hb6 hk6; obtain ⟨x0, x1, x2⟩ := (HFX5.out.kept hk6).cells)
      have hbw6 := hbw5.trans hb6
      have HFX6 := hide (HFX5.out.kept hk6)
      have HFO6 := hide (HFO5.out.kept hk6)
      rw [← u8s_append, ← List.length_append] at hown'6
      clear hownb5 hown5 hk6 HFX5 HFO5
      refine (refbytes_int r1 w6 (by omega) (by omega)).mono ?_
      rintro e w7 ⟨A7, c7, rfl, hown7, hb7⟩
      have hbw7 := fresh hbw6 hb7
      have HFX7 := hide (HFX6.out.below hb7)
      have HFO7 := hide (HFO6.out.below hb7)
      have hownb7 := own_below hown'6 hb7 (Nat.le_refl _)
      have hs7 : (pre ++ nb (t1 - ws).toNat).length + (nb (r1).toNat).length ≤ 1073741824 := by
        have h1 := HPre.out
        have h2 := HS.out
        try simp only [List.length_append]
        omega
      clear x0 x1 x2
      go_wp2_with (at_builtin; refine wpList_append_held _ rfl (.tmp 37) (.tmp 41) 67 rfl w.heap.size 5 i0 (.int .u8 0) 1 1 Try.underlying67 hi0 hz0 hz1 hz2 rfl (by decide) _ _ _ rfl hownb7 w7.heap.size A7 _ c7 (u8s (nb (r1).toNat)) rfl (RD.of_own hown7) (u8s_one _) hs7 (by decide) hbw7.size ?_; intro v8 w8 hown'8 hb8 hk8; obtain ⟨x0, x1, x2⟩ := (HFX7.out.kept hk8).cells)
      have hbw8 := hbw7.trans hb8
      have HFX8 := hide (HFX7.out.kept hk8)
      have HFO8 := hide (HFO7.out.kept hk8)
      rw [← u8s_append, ← List.length_append] at hown'8
      clear hownb7 hown7 hk8 HFX7 HFO7
      refine (refbytes_int m1 w8 (by omega) (by omega)).mono ?_
      rintro e w9 ⟨A9, c9, rfl, hown9, hb9⟩
      have hbw9 := fresh hbw8 hb9
      have HFX9 := hide (HFX8.out.below hb9)
      have HFO9 := hide (HFO8.out.below hb9)
      have hownb9 := own_below hown'8 hb9 (Nat.le_refl _)
      have hs9 : (pre ++ nb (t1 - ws).toNat ++ nb r1.toNat).length + (nb (m1).toNat).length ≤ 1073741824 := by
        have h1 := HPre.out
        have h2 := HS.out
        try simp only [List.length_append]
        omega
      clear x0 x1 x2
      go_wp2_with (at_builtin; refine wpList_append_held _ rfl (.tmp 43) (.tmp 46) 67 rfl w.heap.size 5 i0 (.int .u8 0) 1 1 Try.underlying67 hi0 hz0 hz1 hz2 rfl (by decide) _ _ _ rfl hownb9 w9.heap.size A9 _ c9 (u8s (nb (m1).toNat)) rfl (RD.of_own hown9) (u8s_one _) hs9 (by decide) hbw9.size ?_; intro v10 w10 hown'10 hb10 hk10; obtain ⟨x0, x1, x2⟩ := (HFX9.out.kept hk10).cells)
      have hbw10 := hbw9.trans hb10
      have HFX10 := hide (HFX9.out.kept hk10)
      have HFO10 := hide (HFO9.out.kept hk10)
      rw [← u8s_append, ← List.length_append] at hown'10
      clear hownb9 hown9 hk10 HFX9 HFO9
      refine (end10_ok t1 r1 m1 w10 (by omega) (by omega) (by omega) (by omega)).mono ?_
      rintro e w11 ⟨rfl, hb11⟩
      have hbw11 := fresh hbw10 hb11
      have hF11 := hide (HFO10.out.below hb11)
      have hown11 := own_below hown'10 hb11 (Nat.le_refl _)
      clear x0 x1 x2 hown'10
      go_wp2_with fail
      go_roundw
      case rel =>
        refine ⟨j + 1, by omega, by go_num, by rw [Hnx.out.2], ?_, hF11, hbw11⟩
        rw [Hnx.out.1, ← List.append_assoc, nbs_append, Hpre.out]
        have e : nbs [t1 - ws, r1, m1] = nb (t1 - ws).toNat ++ (nb r1.toNat ++ nb m1.toNat) := by simp [nbs]
        rw [e, ← List.append_assoc, ← List.append_assoc]
        exact hown11
      case measure => simp [intOf]; omega
    · have hz : ¬ (j : Int) < n := by omega
      have hjn : j = n := by omega
      have htp : p.take j = p := List.take_of_length_le (by have := Hn.out; omega)
      have HPre := hide (show (nbs ([k, (n : Int)] ++ runNums 0 p)).length ≤ 6 * 194 by
        have := Hpl.out j
        rwa [htp, Hn.out] at this)
      rw [htp] at hown ⊢
      subst hjn
      have hlw := lastR_was Hm.out.2.1 0
      have hpos := mayR_last_pos Hm.out.2.1
      have hopn : opB k t r p z = nbs ([k, (j : Int)] ++ (runNums 0 p ++ tailNums k t r (wasR 0 p) z)) := by
        unfold opB opNums
        rw [Hn.out]
        rfl
      have hws0 : 0 ≤ wasR 0 p := by omega
      have hrt := Hm.out.2.2
      have hii := Hi.out
      obtain ⟨mi1, mi2, mi3⟩ := Hm.out.1
      unfold okI at hii
      simp only at hii
      obtain ⟨ws, hws'⟩ : ∃ x, wasR 0 p = x := ⟨_, rfl⟩
      rw [hws'] at hlw hws0 hopn ⊢
      obtain ⟨pre, hpre⟩ : ∃ l, nbs ([k, (j : Int)] ++ runNums 0 p) = l := ⟨_, rfl⟩
      have Hpre := hide hpre
      rw [hpre] at hown HPre
      clear hws' htp hlt hpre
      have hO := hide (fun W => refown_ok k t r z A j c W)
      go_wp2_with fail
      refine (unhide hO wr).mono ?_
      rintro e wq ⟨rfl, hbq⟩
      have hbwq := fresh hb hbq
      have HFq := hide (hF.out.below hbq)
      have hown'q := own_below hown hbq (Nat.le_refl _)
      clear a0 a1 a2 a3 a4 hown
      obtain ⟨a0, a1, a2, a3, a4⟩ := HFq.out.cells
      have hkk : k = 1 ∨ k = 2 ∨ (k = 3 ∨ k = 4) := by omega
      rcases hkk with rfl | rfl | hkk
      · have hzz : 0 ≤ z ∧ z ≤ 1114111 := by
          rcases hrt with ⟨-, -, h⟩ | ⟨h, -⟩ | ⟨h, -⟩
          · exact ⟨h.1, h.2.1⟩
          · omega
          · omega
        have Hop := hide (show opB 1 t r p z = pre ++ nb z.toNat by rw [hopn, ← List.append_assoc, nbs_append, Hpre.out]; simp [tailNums, nbs])
        have HS := hide (Hnb.out z (by omega))
        have hdt : decide ((1 : Int) = 1 ∨ (1 : Int) = 2) = true := by decide
        clear hopn hlw hpos hrt
        rw [hdt]
        go_wp2_with fail
        refine (refbytes_int z wq (by omega) (by omega)).mono ?_
        rintro e w5 ⟨A5, c5, rfl, hown5, hb5⟩
        have hbw5 := fresh hbwq hb5
        have HF5 := hide (HFq.out.below hb5)
        have hownb5 := own_below hown'q hb5 (Nat.le_refl _)
        have hs5 : (pre).length + (nb (z).toNat).length ≤ 1073741824 := by
          have h1 := HPre.out
          have h2 := HS.out
          try simp only [List.length_append]
          omega
        clear a0 a1 a2 a3 a4
        go_wp2_with (at_builtin; refine wpList_append_held _ rfl (.tmp 55) (.tmp 58) 67 rfl w.heap.size 5 i0 (.int .u8 0) 1 1 Try.underlying67 hi0 hz0 hz1 hz2 rfl (by decide) _ _ _ rfl hownb5 w5.heap.size A5 _ c5 (u8s (nb (z).toNat)) rfl (RD.of_own hown5) (u8s_one _) hs5 (by decide) hbw5.size ?_; intro v6 w6 hown'6 hb6 hk6; obtain ⟨a0, a1, a2, a3, a4⟩ := (HF5.out.kept hk6).cells)
        have hbw6 := hbw5.trans hb6
        have HF6 := hide (HF5.out.kept hk6)
        rw [← u8s_append, ← List.length_append] at hown'6
        clear hownb5 hown5 hk6 HF5
        go_ret
        exact ⟨_, rfl, by rw [Hop.out]; exact hown'6, hbw6⟩
      · have Hop := hide (show opB 2 t r p z = pre by rw [hopn, ← Hpre.out]; simp [tailNums])
        have hdt : decide ((2 : Int) = 1 ∨ (2 : Int) = 2) = true := by decide
        clear hopn hlw hpos hrt
        rw [hdt]
        go_wp2_with fail
        go_ret
        exact ⟨_, rfl, by rw [Hop.out]; exact hown'q, hbwq⟩
      · have hlt2 : ws < t := by
          rcases hrt with ⟨h, -⟩ | ⟨h, -⟩ | ⟨-, -, h⟩
          · omega
          · omega
          · omega
        have Hop := hide (show opB k t r p z = pre ++ nb (t - ws).toNat ++ nb r.toNat by rw [hopn, ← List.append_assoc, nbs_append, Hpre.out]; unfold tailNums; rw [if_neg (by omega), if_neg (by omega)]; simp [nbs])
        have hc1 : IntKind.i64.wrap t = t := IntWalk.i64_in _ (by omega)
        have hc2 : IntKind.i64.wrap r = r := IntWalk.i64_in _ (by omega)
        have hc3 : IntKind.i64.wrap (t - ws) = t - ws := IntWalk.i64_in _ (by omega)
        obtain ⟨i1, i2, i3, i4⟩ := hii
        have HS := hide (And.intro (Hnb.out (t - ws) (by omega)) (Hnb.out r (by omega)))
        have hdt : decide (k = 1 ∨ k = 2) = false := decide_eq_false (by omega)
        clear hopn hlw hpos hrt
        rw [hdt]
        go_wp2_with fail
        refine (refbytes_int (t - ws) wq (by omega) (by omega)).mono ?_
        rintro e w5 ⟨A5, c5, rfl, hown5, hb5⟩
        have hbw5 := fresh hbwq hb5
        have HF5 := hide (HFq.out.below hb5)
        have hownb5 := own_below hown'q hb5 (Nat.le_refl _)
        have hs5 : (pre).length + (nb ((t - ws)).toNat).length ≤ 1073741824 := by
          have h1 := HPre.out
          have h2 := HS.out
          try simp only [List.length_append]
          omega
        clear a0 a1 a2 a3 a4
        go_wp2_with (at_builtin; refine wpList_append_held _ rfl (.tmp 61) (.tmp 68) 67 rfl w.heap.size 5 i0 (.int .u8 0) 1 1 Try.underlying67 hi0 hz0 hz1 hz2 rfl (by decide) _ _ _ rfl hownb5 w5.heap.size A5 _ c5 (u8s (nb ((t - ws)).toNat)) rfl (RD.of_own hown5) (u8s_one _) hs5 (by decide) hbw5.size ?_; intro v6 w6 hown'6 hb6 hk6; obtain ⟨a0, a1, a2, a3, a4⟩ := (HF5.out.kept hk6).cells)
        have hbw6 := hbw5.trans hb6
        have HF6 := hide (HF5.out.kept hk6)
        rw [← u8s_append, ← List.length_append] at hown'6
        clear hownb5 hown5 hk6 HF5
        refine (refbytes_int r w6 (by omega) (by omega)).mono ?_
        rintro e w7 ⟨A7, c7, rfl, hown7, hb7⟩
        have hbw7 := fresh hbw6 hb7
        have HF7 := hide (HF6.out.below hb7)
        have hownb7 := own_below hown'6 hb7 (Nat.le_refl _)
        have hs7 : (pre ++ nb (t - ws).toNat).length + (nb (r).toNat).length ≤ 1073741824 := by
          have h1 := HPre.out
          have h2 := HS.out
          try simp only [List.length_append]
          omega
        clear a0 a1 a2 a3 a4
        go_wp2_with (at_builtin; refine wpList_append_held _ rfl (.tmp 70) (.tmp 75) 67 rfl w.heap.size 5 i0 (.int .u8 0) 1 1 Try.underlying67 hi0 hz0 hz1 hz2 rfl (by decide) _ _ _ rfl hownb7 w7.heap.size A7 _ c7 (u8s (nb (r).toNat)) rfl (RD.of_own hown7) (u8s_one _) hs7 (by decide) hbw7.size ?_; intro v8 w8 hown'8 hb8 hk8; obtain ⟨a0, a1, a2, a3, a4⟩ := (HF7.out.kept hk8).cells)
        have hbw8 := hbw7.trans hb8
        have HF8 := hide (HF7.out.kept hk8)
        rw [← u8s_append, ← List.length_append] at hown'8
        clear hownb7 hown7 hk8 HF7
        go_ret
        exact ⟨_, rfl, by rw [Hop.out]; exact hown'8, hbw8⟩

set_option maxHeartbeats 1600000 in
set_option maxRecDepth 100000 in
theorem crefwrite_any (k t r z : Int) (A : Option Addr) (n c : Nat) (p : List Rn) (w : World) (hr : RR w w.heap.size A p) (hn : p.length = n) (hok : ∀ x ∈ p, okR x) (hi : okI (t, r)) :
    Calls Try.prog 62 #[opv k t r A n c z] w fun e w' => ∃ v, e = .returned (.tuple #[v, .int .i64 (chkO k t r p z)]) ∧ w'.ownsRow w.heap.size 5 1 v (putB k t r p z).length (u8s (putB k t r p z)) ∧ Below w.heap.size w w' := by
  obtain ⟨w1, hw1, F1, hs1, hb1⟩ := five_fb w (.int .u8 k) (.int .u32 t) (.int .u8 r) (.slice A n c) (.int .i64 z)
  obtain ⟨a0, a1, a2, a3, a4⟩ := F1.cells
  have hM := hide (refmayo_any k t r z A n c p w1 (hr.below' hb1) hn hok)
  by_cases hm : mayO k t r p z
  · have hv := hide (And.intro (show chkO k t r p z = 0 from if_pos hm) (show putB k t r p z = opB k t r p z from if_pos hm))
    rw [decide_eq_true hm] at hM
    have hB := hide (fun W h => crefbytes_ok k t r z A n c p W h hn hok hm hi)
    clear hm
    go_enter Try.func62, Try.ntmps62
    go_wp2_with fail
    refine hM.out.mono ?_
    rintro e w2 ⟨rfl, hb2⟩
    have hb02 := fresh hb1 hb2
    clear a0 a1 a2 a3 a4
    obtain ⟨a0, a1, a2, a3, a4⟩ := (F1.below hb2).cells
    go_wp2_with fail
    refine (unhide hB w2 (hr.below' hb02)).mono ?_
    rintro e w3 ⟨v, rfl, hown, hb3⟩
    go_wp2_with fail
    refine bodyPost_ret (v := .tuple #[v, .int .i64 0]) (by simp [results, Try.results62, go_sem]) rfl ?_
    exact ⟨_, by rw [hv.out.1], by rw [hv.out.2]; exact own_base hown hb02.size, fresh hb02 hb3⟩
  · have hv := hide (And.intro (show chkO k t r p z = 8 from if_neg hm) (show putB k t r p z = [] from if_neg hm))
    rw [decide_eq_false hm] at hM
    clear hm
    go_enter Try.func62, Try.ntmps62
    go_wp2_with fail
    refine hM.out.mono ?_
    rintro e w2 ⟨rfl, hb2⟩
    go_wp2_with fail
    refine bodyPost_ret (v := .tuple #[.slice none 0 0, .int .i64 8]) (by simp [results, Try.results62, go_sem]) rfl ?_
    exact ⟨_, by rw [hv.out.1], by rw [hv.out.2]; exact World.ownsRow_nil _ _ _ _, fresh hb1 hb2⟩
end Go.Proofs.Ytbjfmkdjnglgbaa
