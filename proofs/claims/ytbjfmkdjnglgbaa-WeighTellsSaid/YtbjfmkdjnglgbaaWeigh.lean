/-
  What weigh.Bytes, right, Total and Piece do. Condition: parts of their types, operations with fewer than 2^30 runs, at most 1024 operations.
-/
import Derived.Test.YtbjfmkdjnglgbaaWeighMath
import Derived.Test.YtbjfmkdjnglgbaaOpTwin
namespace Go.Proofs.Ytbjfmkdjnglgbaa
open Go.RowKit

set_option maxHeartbeats 800000 in
set_option maxRecDepth 100000 in
theorem wcontent_ok (k t r z : Int) (A : Option Addr) (n c : Nat) (w : World) :
    Calls Try.prog 38 #[opv k t r A n c z] w fun e w' => e = .returned (.bool (decide (k = 1 ∨ k = 3))) ∧ Below w.heap.size w w' := by
  obtain ⟨w1, hw1, c0, c1, c2, c3, c4, hs1, hb1⟩ := five_box w (.int .u8 k) (.int .u32 t) (.int .u8 r) (.slice A n c) (.int .i64 z) 47
  have hc : (k == 1) = true ∨ ((k == 1) = false ∧ (k == 3) = true) ∨ ((k == 1) = false ∧ (k == 3) = false) := by
    cases (k == 1) <;> cases (k == 3) <;> simp
  rcases hc with h | ⟨h, h2⟩ | ⟨h, h2⟩
  all_goals
    go_enter Try.func38, Try.ntmps38
    go_wp2_with fail
    go_ret
    exact ⟨ret_bool (by simp_all), hb1⟩

set_option maxHeartbeats 800000 in
set_option maxRecDepth 100000 in
theorem wbytes_any (x : OpL) (n : Nat) (w : World) (hr : RR w w.heap.size x.A x.p) (hn : x.p.length = n) (hok : okO x) :
    Calls Try.prog 60 #[opv x.k x.t x.r x.A n x.c x.z] w fun e w' => e = .returned (.tuple #[.int .i64 (szO x : Int), .int .i64 (chkO x.k x.t x.r x.p x.z)]) ∧ Below w.heap.size w w' := by
  obtain ⟨w1, hw1, F1, hs1, hb1⟩ := five_fb w (.int .u8 x.k) (.int .u32 x.t) (.int .u8 x.r) (.slice x.A n x.c) (.int .i64 x.z)
  have hP := hide (cwrite_any x.k x.t x.r x.z x.A n x.c x.p w1 (hr.below' hb1) hn (by have := hok.2.2.2; omega) hok.2.2.1 hok.1 hok.2.1)
  obtain ⟨o0, o1, o2, o3, o4⟩ := F1.cells
  clear hr hn hok F1
  go_enter Try.func60, Try.ntmps60
  go_wp2_with fail
  refine hP.out.mono ?_
  rintro e w2 ⟨v, rfl, hown, hb2⟩
  obtain ⟨A2, c2, rfl, -, -, -⟩ := own_slice hown
  have hb02 := fresh hb1 hb2
  clear hown o0 o1 o2 o3 o4
  go_wp2_with fail
  refine bodyPost_ret (v := .tuple #[.int .i64 (szO x : Int), .int .i64 (chkO x.k x.t x.r x.p x.z)]) (by simp [results, Try.results60, go_sem, szO]) rfl ⟨rfl, hb02⟩

set_option maxHeartbeats 800000 in
set_option maxRecDepth 100000 in
theorem right1_ok (j : Int) (x : OpL) (n : Nat) (w : World) (hr : RR w w.heap.size x.A x.p) (hn : x.p.length = n) (hok : okO x) :
    Calls Try.prog 136 #[.int .i64 j, opv x.k x.t x.r x.A n x.c x.z] w fun e w' => e = .returned (.bool (decide (mayL x))) ∧ Below w.heap.size w w' := by
  obtain ⟨w1, hw1, F1, hs1, hb1⟩ := five_fb w (.int .u8 x.k) (.int .u32 x.t) (.int .u8 x.r) (.slice x.A n x.c) (.int .i64 x.z)
  have hP := hide (opcheck_any x.k x.t x.r x.z x.A n x.c x.p w1 (hr.below' hb1) hn (by have := hok.2.2.2; omega) hok.2.2.1 hok.1)
  obtain ⟨o0, o1, o2, o3, o4⟩ := F1.cells
  clear hr hn hok F1
  by_cases hm : mayL x
  · rw [show chkO x.k x.t x.r x.p x.z = 0 from if_pos hm] at hP
    rw [decide_eq_true hm]
    clear hm
    go_enter Try.func136, Try.ntmps136
    go_wp2_with fail
    refine hP.out.mono ?_
    rintro e w2 ⟨rfl, hb2⟩
    go_wp2_with fail
    go_ret
    exact ⟨rfl, fresh hb1 hb2⟩
  · rw [show chkO x.k x.t x.r x.p x.z = 8 from if_neg hm] at hP
    rw [decide_eq_false hm]
    clear hm
    go_enter Try.func136, Try.ntmps136
    go_wp2_with fail
    refine hP.out.mono ?_
    rintro e w2 ⟨rfl, hb2⟩
    go_wp2_with fail
    go_ret
    exact ⟨rfl, fresh hb1 hb2⟩

set_option maxHeartbeats 800000 in
set_option maxRecDepth 100000 in
theorem total1_ok (j : Int) (x : OpL) (n g s : Nat) (w : World) (hr : RR w g x.A x.p) (hn : x.p.length = n) (hok : okO x) (hI : IB w g s) (hs : s ≤ 2000000) :
    Calls Try.prog 109 #[.int .i64 j, opv x.k x.t x.r x.A n x.c x.z, .pointer (some ⟨g, 0, none⟩)] w fun e w' => e = .returned (.bool true) ∧ IB w' g (s + conO x) ∧ Below g w w' := by
  obtain ⟨w1, hw1, F1, hs1, hb1⟩ := five_fb w (.int .u8 x.k) (.int .u32 x.t) (.int .u8 x.r) (.slice x.A n x.c) (.int .i64 x.z)
  have hgw : g ≤ w.heap.size := Nat.le_of_lt hI.lt
  have hr1 : RR w1 g x.A x.p := RD.below hr (hb1.mono hgw)
  have hgw1 := Nat.le_trans hgw hb1.size
  have hC := hide (wcontent_ok x.k x.t x.r x.z x.A n x.c w1)
  have hP := hide (fun (W : World) h => wbytes_any x n W h hn hok)
  have hsz := szO_le hok
  have HF1 := hide F1
  have HI1 := hide (hI.below hb1)
  have HR1 := hide hr1
  obtain ⟨o0, o1, o2, o3, o4⟩ := F1.cells
  clear hr hn hok F1 hr1 hI
  by_cases hk : x.k = 1 ∨ x.k = 3
  · rw [decide_eq_true hk] at hC
    have Hc := hide (show conO x = szO x from if_pos hk)
    clear hk
    go_enter Try.func109, Try.ntmps109
    go_wp2_with fail
    refine hC.out.mono ?_
    rintro e w2 ⟨rfl, hb2⟩
    clear o0 o1 o2 o3 o4
    obtain ⟨o0, o1, o2, o3, o4⟩ := (HF1.out.below hb2).cells
    go_wp2_with fail
    refine (unhide hP w2 ((RD.below HR1.out (hb2.mono hgw1)).more (Nat.le_trans hgw1 hb2.size))).mono ?_
    rintro e w3 ⟨rfl, hb3⟩
    have hI3 := (HI1.out.below hb2).below hb3
    have hb03 := fresh (fresh hb1 hb2) hb3
    have q0 := hI3.cell
    have q1 := frozen_of_row w3 g 0 _ _ hI3
    have hI4 := hide (hI3.set (s + szO x))
    have hb4 : Below g w (w3.setCell ⟨g, 0, none⟩ (.int .i64 ((s + szO x : Nat) : Int))) := (hb03.mono hgw).setCell (Nat.le_refl _) _
    have Hb4 := hide hb4
    have z1 : IntKind.i64.wrap ((s : Int) + (szO x : Int)) = ((s + szO x : Nat) : Int) := by
      rw [IntWalk.i64_in _ (by omega)]
      omega
    clear o0 o1 o2 o3 o4 hI3 hb4
    go_wp2_with fail
    go_ret
    exact ⟨rfl, by rw [Hc.out]; exact hI4.out, Hb4.out⟩
  · rw [decide_eq_false hk] at hC
    have Hc := hide (show conO x = 0 from if_neg hk)
    clear hk
    go_enter Try.func109, Try.ntmps109
    go_wp2_with fail
    refine hC.out.mono ?_
    rintro e w2 ⟨rfl, hb2⟩
    go_wp2_with fail
    go_ret
    exact ⟨rfl, by rw [Hc.out]; exact HI1.out.below hb2, (fresh hb1 hb2).mono hgw⟩

set_option maxHeartbeats 800000 in
set_option maxRecDepth 100000 in
theorem piece1_ok (j : Nat) (x : OpL) (n g s : Nat) (w : World) (hr : RR w g x.A x.p) (hn : x.p.length = n) (hok : okO x) (hI : IB w g s) (hs : s ≤ 2000000) :
    Calls Try.prog 110 #[.int .i64 (j : Int), opv x.k x.t x.r x.A n x.c x.z, .pointer (some ⟨g, 0, none⟩)] w fun e w' => e = .returned (.bool (decide (j < 64 ∧ (j = 0 ∨ s + szO x ≤ 8192)))) ∧ IB w' g (s + szO x) ∧ Below g w w' := by
  obtain ⟨w1, hw1, F1, hs1, hb1⟩ := five_fb w (.int .u8 x.k) (.int .u32 x.t) (.int .u8 x.r) (.slice x.A n x.c) (.int .i64 x.z)
  have hgw : g ≤ w.heap.size := Nat.le_of_lt hI.lt
  have hr1 : RR w1 g x.A x.p := RD.below hr (hb1.mono hgw)
  have hgw1 := Nat.le_trans hgw hb1.size
  have hP := hide (wbytes_any x n w1 (hr1.more hgw1) hn hok)
  have hsz := szO_le hok
  have HI1 := hide (hI.below hb1)
  obtain ⟨o0, o1, o2, o3, o4⟩ := F1.cells
  clear hr hn hok F1 hr1 hI
  have hways : ¬ (j : Int) < 64 ∨ ((j : Int) < 64 ∧ (j : Int) = 0) ∨ ((j : Int) < 64 ∧ ¬ (j : Int) = 0 ∧ ((s + szO x : Nat) : Int) ≤ 8192) ∨ ((j : Int) < 64 ∧ ¬ (j : Int) = 0 ∧ ¬ ((s + szO x : Nat) : Int) ≤ 8192) := by omega
  rcases hways with h | ⟨h, h2⟩ | ⟨h, h2, h3⟩ | ⟨h, h2, h3⟩
  all_goals
    first
      | have Hd := hide (show decide (j < 64 ∧ (j = 0 ∨ s + szO x ≤ 8192)) = true from decide_eq_true (by omega))
      | have Hd := hide (show decide (j < 64 ∧ (j = 0 ∨ s + szO x ≤ 8192)) = false from decide_eq_false (by omega))
    rw [Hd.out]
    go_enter Try.func110, Try.ntmps110
    go_wp2_with fail
    refine hP.out.mono ?_
    rintro e w3 ⟨rfl, hb3⟩
    have hI3 := HI1.out.below hb3
    have hb03 := fresh hb1 hb3
    have q0 := hI3.cell
    have q1 := frozen_of_row w3 g 0 _ _ hI3
    have hI4' := hI3.set (s + szO x)
    have q2 := hI4'.cell
    have hI4 := hide hI4'
    have hb4 : Below g w (w3.setCell ⟨g, 0, none⟩ (.int .i64 ((s + szO x : Nat) : Int))) := (hb03.mono hgw).setCell (Nat.le_refl _) _
    have Hb4 := hide hb4
    have z1 : IntKind.i64.wrap ((s : Int) + (szO x : Int)) = ((s + szO x : Nat) : Int) := by
      rw [IntWalk.i64_in _ (by omega)]
      omega
    clear o0 o1 o2 o3 o4 hI3 hb4 hI4'
    go_wp2_with fail
    go_ret
    exact ⟨by first | rfl | (refine ret_bool ?_; simp; omega), hI4.out, Hb4.out⟩

set_option maxHeartbeats 1600000 in
set_option maxRecDepth 100000 in
theorem while_right (A : Option Addr) (n c : Nat) (L : List OpL) (w : World) (g : Nat) (hr : RO w g A L) (hg : g ≤ w.heap.size) (hn : L.length = n) (hl : n ≤ 1024) (hok : ∀ x ∈ L, okO x) :
    Calls Try.prog 108 #[.slice A n c, .func (.func 136) #[] #[]] w fun e w' => ∃ m : Nat, e = .returned (.int .i64 (m : Int)) ∧ m ≤ n ∧ (m = n ↔ ∀ x ∈ L, mayL x) ∧ Below g w w' := by
  have Hok := hide hok
  have Hn := hide hn
  have HR := hide hr
  clear hok hn hr
  go_enter Try.func108, Try.ntmps108
  go_wp2_with fail
  go_loopw [9] (fun i wr => ∃ j : Nat, j ≤ n ∧ i = .int .i64 (j : Int) ∧ Hid (∀ x ∈ L.take j, mayL x) ∧ Below g w wr) (fun i _ => n - (intOf i).toNat)
  case atStart => exact ⟨0, by omega, rfl, hide (fun x hx => by cases hx), Below.refl _ _⟩
  case round =>
    obtain ⟨j, hj, rfl, HI, hb⟩ := hrel
    by_cases hlt : j < n
    · have hltL : j < L.length := by rw [Hn.out]; exact hlt
      have z0 : (j : Int) < n := by omega
      have zj : (0 : Int) ≤ j := by omega
      have hgr : g ≤ wr.heap.size := Nat.le_trans hg hb.size
      obtain ⟨bb, bo, rfl, hB, hC⟩ := RO.cell (HR.out.below hb) (by omega)
      have hBr : bb < wr.heap.size := by omega
      obtain ⟨d0, d1, d2, d3, d4⟩ := hC j hltL
      obtain ⟨x, hx⟩ : ∃ x, L[j] = x := ⟨_, rfl⟩
      rw [hx] at d0 d1 d2 d3 d4
      have hxm : x ∈ L := by rw [← hx]; exact List.getElem_mem hltL
      have hox := Hok.out x hxm
      obtain ⟨wx, hwx, FX, hsx, hbx⟩ := five_fb wr (.int .u8 x.k) (.int .u32 x.t) (.int .u8 x.r) (.slice x.A x.p.length x.c) (.int .i64 x.z)
      have hbxg : Below g wr wx := hbx.mono hgr
      have hrx : RR wx g x.A x.p := RD.below ((HR.out.below hb).2 x hxm) hbxg
      have Htake := hide (show L.take (j + 1) = L.take j ++ [x] by rw [List.take_succ_eq_append_getElem hltL, hx])
      have Hdrop := hide (show L.drop j = x :: L.drop (j + 1) by rw [← hx]; exact List.drop_eq_getElem_cons hltL)
      obtain ⟨y0, y1, y2, y3, y4⟩ := FX.cells
      have Hx := hide (And.intro hxm hox)
      have hP := hide (right1_ok (j : Int) x x.p.length wx (hrx.more (Nat.le_trans hgr hbx.size)) rfl hox)
      clear hC hx FX hrx hxm hox
      by_cases hm : mayL x
      · rw [decide_eq_true hm] at hP
        have Hm := hide hm
        clear hm
        go_wp2_with fail
        refine hP.out.mono ?_
        rintro e w2 ⟨rfl, hb2⟩
        have hb02 : Below g w w2 := hb.trans (hbxg.trans (hb2.mono (Nat.le_trans hgr hbx.size)))
        clear y0 y1 y2 y3 y4 d0 d1 d2 d3 d4
        go_wp2_with fail
        go_roundw
        case rel =>
          refine ⟨j + 1, by omega, by go_num, hide fun q hq => ?_, hb02⟩
          rw [Htake.out] at hq
          rcases List.mem_append.1 hq with h | h
          · exact HI.out q h
          · simp only [List.mem_singleton] at h
            subst h
            exact Hm.out
        case measure => simp [intOf]; omega
      · rw [decide_eq_false hm] at hP
        have Hm := hide hm
        clear hm
        go_wp2_with fail
        refine hP.out.mono ?_
        rintro e w2 ⟨rfl, hb2⟩
        have hb02 : Below g w w2 := hb.trans (hbxg.trans (hb2.mono (Nat.le_trans hgr hbx.size)))
        clear y0 y1 y2 y3 y4 d0 d1 d2 d3 d4
        go_wp2_with fail
        go_ret
        exact ⟨j, rfl, by omega, ⟨fun h => by omega, fun h => (Hm.out (h x Hx.out.1)).elim⟩, hb02⟩
    · have z0 : ¬ (j : Int) < n := by omega
      obtain rfl : j = n := by omega
      go_wp2_with fail
      go_ret
      exact ⟨j, rfl, by omega, ⟨fun _ x hx => HI.out x (by rw [List.take_of_length_le (by rw [Hn.out]; omega)]; exact hx), fun _ => rfl⟩, hb⟩

set_option maxHeartbeats 1600000 in
set_option maxRecDepth 100000 in
theorem while_total (A : Option Addr) (n c : Nat) (L : List OpL) (w : World) (g : Nat) (hI : IB w g 0) (hr : RO w g A L) (hg : g ≤ w.heap.size) (hn : L.length = n) (hl : n ≤ 1024) (hok : ∀ x ∈ L, okO x) :
    Calls Try.prog 108 #[.slice A n c, .func (.func 109) #[] #[.pointer (some ⟨g, 0, none⟩)]] w fun e w' => e = .returned (.int .i64 (n : Int)) ∧ IB w' g (totL L) ∧ Below g w w' := by
  have Hok := hide hok
  have Hn := hide hn
  have HR := hide hr
  clear hok hn hr
  go_enter Try.func108, Try.ntmps108
  go_wp2_with fail
  go_loopw [9] (fun i wr => ∃ j : Nat, j ≤ n ∧ i = .int .i64 (j : Int) ∧ Hid (IB wr g (totL (L.take j))) ∧ Below g w wr) (fun i _ => n - (intOf i).toNat)
  case atStart => exact ⟨0, by omega, rfl, hide hI, Below.refl _ _⟩
  case round =>
    obtain ⟨j, hj, rfl, HI, hb⟩ := hrel
    by_cases hlt : j < n
    · have hltL : j < L.length := by rw [Hn.out]; exact hlt
      have z0 : (j : Int) < n := by omega
      have zj : (0 : Int) ≤ j := by omega
      have hgr : g ≤ wr.heap.size := Nat.le_trans hg hb.size
      obtain ⟨bb, bo, rfl, hB, hC⟩ := RO.cell (HR.out.below hb) (by omega)
      have hBr : bb < wr.heap.size := by omega
      obtain ⟨d0, d1, d2, d3, d4⟩ := hC j hltL
      obtain ⟨x, hx⟩ : ∃ x, L[j] = x := ⟨_, rfl⟩
      rw [hx] at d0 d1 d2 d3 d4
      have hxm : x ∈ L := by rw [← hx]; exact List.getElem_mem hltL
      have hox := Hok.out x hxm
      obtain ⟨wx, hwx, FX, hsx, hbx⟩ := five_fb wr (.int .u8 x.k) (.int .u32 x.t) (.int .u8 x.r) (.slice x.A x.p.length x.c) (.int .i64 x.z)
      have hbxg : Below g wr wx := hbx.mono hgr
      have hrx : RR wx g x.A x.p := RD.below ((HR.out.below hb).2 x hxm) hbxg
      have Htake := hide (show L.take (j + 1) = L.take j ++ [x] by rw [List.take_succ_eq_append_getElem hltL, hx])
      have Hdrop := hide (show L.drop j = x :: L.drop (j + 1) by rw [← hx]; exact List.drop_eq_getElem_cons hltL)
      obtain ⟨y0, y1, y2, y3, y4⟩ := FX.cells
      have Hx := hide (And.intro hxm hox)
      have htl := totL_le (L.take j) fun q hq => Hok.out q (List.mem_of_mem_take hq)
      have hP := hide (total1_ok (j : Int) x x.p.length g _ wx hrx rfl hox (HI.out.below hbx) (by rw [List.length_take] at htl; omega))
      have hsn : totL (L.take j) + conO x = totL (L.take (j + 1)) := by rw [Htake.out, totL_snoc]
      rw [hsn] at hP
      clear htl hsn
      clear hC hx FX hrx hxm hox
      go_wp2_with fail
      refine hP.out.mono ?_
      rintro e w2 ⟨rfl, hI2, hb2⟩
      have hb02 : Below g w w2 := hb.trans (hbxg.trans hb2)
      have HI2 := hide hI2
      clear y0 y1 y2 y3 y4 d0 d1 d2 d3 d4 hI2
      go_wp2_with fail
      go_roundw
      case rel => exact ⟨j + 1, by omega, by go_num, HI2, hb02⟩
      case measure => simp [intOf]; omega
    · have z0 : ¬ (j : Int) < n := by omega
      obtain rfl : j = n := by omega
      go_wp2_with fail
      go_ret
      exact ⟨rfl, by have := HI.out; rwa [List.take_of_length_le (by rw [Hn.out]; omega)] at this, hb⟩

set_option maxHeartbeats 1600000 in
set_option maxRecDepth 100000 in
theorem while_piece (A : Option Addr) (n c : Nat) (L : List OpL) (w : World) (g : Nat) (hI : IB w g 0) (hr : RO w g A L) (hg : g ≤ w.heap.size) (hn : L.length = n) (hl : n ≤ 1024) (hok : ∀ x ∈ L, okO x) :
    Calls Try.prog 108 #[.slice A n c, .func (.func 110) #[] #[.pointer (some ⟨g, 0, none⟩)]] w fun e w' => e = .returned (.int .i64 (pcs L : Int)) ∧ Below g w w' := by
  have Hok := hide hok
  have Hn := hide hn
  have HR := hide hr
  clear hok hn hr
  go_enter Try.func108, Try.ntmps108
  go_wp2_with fail
  go_loopw [9] (fun i wr => ∃ j : Nat, j ≤ n ∧ i = .int .i64 (j : Int) ∧ Hid (IB wr g (sumL (L.take j)) ∧ pcs L = cntP j (sumL (L.take j)) (L.drop j) + j) ∧ Below g w wr) (fun i _ => n - (intOf i).toNat)
  case atStart => exact ⟨0, by omega, rfl, hide ⟨hI, rfl⟩, Below.refl _ _⟩
  case round =>
    obtain ⟨j, hj, rfl, HI, hb⟩ := hrel
    by_cases hlt : j < n
    · have hltL : j < L.length := by rw [Hn.out]; exact hlt
      have z0 : (j : Int) < n := by omega
      have zj : (0 : Int) ≤ j := by omega
      have hgr : g ≤ wr.heap.size := Nat.le_trans hg hb.size
      obtain ⟨bb, bo, rfl, hB, hC⟩ := RO.cell (HR.out.below hb) (by omega)
      have hBr : bb < wr.heap.size := by omega
      obtain ⟨d0, d1, d2, d3, d4⟩ := hC j hltL
      obtain ⟨x, hx⟩ : ∃ x, L[j] = x := ⟨_, rfl⟩
      rw [hx] at d0 d1 d2 d3 d4
      have hxm : x ∈ L := by rw [← hx]; exact List.getElem_mem hltL
      have hox := Hok.out x hxm
      obtain ⟨wx, hwx, FX, hsx, hbx⟩ := five_fb wr (.int .u8 x.k) (.int .u32 x.t) (.int .u8 x.r) (.slice x.A x.p.length x.c) (.int .i64 x.z)
      have hbxg : Below g wr wx := hbx.mono hgr
      have hrx : RR wx g x.A x.p := RD.below ((HR.out.below hb).2 x hxm) hbxg
      have Htake := hide (show L.take (j + 1) = L.take j ++ [x] by rw [List.take_succ_eq_append_getElem hltL, hx])
      have Hdrop := hide (show L.drop j = x :: L.drop (j + 1) by rw [← hx]; exact List.drop_eq_getElem_cons hltL)
      obtain ⟨y0, y1, y2, y3, y4⟩ := FX.cells
      have Hx := hide (And.intro hxm hox)
      have htl := sumL_le (L.take j) fun q hq => Hok.out q (List.mem_of_mem_take hq)
      have hP := hide (piece1_ok j x x.p.length g _ wx hrx rfl hox (HI.out.1.below hbx) (by rw [List.length_take] at htl; omega))
      have hsn : sumL (L.take j) + szO x = sumL (L.take (j + 1)) := by rw [Htake.out, sumL_snoc]
      have HQ := hide (HI.out.2)
      rw [Hdrop.out] at HQ
      unfold cntP at HQ
      rw [hsn] at hP HQ
      clear htl hsn
      clear hC hx FX hrx hxm hox
      by_cases hc : j < 64 ∧ (j = 0 ∨ sumL (L.take (j + 1)) ≤ 8192)
      · rw [decide_eq_true hc] at hP
        rw [if_pos hc] at HQ
        clear hc
        go_wp2_with fail
        refine hP.out.mono ?_
        rintro e w2 ⟨rfl, hI2, hb2⟩
        have hb02 : Below g w w2 := hb.trans (hbxg.trans hb2)
        have HI2 := hide hI2
        clear y0 y1 y2 y3 y4 d0 d1 d2 d3 d4 hI2
        go_wp2_with fail
        go_roundw
        case rel => exact ⟨j + 1, by omega, by go_num, hide ⟨HI2.out, by rw [HQ.out]; omega⟩, hb02⟩
        case measure => simp [intOf]; omega
      · rw [decide_eq_false hc] at hP
        rw [if_neg hc] at HQ
        clear hc
        go_wp2_with fail
        refine hP.out.mono ?_
        rintro e w2 ⟨rfl, hI2, hb2⟩
        have hb02 : Below g w w2 := hb.trans (hbxg.trans hb2)
        clear y0 y1 y2 y3 y4 d0 d1 d2 d3 d4 hI2
        go_wp2_with fail
        go_ret
        exact ⟨by rw [HQ.out, Nat.zero_add]; rfl, hb02⟩
    · have z0 : ¬ (j : Int) < n := by omega
      obtain rfl : j = n := by omega
      go_wp2_with fail
      go_ret
      exact ⟨by rw [HI.out.2, List.drop_eq_nil_of_le (by rw [Hn.out]; omega)]; simp [cntP], hb⟩

set_option maxHeartbeats 800000 in
set_option maxRecDepth 100000 in
theorem wright_any (A : Option Addr) (n c : Nat) (L : List OpL) (w : World) (hr : RO w w.heap.size A L) (hn : L.length = n) (hl : n ≤ 1024) (hok : ∀ x ∈ L, okO x) :
    Calls Try.prog 107 #[.slice A n c] w fun e w' => e = .returned (.int .i64 (allE L)) ∧ Below w.heap.size w w' := by
  have hP := hide (while_right A n c L w w.heap.size hr (Nat.le_refl _) hn hl hok)
  have z1 : ¬ (1024 : Int) < n := by omega
  clear hr hn hl hok
  go_enter Try.func107, Try.ntmps107
  go_wp2_with fail
  refine hP.out.mono ?_
  rintro e w2 ⟨m, rfl, hmn, hm, hb2⟩
  by_cases hmm : (m : Int) < n
  · have Ha := hide (show allE L = 8 from if_neg fun h => by have := hm.2 h; omega)
    clear hm
    go_wp2_with fail
    go_ret
    exact ⟨by rw [Ha.out]; rfl, hb2⟩
  · have Ha := hide (show allE L = 0 from if_pos (hm.1 (by omega)))
    clear hm
    go_wp2_with fail
    go_ret
    exact ⟨by rw [Ha.out]; rfl, hb2⟩
set_option maxHeartbeats 800000 in
set_option maxRecDepth 100000 in
theorem wright_many (A : Option Addr) (n c : Nat) (w : World) (h : 1024 < n) :
    Calls Try.prog 107 #[.slice A n c] w fun e w' => e = .returned (.int .i64 4) ∧ w' = w := by
  have h1 : (1024 : Int) < n := by omega
  clear h
  go_enter Try.func107, Try.ntmps107
  go_wp2_with fail
  go_ret
  exact ⟨rfl, rfl⟩

theorem ib_new (w : World) : ∃ w1, w.alloc (.cells #[.int .i64 0] 3) = w1 ∧ IB w1 w.heap.size 0 ∧ w.heap.size < w1.heap.size ∧ Below w.heap.size w w1 := ⟨_, rfl, heap_alloc_new _ _, by rw [World.size_alloc]; omega, boxed _ _⟩

set_option maxHeartbeats 1600000 in
set_option maxRecDepth 100000 in
theorem wtotal_any (A : Option Addr) (n c : Nat) (L : List OpL) (w : World) (hr : RO w w.heap.size A L) (hn : L.length = n) (hl : n ≤ 1024) (hok : ∀ x ∈ L, okO x) :
    Calls Try.prog 66 #[.slice A n c] w fun e w' => e = .returned (.tuple #[.int .i64 ((if ∀ x ∈ L, mayL x then totL L else 0 : Nat) : Int), .int .i64 (allE L)]) ∧ Below w.heap.size w w' := by
  obtain ⟨w1, hw1, I1, hs1, hb1⟩ := ib_new w
  have HR1 := hide (show RO w1 w.heap.size A L from hr.below hb1)
  have hP := hide (wright_any A n c L w1 (HR1.out.more hb1.size) hn hl hok)
  have hW := hide (fun (W : World) (h : Below w1.heap.size w1 W) => while_total A n c L W w.heap.size (I1.below h) (HR1.out.below (h.mono hb1.size)) (Nat.le_of_lt (Nat.lt_of_lt_of_le hs1 h.size)) hn hl hok)
  have q0 := I1.cell
  have q1 := frozen_of_row w1 w.heap.size 0 _ _ I1
  have HI1 := hide I1
  obtain ⟨gi, hgi⟩ : ∃ g, g = w.heap.size := ⟨_, rfl⟩
  clear hr hn hl hok I1
  by_cases hm : ∀ x ∈ L, mayL x
  · rw [show allE L = 0 from if_pos hm] at hP ⊢
    rw [if_pos hm]
    clear hm
    go_enter Try.func66, Try.ntmps66
    go_wp2_with fail
    refine hP.out.mono ?_
    rintro e w2 ⟨rfl, hb2⟩
    clear q0 q1
    go_wp2_with fail
    refine (unhide hW w2 hb2).mono ?_
    rintro e w3 ⟨rfl, hI3, hb3⟩
    have q0 := hI3.cell
    have q1 := frozen_of_row w3 w.heap.size 0 _ _ hI3
    have q2 := (hI3.set (totL L)).cell
    have Hb : Hid (Below w.heap.size w (w3.setCell ⟨w.heap.size, 0, none⟩ (.int .i64 (totL L : Int)))) := hide (((fresh hb1 hb2).trans hb3).setCell (Nat.le_refl _) _)
    clear hI3
    go_wp2_with fail
    refine bodyPost_ret (v := .tuple #[.int .i64 (totL L : Int), .int .i64 0]) (by simp [results, Try.results66, go_sem, q2]) rfl ⟨rfl, Hb.out⟩
  · rw [show allE L = 8 from if_neg hm] at hP ⊢
    rw [if_neg hm]
    clear hm
    go_enter Try.func66, Try.ntmps66
    go_wp2_with fail
    refine hP.out.mono ?_
    rintro e w2 ⟨rfl, hb2⟩
    have hI3 := HI1.out.below hb2
    clear q0 q1
    have q0 := hI3.cell
    have q1 := frozen_of_row w2 w.heap.size 0 _ _ hI3
    have q2 : (w2.setCell ⟨w.heap.size, 0, none⟩ (.int .i64 0)).cell? ⟨w.heap.size, 0, none⟩ = some (.int .i64 0) := (hI3.set 0).cell
    have Hb : Hid (Below w.heap.size w (w2.setCell ⟨w.heap.size, 0, none⟩ (.int .i64 0))) := hide ((fresh hb1 hb2).setCell (Nat.le_refl _) _)
    clear hI3
    go_wp2_with fail
    refine bodyPost_ret (v := .tuple #[.int .i64 0, .int .i64 8]) (by simp [results, Try.results66, go_sem, q2]) rfl ⟨rfl, Hb.out⟩
set_option maxHeartbeats 1600000 in
set_option maxRecDepth 100000 in
theorem wtotal_many (A : Option Addr) (n c : Nat) (w : World) (h : 1024 < n) :
    Calls Try.prog 66 #[.slice A n c] w fun e w' => e = .returned (.tuple #[.int .i64 0, .int .i64 4]) ∧ Below w.heap.size w w' := by
  obtain ⟨w1, hw1, I1, hs1, hb1⟩ := ib_new w
  have hP := hide (wright_many A n c w1 h)
  have q0 := I1.cell
  have q1 := frozen_of_row w1 w.heap.size 0 _ _ I1
  have q2 : (w1.setCell ⟨w.heap.size, 0, none⟩ (.int .i64 0)).cell? ⟨w.heap.size, 0, none⟩ = some (.int .i64 0) := (I1.set 0).cell
  have Hb : Hid (Below w.heap.size w (w1.setCell ⟨w.heap.size, 0, none⟩ (.int .i64 0))) := hide (hb1.setCell (Nat.le_refl _) _)
  clear h I1
  go_enter Try.func66, Try.ntmps66
  go_wp2_with fail
  refine hP.out.mono ?_
  rintro e w2 ⟨rfl, rfl⟩
  go_wp2_with fail
  refine bodyPost_ret (v := .tuple #[.int .i64 0, .int .i64 4]) (by simp [results, Try.results66, go_sem, q2]) rfl ⟨rfl, Hb.out⟩

set_option maxHeartbeats 1600000 in
set_option maxRecDepth 100000 in
theorem wpiece_any (A : Option Addr) (n c : Nat) (L : List OpL) (w : World) (hr : RO w w.heap.size A L) (hn : L.length = n) (hl : n ≤ 1024) (hc : n ≤ c) (hok : ∀ x ∈ L, okO x) (hnil : ∀ x ∈ L, x.A = none → x.c = 0) :
    Calls Try.prog 67 #[.slice A n c] w fun e w' => ∃ A' c' L', e = .returned (.tuple #[.slice A' (List.length (α := OpL) L') c', .int .i64 (allE L)]) ∧ L'.map OpL.op = (if ∀ x ∈ L, mayL x then L.take (pcs L) else []).map OpL.op ∧ OO w' w.heap.size A' c' L' ∧ Below w.heap.size w w' := by
  have hP := hide (wright_any A n c L w hr hn hl hok)
  have HR := hide hr
  by_cases hm : ∀ x ∈ L, mayL x
  · rw [show allE L = 0 from if_pos hm] at hP ⊢
    rw [if_pos hm]
    have hpl := pcs_le L
    have Hn := hide hn
    have Hok := hide hok
    have Hnil := hide hnil
    clear hm hr hok hnil hn
    go_enter Try.func67, Try.ntmps67
    go_wp2_with fail
    refine hP.out.mono ?_
    rintro e w2 ⟨rfl, hb2⟩
    obtain ⟨w3, hw3, I3, hs3, hb3⟩ := ib_new w2
    have I3' := I3.set 0
    have q0 := I3.cell
    have q1 := frozen_of_row w3 w2.heap.size 0 _ _ I3
    have hb3' : Below w2.heap.size w2 (w3.setCell ⟨w2.heap.size, 0, none⟩ (.int .i64 ((0 : Nat) : Int))) := hb3.setCell (Nat.le_refl _) _
    have hW := hide (while_piece A n c L _ w2.heap.size I3' (((HR.out.below hb2).more hb2.size).below hb3') (Nat.le_of_lt I3'.lt) Hn.out hl Hok.out)
    have hb03 := hide (fresh hb2 hb3')
    clear I3 I3' hP hb3' hb3
    go_wp2_with fail
    refine hW.out.mono ?_
    rintro e w4 ⟨rfl, hb4⟩
    have hb04 : Below w.heap.size w w4 := hb03.out.trans (hb4.mono hb2.size)
    obtain ⟨P, hP⟩ : ∃ P, P = pcs L := ⟨_, rfl⟩
    have HP := hide hP
    rw [← hP] at hpl ⊢
    have z1 : (0 : Int) ≤ P := by omega
    have hPn : P ≤ n := by rw [← Hn.out]; exact hpl
    have z2 : (P : Int) ≤ c := by omega
    clear hw3 q0 q1 hW hb03 hP hpl
    go_wp2_with fail
    go_loopw [7, 22] (fun v i wr => ∃ (j : Nat) (A' : Option Addr) (c' : Nat) (L' : List OpL), j ≤ P ∧ i = .int .i64 (j : Int) ∧ v = .slice A' j c' ∧ Hid (L'.length = j) ∧ Hid (L'.map OpL.op = (L.take j).map OpL.op) ∧ Hid (OO wr w.heap.size A' c' L') ∧ Below w.heap.size w wr) (fun _ i _ => P - (intOf i).toNat)
    case atStart => exact ⟨0, none, 0, [], by omega, rfl, rfl, hide rfl, hide rfl, hide (OO.nil _ _), hb04⟩
    case round =>
      obtain ⟨j, A', c', L', hj, rfl, rfl, hLl, hLm, hOO, hb⟩ := hrel
      by_cases hlt : j < P
      · have z0 : (j : Int) < P := by omega
        have zj : (0 : Int) ≤ j := by omega
        have hltL : j < L.length := by rw [Hn.out]; omega
        obtain ⟨b0, o0, rfl, hB0, hC0⟩ := RO.cell (HR.out.below hb) (by omega)
        obtain ⟨x, hx⟩ : ∃ x, L[j] = x := ⟨_, rfl⟩
        obtain ⟨d0, d1, d2, d3, d4⟩ := hC0 j hltL
        rw [hx] at d0 d1 d2 d3 d4
        have hxm : x ∈ L := by rw [← hx]; exact List.getElem_mem hltL
        obtain ⟨wx, hwx, FX, hsx, hbx⟩ := five_fb wr (.int .u8 x.k) (.int .u32 x.t) (.int .u8 x.r) (.slice x.A x.p.length x.c) (.int .i64 x.z)
        obtain ⟨y0, y1, y2, y3, y4⟩ := FX.cells
        have hbw := fresh hb hbx
        have T := hide (optwin_any x.k x.t x.r x.z x.A x.p.length x.c x.p wx (((HR.out.below hbw).more hbw.size).2 x hxm) rfl ((Hok.out x hxm).2.2.2) (Hnil.out x hxm))
        have T0 := hide (show (L.take (j + 1)).map OpL.op = (L.take j).map OpL.op ++ [x.op] by rw [List.take_succ_eq_append_getElem hltL, hx, List.map_append]; rfl)
        have HOO1 := hide (hOO.out.below hbx)
        have hBr : b0 < wr.heap.size := by have := hb.size; omega
        clear hC0 hxm hx FX hOO
        go_wp2_with fail
        refine T.out.mono ?_
        rintro e w5 ⟨A2, c2, rfl, -, hown2, hb5⟩
        have hb05 := fresh hbw hb5
        have HOO2 := hide (HOO1.out.below hb5)
        have Hown2 := hide hown2
        clear d0 d1 d2 d3 d4 y0 y1 y2 y3 y4 hown2
        go_wp2_with (at_builtin; refine wpList_append_op _ rfl (.tmp 26) (.tmp 29) rfl w.heap.size A' c' j L' hLl.out rfl (HOO2.out.below (boxed _ _)) ⟨x.k, x.t, x.r, A2, c2, x.p, x.z⟩ (own_less (own_below Hown2.out (boxed _ _) (Nat.le_refl _)) hbw.size) (some ⟨w5.heap.size, 0, none⟩) rfl (op_row w5 ⟨x.k, x.t, x.r, A2, c2, x.p, x.z⟩) (by omega) (Nat.le_trans hb05.size (boxed w5 _).size) ?_; intro A3 c3 w6 hOO3 hb6 hk6)
        go_roundw
        case rel =>
          refine ⟨j + 1, A3, c3, L' ++ [⟨x.k, x.t, x.r, A2, c2, x.p, x.z⟩], by omega, by go_num, rfl, hide ?_, hide ?_, hide hOO3, (fresh hb05 (boxed w5 _)).trans hb6⟩
          · rw [List.length_append, hLl.out]; rfl
          · rw [T0.out, List.map_append, hLm.out]; rfl
        case measure => simp [intOf]; omega
      · have z0 : ¬ (j : Int) < P := by omega
        obtain rfl : j = P := by omega
        go_wp2_with fail
        refine bodyPost_ret (v := .tuple #[.slice A' j c', .int .i64 0]) (by simp [results, Try.results67, go_sem]) rfl ?_
        exact ⟨A', c', L', by rw [hLl.out], by rw [hLm.out, HP.out, List.map_take], hOO.out, hb⟩
  · rw [show allE L = 8 from if_neg hm] at hP ⊢
    rw [if_neg hm]
    clear hm hr hn hl hok hnil hc
    go_enter Try.func67, Try.ntmps67
    go_wp2_with fail
    refine hP.out.mono ?_
    rintro e w2 ⟨rfl, hb2⟩
    go_wp2_with fail
    refine bodyPost_ret (v := .tuple #[.slice none 0 0, .int .i64 8]) (by simp [results, Try.results67, go_sem]) rfl ?_
    exact ⟨none, 0, [], rfl, rfl, OO.nil _ _, hb2⟩
set_option maxHeartbeats 800000 in
set_option maxRecDepth 100000 in
theorem wpiece_many (A : Option Addr) (n c : Nat) (w : World) (h : 1024 < n) :
    Calls Try.prog 67 #[.slice A n c] w fun e w' => e = .returned (.tuple #[.slice none 0 0, .int .i64 4]) ∧ w' = w := by
  have hP := hide (wright_many A n c w h)
  clear h
  go_enter Try.func67, Try.ntmps67
  go_wp2_with fail
  refine hP.out.mono ?_
  rintro e w2 ⟨rfl, rfl⟩
  go_wp2_with fail
  refine bodyPost_ret (v := .tuple #[.slice none 0 0, .int .i64 4]) (by simp [results, Try.results67, go_sem]) rfl ⟨rfl, rfl⟩
end Go.Proofs.Ytbjfmkdjnglgbaa
