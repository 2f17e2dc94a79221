/-
  What octavoref18's Size, Bytes, right, Content, Total, First and Piece do. Condition: parts of their types, operations with fewer than 2^30 runs, at most 1024 operations.
-/
import Derived.Test.YtbjfmkdjnglgbaaWeighMath
import Derived.Test.YtbjfmkdjnglgbaaListRef
import Derived.Test.YtbjfmkdjnglgbaaCodeRefWrite
namespace Go.Proofs.Ytbjfmkdjnglgbaa
open Go.RowKit

theorem own_lessO {w : World} {base B : Nat} {A : Option Addr} {c : Nat} {L : List OpL} (h : OO w base A c L) (hB : B ≤ base) : OO w B A c L := ⟨own_less h.1 hB, fun x hx => own_less (h.2 x hx) hB⟩

set_option maxHeartbeats 1600000 in
set_option maxRecDepth 100000 in
theorem rsize_ok (x : OpL) (n : Nat) (w : World) (hr : RR w w.heap.size x.A x.p) (hn : x.p.length = n) (hok : okO x) (hm : mayL x) :
    Calls Try.prog 111 #[opv x.k x.t x.r x.A n x.c x.z] w fun e w' => e = .returned (.int .i64 (szO x : Int)) ∧ Below w.heap.size w w' := by
  obtain ⟨w1, hw1, F1, hs1, hb1⟩ := five_fb w (.int .u8 x.k) (.int .u32 x.t) (.int .u8 x.r) (.slice x.A n x.c) (.int .i64 x.z)
  have hP := hide (crefbytes_ok x.k x.t x.r x.z x.A n x.c x.p w1 (hr.below' hb1) hn hok.2.2.1 hm hok.2.1)
  have Hs := hide (show (opB x.k x.t x.r x.p x.z).length = szO x from (szO_may hm).symm)
  obtain ⟨o0, o1, o2, o3, o4⟩ := F1.cells
  rw [Hs.out] at hP
  clear hr hn hok hm F1
  go_enter Try.func111, Try.ntmps111
  go_wp2_with fail
  refine hP.out.mono ?_
  rintro e w2 ⟨v, rfl, hown, hb2⟩
  obtain ⟨A2, c2, rfl, -, -, -⟩ := own_slice hown
  clear hown
  go_wp2_with fail
  go_ret
  exact ⟨rfl, fresh hb1 hb2⟩

set_option maxHeartbeats 1600000 in
set_option maxRecDepth 100000 in
theorem rbytes_any (x : OpL) (n : Nat) (w : World) (hr : RR w w.heap.size x.A x.p) (hn : x.p.length = n) (hok : okO x) :
    Calls Try.prog 70 #[opv x.k x.t x.r x.A n x.c x.z] w fun e w' => e = .returned (.tuple #[.int .i64 (szO x : Int), .int .i64 (chkO x.k x.t x.r x.p x.z)]) ∧ Below w.heap.size w w' := by
  obtain ⟨w1, hw1, F1, hs1, hb1⟩ := five_fb w (.int .u8 x.k) (.int .u32 x.t) (.int .u8 x.r) (.slice x.A n x.c) (.int .i64 x.z)
  have hM := hide (refmayo_any x.k x.t x.r x.z x.A n x.c x.p w1 (hr.below' hb1) hn hok.2.2.1)
  have HR1 := hide (hr.below' hb1)
  have HF1 := hide F1
  obtain ⟨o0, o1, o2, o3, o4⟩ := F1.cells
  by_cases hm : mayO x.k x.t x.r x.p x.z
  · rw [decide_eq_true hm] at hM
    have hP := hide (fun (W : World) h => rsize_ok x n W h hn hok hm)
    have Hc := hide (show chkO x.k x.t x.r x.p x.z = 0 from if_pos hm)
    clear hr hn hok hm F1
    go_enter Try.func70, Try.ntmps70
    go_wp2_with fail
    refine hM.out.mono ?_
    rintro e w2 ⟨rfl, hb2⟩
    clear o0 o1 o2 o3 o4
    obtain ⟨o0, o1, o2, o3, o4⟩ := (HF1.out.below hb2).cells
    go_wp2_with fail
    refine (unhide hP w2 (RR.below' HR1.out hb2)).mono ?_
    rintro e w3 ⟨rfl, hb3⟩
    go_wp2_with fail
    refine bodyPost_ret (v := .tuple #[.int .i64 (szO x : Int), .int .i64 0]) (by simp [results, Try.results70, go_sem]) rfl ⟨by rw [Hc.out], fresh (fresh hb1 hb2) hb3⟩
  · rw [decide_eq_false hm] at hM
    have Hc := hide (And.intro (show chkO x.k x.t x.r x.p x.z = 8 from if_neg hm) (show szO x = 0 by unfold szO; rw [show putB x.k x.t x.r x.p x.z = [] from if_neg hm]; rfl))
    clear hr hn hok hm F1
    go_enter Try.func70, Try.ntmps70
    go_wp2_with fail
    refine hM.out.mono ?_
    rintro e w2 ⟨rfl, hb2⟩
    go_wp2_with fail
    refine bodyPost_ret (v := .tuple #[.int .i64 0, .int .i64 8]) (by simp [results, Try.results70, go_sem]) rfl ⟨by rw [Hc.out.1, Hc.out.2]; rfl, fresh hb1 hb2⟩

set_option maxHeartbeats 1600000 in
set_option maxRecDepth 100000 in
theorem rright_any (A : Option Addr) (n c : Nat) (L : List OpL) (w : World) (hr : RO w w.heap.size A L) (hn : L.length = n) (hl : n ≤ 1024) (hok : ∀ x ∈ L, okO x) :
    Calls Try.prog 112 #[.slice A n c] w fun e w' => e = .returned (.int .i64 (allE L)) ∧ Below w.heap.size w w' := by
  have Hok := hide hok
  have Hn := hide hn
  have HR := hide hr
  clear hok hn hr
  have z9 : ¬ (1024 : Int) < n := by omega
  go_enter Try.func112, Try.ntmps112
  go_wp2_with fail
  go_loopw [3] (fun i wr => ∃ j : Nat, j ≤ n ∧ i = .int .i64 (j : Int) ∧ Hid (∀ x ∈ L.take j, mayL x) ∧ Below w.heap.size w wr) (fun i _ => n - (intOf i).toNat)
  case atStart => exact ⟨0, by omega, rfl, hide (fun x hx => by cases hx), Below.refl _ _⟩
  case round =>
    obtain ⟨j, hj, rfl, HM, hb⟩ := hrel
    by_cases hlt : j < n
    · have hltL : j < L.length := by rw [Hn.out]; exact hlt
      have z0 : (j : Int) < n := by omega
      have zj : (0 : Int) ≤ j := by omega
      obtain ⟨bb, bo, rfl, hB, hC⟩ := RO.cell (HR.out.below hb) (by omega)
      obtain ⟨d0, d1, d2, d3, d4⟩ := hC j hltL
      obtain ⟨x, hx⟩ : ∃ x, L[j] = x := ⟨_, rfl⟩
      rw [hx] at d0 d1 d2 d3 d4
      have hxm : x ∈ L := by rw [← hx]; exact List.getElem_mem hltL
      have hox := Hok.out x hxm
      have Htake := hide (show L.take (j + 1) = L.take j ++ [x] by rw [List.take_succ_eq_append_getElem hltL, hx])
      have hP := hide (refmayo_any x.k x.t x.r x.z x.A x.p.length x.c x.p wr (((HR.out.below hb).more hb.size).2 x hxm) rfl hox.2.2.1)
      have Hx := hide hxm
      clear hC hx hxm hox
      by_cases hm : mayO x.k x.t x.r x.p x.z
      · rw [decide_eq_true hm] at hP
        have Hm := hide hm
        clear hm
        go_wp2_with fail
        refine hP.out.mono ?_
        rintro e w2 ⟨rfl, hb2⟩
        have hb02 := fresh hb hb2
        clear d0 d1 d2 d3 d4
        go_wp2_with fail
        go_roundw
        case rel =>
          refine ⟨j + 1, by omega, by go_num, hide fun q hq => ?_, hb02⟩
          rw [Htake.out] at hq
          rcases List.mem_append.1 hq with h | h
          · exact HM.out q h
          · simp only [List.mem_singleton] at h
            subst h
            exact Hm.out
        case measure => simp [intOf]; omega
      · rw [decide_eq_false hm] at hP
        have Hne := hide (show allE L = 8 from if_neg fun h => hm (h x Hx.out))
        clear hm
        go_wp2_with fail
        refine hP.out.mono ?_
        rintro e w2 ⟨rfl, hb2⟩
        clear d0 d1 d2 d3 d4
        go_wp2_with fail
        go_ret
        exact ⟨by rw [Hne.out]; rfl, fresh hb hb2⟩
    · have z0 : ¬ (j : Int) < n := by omega
      have Ha := hide (show allE L = 0 from if_pos (by have := HM.out; rwa [List.take_of_length_le (by rw [Hn.out]; omega)] at this))
      go_wp2_with fail
      go_ret
      exact ⟨by rw [Ha.out]; rfl, hb⟩

set_option maxHeartbeats 1600000 in
set_option maxRecDepth 100000 in
theorem rright_many (A : Option Addr) (n c : Nat) (w : World) (h : 1024 < n) :
    Calls Try.prog 112 #[.slice A n c] w fun e w' => e = .returned (.int .i64 4) ∧ w' = w := by
  have h1 : (1024 : Int) < n := by omega
  clear h
  go_enter Try.func112, Try.ntmps112
  go_wp2_with fail
  go_ret
  exact ⟨rfl, rfl⟩

set_option maxHeartbeats 1600000 in
set_option maxRecDepth 100000 in
theorem rcontent_any (A : Option Addr) (n c : Nat) (L : List OpL) (w : World) (hr : RO w w.heap.size A L) (hn : L.length = n) (hl : n ≤ 1024) (hok : ∀ x ∈ L, okO x) (hm : ∀ x ∈ L, mayL x) :
    Calls Try.prog 113 #[.slice A n c] w fun e w' => e = .returned (.int .i64 (totL L : Int)) ∧ Below w.heap.size w w' := by
  have Hok := hide hok
  have Hn := hide hn
  have HR := hide hr
  clear hok hn hr
  have HM := hide hm
  clear hm
  go_enter Try.func113, Try.ntmps113
  go_wp2_with fail
  go_loopw [3, 4] (fun s i wr => ∃ j : Nat, j ≤ n ∧ i = .int .i64 (j : Int) ∧ s = .int .i64 (totL (L.take j) : Int) ∧ Below w.heap.size w wr) (fun _ i _ => n - (intOf i).toNat)
  case atStart => exact ⟨0, by omega, rfl, rfl, Below.refl _ _⟩
  case round =>
    obtain ⟨j, hj, rfl, rfl, hb⟩ := hrel
    by_cases hlt : j < n
    · have hltL : j < L.length := by rw [Hn.out]; exact hlt
      have z0 : (j : Int) < n := by omega
      have zj : (0 : Int) ≤ j := by omega
      obtain ⟨bb, bo, rfl, hB, hC⟩ := RO.cell (HR.out.below hb) (by omega)
      obtain ⟨d0, d1, d2, d3, d4⟩ := hC j hltL
      obtain ⟨x, hx⟩ : ∃ x, L[j] = x := ⟨_, rfl⟩
      rw [hx] at d0 d1 d2 d3 d4
      have hxm : x ∈ L := by rw [← hx]; exact List.getElem_mem hltL
      have hox := Hok.out x hxm
      have Htake := hide (show L.take (j + 1) = L.take j ++ [x] by rw [List.take_succ_eq_append_getElem hltL, hx])
      have hP := hide (fun (W : World) (h : Below w.heap.size w W) => rsize_ok x x.p.length W (((HR.out.below h).more h.size).2 x hxm) rfl hox (HM.out x hxm))
      have HC := hide (refcontent_ok x.k x.t x.r x.z x.A x.p.length x.c wr)
      have htl := totL_le (L.take j) fun q hq => Hok.out q (List.mem_of_mem_take hq)
      rw [List.length_take] at htl
      have hsz := szO_le hox
      have Ht := hide (show totL (L.take (j + 1)) = totL (L.take j) + conO x by rw [Htake.out, totL_snoc])
      obtain ⟨TT, hTT⟩ : ∃ t, t = totL (L.take j) := ⟨_, rfl⟩
      rw [← hTT] at htl Ht ⊢
      clear hC hx hxm hox hTT
      by_cases hk : x.k = 1 ∨ x.k = 3
      · rw [decide_eq_true hk] at HC
        have Hc := hide (show conO x = szO x from if_pos hk)
        clear hk
        go_wp2_with fail
        refine HC.out.mono ?_
        rintro e w2 ⟨rfl, hb2⟩
        have hb02 := fresh hb hb2
        have d0 := keep_cell hb2 (Nat.lt_of_lt_of_le hB hb.size) d0
        have d1 := keep_cell hb2 (Nat.lt_of_lt_of_le hB hb.size) d1
        have d2 := keep_cell hb2 (Nat.lt_of_lt_of_le hB hb.size) d2
        have d3 := keep_cell hb2 (Nat.lt_of_lt_of_le hB hb.size) d3
        have d4 := keep_cell hb2 (Nat.lt_of_lt_of_le hB hb.size) d4
        go_wp2_with fail
        refine (unhide hP w2 hb02).mono ?_
        rintro e w3 ⟨rfl, hb3⟩
        clear d0 d1 d2 d3 d4
        go_wp2_with fail
        go_roundw
        case rel => exact ⟨j + 1, by omega, by go_num, by rw [Ht.out, Hc.out]; go_num, fresh hb02 hb3⟩
        case measure => simp [intOf]; omega
      · rw [decide_eq_false hk] at HC
        have Hc := hide (show conO x = 0 from if_neg hk)
        clear hk
        go_wp2_with fail
        refine HC.out.mono ?_
        rintro e w2 ⟨rfl, hb2⟩
        clear d0 d1 d2 d3 d4
        go_wp2_with fail
        go_roundw
        case rel => exact ⟨j + 1, by omega, by go_num, by rw [Ht.out, Hc.out]; go_num, fresh hb hb2⟩
        case measure => simp [intOf]; omega
    · have z0 : ¬ (j : Int) < n := by omega
      rw [List.take_of_length_le (by rw [Hn.out]; omega)]
      go_wp2_with fail
      go_ret
      exact ⟨rfl, hb⟩

set_option maxHeartbeats 1600000 in
set_option maxRecDepth 100000 in
theorem rtotal_any (A : Option Addr) (n c : Nat) (L : List OpL) (w : World) (hr : RO w w.heap.size A L) (hn : L.length = n) (hl : n ≤ 1024) (hok : ∀ x ∈ L, okO x) :
    Calls Try.prog 71 #[.slice A n c] w fun e w' => e = .returned (.tuple #[.int .i64 ((if ∀ x ∈ L, mayL x then totL L else 0 : Nat) : Int), .int .i64 (allE L)]) ∧ Below w.heap.size w w' := by
  have hP := hide (rright_any A n c L w hr hn hl hok)
  by_cases hm : ∀ x ∈ L, mayL x
  · rw [show allE L = 0 from if_pos hm] at hP ⊢
    rw [if_pos hm]
    have hT := hide (fun (W : World) (h : Below w.heap.size w W) => rcontent_any A n c L W ((hr.below h).more h.size) hn hl hok hm)
    clear hm hr hn hl hok
    go_enter Try.func71, Try.ntmps71
    go_wp2_with fail
    refine hP.out.mono ?_
    rintro e w2 ⟨rfl, hb2⟩
    go_wp2_with fail
    refine (unhide hT w2 hb2).mono ?_
    rintro e w3 ⟨rfl, hb3⟩
    go_wp2_with fail
    refine bodyPost_ret (v := .tuple #[.int .i64 (totL L : Int), .int .i64 0]) (by simp [results, Try.results71, go_sem]) rfl ⟨rfl, fresh hb2 hb3⟩
  · rw [show allE L = 8 from if_neg hm] at hP ⊢
    rw [if_neg hm]
    clear hm hr hn hl hok
    go_enter Try.func71, Try.ntmps71
    go_wp2_with fail
    refine hP.out.mono ?_
    rintro e w2 ⟨rfl, hb2⟩
    go_wp2_with fail
    refine bodyPost_ret (v := .tuple #[.int .i64 0, .int .i64 8]) (by simp [results, Try.results71, go_sem]) rfl ⟨rfl, hb2⟩

set_option maxHeartbeats 1600000 in
set_option maxRecDepth 100000 in
theorem rtotal_many (A : Option Addr) (n c : Nat) (w : World) (h : 1024 < n) :
    Calls Try.prog 71 #[.slice A n c] w fun e w' => e = .returned (.tuple #[.int .i64 0, .int .i64 4]) ∧ w' = w := by
  have hP := hide (rright_many A n c w h)
  clear h
  go_enter Try.func71, Try.ntmps71
  go_wp2_with fail
  refine hP.out.mono ?_
  rintro e w2 ⟨rfl, rfl⟩
  go_wp2_with fail
  refine bodyPost_ret (v := .tuple #[.int .i64 0, .int .i64 4]) (by simp [results, Try.results71, go_sem]) rfl ⟨rfl, rfl⟩

set_option maxHeartbeats 1600000 in
set_option maxRecDepth 100000 in
theorem rpiece_many (A : Option Addr) (n c : Nat) (w : World) (h : 1024 < n) :
    Calls Try.prog 72 #[.slice A n c] w fun e w' => e = .returned (.tuple #[.slice none 0 0, .int .i64 4]) ∧ w' = w := by
  have hP := hide (rright_many A n c w h)
  clear h
  go_enter Try.func72, Try.ntmps72
  go_wp2_with fail
  refine hP.out.mono ?_
  rintro e w2 ⟨rfl, rfl⟩
  go_wp2_with fail
  refine bodyPost_ret (v := .tuple #[.slice none 0 0, .int .i64 4]) (by simp [results, Try.results72, go_sem]) rfl ⟨rfl, rfl⟩

set_option maxHeartbeats 1600000 in
set_option maxRecDepth 100000 in
theorem rfirst_any (A : Option Addr) (n c : Nat) (L : List OpL) (w : World) (hr : RO w w.heap.size A L) (hn : L.length = n) (hl : n ≤ 1024) (hok : ∀ x ∈ L, okO x) (hc : n ≤ c) (hm : ∀ x ∈ L, mayL x) :
    Calls Try.prog 114 #[.slice A n c] w fun e w' => e = .returned (.slice A (pcs L) c) ∧ Below w.heap.size w w' := by
  have Hok := hide hok
  have Hn := hide hn
  have HR := hide hr
  clear hok hn hr
  have HM := hide hm
  have hpl := pcs_le L
  rw [Hn.out] at hpl
  clear hm
  go_enter Try.func114, Try.ntmps114
  go_wp2_with fail
  go_loopw [3, 4] (fun i s wr => ∃ j : Nat, j ≤ n ∧ j ≤ 64 ∧ i = .int .i64 (j : Int) ∧ s = .int .i64 (sumL (L.take j) : Int) ∧ Hid (pcs L = cntP j (sumL (L.take j)) (L.drop j) + j) ∧ Below w.heap.size w wr) (fun i _ _ => n - (intOf i).toNat)
  case atStart => exact ⟨0, by omega, by omega, rfl, rfl, hide rfl, Below.refl _ _⟩
  case round =>
    obtain ⟨j, hj, h64, rfl, rfl, HQ, hb⟩ := hrel
    by_cases hlt' : j < n ∧ j < 64
    · obtain ⟨hlt, h64'⟩ := hlt'
      have z64 : (j : Int) < 64 := by omega
      have hltL : j < L.length := by rw [Hn.out]; exact hlt
      have z0 : (j : Int) < n := by omega
      have zj : (0 : Int) ≤ j := by omega
      obtain ⟨bb, bo, rfl, hB, hC⟩ := RO.cell (HR.out.below hb) (by omega)
      obtain ⟨d0, d1, d2, d3, d4⟩ := hC j hltL
      obtain ⟨x, hx⟩ : ∃ x, L[j] = x := ⟨_, rfl⟩
      rw [hx] at d0 d1 d2 d3 d4
      have hxm : x ∈ L := by rw [← hx]; exact List.getElem_mem hltL
      have hox := Hok.out x hxm
      have Htake := hide (show L.take (j + 1) = L.take j ++ [x] by rw [List.take_succ_eq_append_getElem hltL, hx])
      have hP := hide (rsize_ok x x.p.length wr (((HR.out.below hb).more hb.size).2 x hxm) rfl hox (HM.out x hxm))
      have htl := sumL_le (L.take j) fun q hq => Hok.out q (List.mem_of_mem_take hq)
      rw [List.length_take] at htl
      have hsz := szO_le hox
      have Ht := hide (show sumL (L.take (j + 1)) = sumL (L.take j) + szO x by rw [Htake.out, sumL_snoc])
      have Hdrop := hide (show L.drop j = x :: L.drop (j + 1) by rw [← hx]; exact List.drop_eq_getElem_cons hltL)
      have HQ1 := HQ
      rw [Hdrop.out] at HQ1
      unfold cntP at HQ1
      rw [← Ht.out] at HQ1
      obtain ⟨TT, hTT⟩ : ∃ t, t = sumL (L.take j) := ⟨_, rfl⟩
      rw [← hTT] at htl Ht ⊢
      clear hC hx hxm hox hTT HQ
      by_cases hover : 8192 < TT + szO x ∧ 0 < j
      · have zo : (8192 : Int) < (TT : Int) + (szO x : Int) := by omega
        have zj2 : (0 : Int) < j := by omega
        have Hp := hide (show pcs L = j by
          have := HQ1.out
          rw [if_neg (by rw [Ht.out]; omega)] at this
          omega)
        have z3 : (j : Int) ≤ c := by omega
        clear HQ1
        go_wp2_with fail
        refine hP.out.mono ?_
        rintro e w2 ⟨rfl, hb2⟩
        clear d0 d1 d2 d3 d4
        go_wp2_with fail
        go_ret
        exact ⟨by rw [Hp.out]; rfl, fresh hb hb2⟩
      · have Hq := hide (show pcs L = cntP (j + 1) (sumL (L.take (j + 1))) (L.drop (j + 1)) + (j + 1) by
          have := HQ1.out
          rw [if_pos ⟨by omega, by rw [Ht.out]; omega⟩] at this
          omega)
        clear HQ1
        go_wp2_with fail
        refine hP.out.mono ?_
        rintro e w2 ⟨rfl, hb2⟩
        have hb02 := fresh hb hb2
        clear d0 d1 d2 d3 d4
        by_cases zo : (8192 : Int) < (TT : Int) + (szO x : Int)
        · exfalso
          have hj0 : j = 0 := by omega
          rw [hj0] at htl
          simp only [Nat.zero_min, Nat.mul_zero] at htl
          omega
        · go_wp2_with fail
          go_roundw
          case rel => exact ⟨j + 1, by omega, by omega, by go_num, by rw [Ht.out]; go_num, Hq, hb02⟩
          case measure => simp [intOf]; omega
    · have Hp := hide (show pcs L = j by
        have := HQ.out
        rcases Nat.lt_or_ge j n with h | h
        · have hltL : j < L.length := by rw [Hn.out]; exact h
          rw [List.drop_eq_getElem_cons hltL] at this
          unfold cntP at this
          rw [if_neg (by omega)] at this
          omega
        · rw [List.drop_eq_nil_of_le (by rw [Hn.out]; omega)] at this
          simp only [cntP] at this
          omega)
      have z1 : (0 : Int) ≤ j := by omega
      have z3 : (j : Int) ≤ c := by omega
      clear HQ
      by_cases h : (j : Int) < n
      · have z64 : ¬ (j : Int) < 64 := by omega
        go_wp2_with fail
        go_ret
        exact ⟨by rw [Hp.out]; rfl, hb⟩
      · go_wp2_with fail
        go_ret
        exact ⟨by rw [Hp.out]; rfl, hb⟩

set_option maxHeartbeats 1600000 in
set_option maxRecDepth 100000 in
theorem rpiece_any (A : Option Addr) (n c : Nat) (L : List OpL) (w : World) (hr : RO w w.heap.size A L) (hn : L.length = n) (hl : n ≤ 1024) (hok : ∀ x ∈ L, okO x) (hc : n ≤ c) :
    Calls Try.prog 72 #[.slice A n c] w fun e w' => ∃ A' c' L', e = .returned (.tuple #[.slice A' (List.length (α := OpL) L') c', .int .i64 (allE L)]) ∧ L'.map OpL.op = (if ∀ x ∈ L, mayL x then L.take (pcs L) else []).map OpL.op ∧ OO w' w.heap.size A' c' L' ∧ Below w.heap.size w w' := by
  have hP := hide (rright_any A n c L w hr hn hl hok)
  by_cases hm : ∀ x ∈ L, mayL x
  · rw [show allE L = 0 from if_pos hm] at hP ⊢
    rw [if_pos hm]
    have hT := hide (fun (W : World) (h : Below w.heap.size w W) => rfirst_any A n c L W ((hr.below h).more h.size) hn hl hok hc hm)
    have hlt : (L.take (pcs L)).length = pcs L := by rw [List.length_take, Nat.min_eq_left (pcs_le L)]
    have hmx := pcs_max L
    have hW := hide (fun (W : World) (h : Below w.heap.size w W) => listtwin_any A (pcs L) c (L.take (pcs L)) W (((hr.below h).more h.size).less (pcs_le L)) hlt (fun x hx => by have := (hok x (List.mem_of_mem_take hx)).2.2.2; omega) (by omega))
    have Hlt := hide hlt
    clear hm hr hn hl hok hlt hmx hc
    go_enter Try.func72, Try.ntmps72
    go_wp2_with fail
    refine hP.out.mono ?_
    rintro e w2 ⟨rfl, hb2⟩
    go_wp2_with fail
    refine (unhide hT w2 hb2).mono ?_
    rintro e w3 ⟨rfl, hb3⟩
    have hb03 := fresh hb2 hb3
    go_wp2_with fail
    refine (unhide hW w3 hb03).mono ?_
    rintro e w4 ⟨A4, c4, L4, rfl, hL4, hO4, hb4⟩
    have hb04 := fresh hb03 hb4
    have hl4 : L4.length = pcs L := by
      have := congrArg List.length hL4
      rw [List.length_map, List.length_map, Hlt.out] at this
      exact this
    have HH := hide (And.intro hL4 (And.intro hO4 hl4))
    clear hL4 hO4 hl4
    go_wp2_with fail
    refine bodyPost_ret (v := .tuple #[.slice A4 (pcs L) c4, .int .i64 0]) (by simp [results, Try.results72, go_sem]) rfl ?_
    exact ⟨A4, c4, L4, by rw [HH.out.2.2], HH.out.1, own_lessO HH.out.2.1 hb03.size, hb04⟩
  · rw [show allE L = 8 from if_neg hm] at hP ⊢
    rw [if_neg hm]
    clear hm hr hn hl hok hc
    go_enter Try.func72, Try.ntmps72
    go_wp2_with fail
    refine hP.out.mono ?_
    rintro e w2 ⟨rfl, hb2⟩
    go_wp2_with fail
    refine bodyPost_ret (v := .tuple #[.slice none 0 0, .int .i64 8]) (by simp [results, Try.results72, go_sem]) rfl ?_
    exact ⟨none, 0, [], rfl, rfl, OO.nil _ _, hb2⟩
end Go.Proofs.Ytbjfmkdjnglgbaa
