/-
  Cut off again and again, pieces are all operations: the walk of WeighPieces. Condition: parts of their types.
-/
import Derived.Test.YtbjfmkdjnglgbaaWeighAlive
import Derived.Test.YtbjfmkdjnglgbaaListGreat
import Derived.Test.YtbjfmkdjnglgbaaListRef
namespace Go.Proofs.Ytbjfmkdjnglgbaa
open Go.RowKit

theorem twinP_of {L M : List OpL} (h : L.map OpL.op = M.map OpL.op) {x : OpL} (hx : x ∈ L) : ∃ y ∈ M, y.op = x.op := by
  have h1 : x.op ∈ M.map OpL.op := by rw [← h]; exact List.mem_map_of_mem hx
  obtain ⟨y, hy, e⟩ := List.mem_map.1 h1
  exact ⟨y, hy, e⟩
theorem twinP_okO {L M : List OpL} (h : L.map OpL.op = M.map OpL.op) (hM : ∀ x ∈ M, okO x) : ∀ x ∈ L, okO x := fun x hx => by
  obtain ⟨y, hy, e⟩ := twinP_of h hx
  obtain ⟨e1, e2, e3, e4, e5⟩ := op_eq.1 e
  have := hM y hy
  unfold okO at this ⊢
  rw [← e1, ← e2, ← e3, ← e4]
  exact this
theorem twinP_may {L M : List OpL} (h : L.map OpL.op = M.map OpL.op) (hM : ∀ x ∈ M, mayL x) : ∀ x ∈ L, mayL x := fun x hx => by
  obtain ⟨y, hy, e⟩ := twinP_of h hx
  obtain ⟨e1, e2, e3, e4, e5⟩ := op_eq.1 e
  have := hM y hy
  unfold mayL at this ⊢
  rw [← e1, ← e2, ← e3, ← e4, ← e5]
  exact this
theorem szO_op {x y : OpL} (h : x.op = y.op) : szO x = szO y := by
  obtain ⟨e1, e2, e3, e4, e5⟩ := op_eq.1 h
  unfold szO
  rw [e1, e2, e3, e4, e5]
theorem sumL_op : ∀ {L M : List OpL}, L.map OpL.op = M.map OpL.op → sumL L = sumL M
  | [], [], _ => rfl
  | [], y :: M, h => by simp at h
  | x :: L, [], h => by simp at h
  | x :: L, y :: M, h => by
    simp only [List.map_cons, List.cons.injEq] at h
    simp only [sumL]
    rw [szO_op h.1, sumL_op h.2]
theorem RO.rest {w : World} {B n c k : Nat} {A SA : Option Addr} {L : List OpL} {SC : Nat} (hr : RO w B A L) (hn : L.length = n) (hk : k ≤ n) (hc : n ≤ c) (h : c = k ∧ SA = A ∧ SC = 0 ∨ ¬ c = k ∧ SA = Option.map (fun x => x.add (k * 5)) A ∧ SC = c - k) : RO w B SA (L.drop k) := by
  rcases Nat.lt_or_ge k n with hlt | hge
  · obtain ⟨b0, o0, rfl, -⟩ := RO.cell hr (by omega)
    rcases h with ⟨h1, -, -⟩ | ⟨-, rfl, -⟩
    · omega
    · have e : Option.map (fun x : Addr => x.add (k * 5)) (some ⟨b0, o0, none⟩) = some ⟨b0, o0 + k * 5, none⟩ := by simp [add_none]
      rw [e]
      exact hr.past k
  · rw [List.drop_eq_nil_of_le (by omega)]
    exact ⟨RD.nil_, fun x hx => by cases hx⟩

set_option maxHeartbeats 12800000 in
set_option maxRecDepth 100000 in
theorem weighPieces_walk (A0 : Option Addr) (n0 c0 : Nat) (L : List OpL) (w : World) (hr0 : RO w w.heap.size A0 L) (hn0 : L.length = n0) (hc0 : n0 ≤ c0) (ok0 : ∀ x ∈ L, 0 ≤ x.k ∧ okI (x.t, x.r) ∧ (∀ y ∈ x.p, okR y)) (hnil : ∀ x ∈ L, x.A = none → x.c = 0) :
    Calls Try.prog 17 #[.slice A0 n0 c0] w fun e w' => e = .returned (.bool true) ∧ Below w.heap.size w w' := by
  have HR0 := hide hr0
  have Hn0 := hide hn0
  have Ok0 := hide ok0
  have Hnil := hide hnil
  clear hr0 ok0 hn0 hnil
  go_enter Try.func17, Try.ntmps17
  go_wp2_with fail
  refine (walive_ok w).mono ?_
  rintro e w1 ⟨rfl, hb1⟩
  go_wp2_with fail
  refine (great_any A0 n0 c0 120 L w1 ((HR0.out.below hb1).more hb1.size) Hn0.out (fun x hx => (Ok0.out x hx).2.2)).mono ?_
  rintro e w2 ⟨v, rfl, ⟨g, rfl, hg⟩, hb2'⟩
  have hb2 := fresh hb1 hb2'
  cases g with
  | true =>
    clear hg
    go_wp2_with fail
    go_ret
    exact ⟨rfl, hb2⟩
  | false =>
  obtain ⟨hn120, hl100⟩ := hg rfl
  have Hok := hide (show ∀ x ∈ L, okO x from fun x hx => ⟨(Ok0.out x hx).1, (Ok0.out x hx).2.1, (Ok0.out x hx).2.2, by have := hl100 (by omega) x hx; omega⟩)
  have Hl100 := hide (hl100 (by omega))
  have hn9 : n0 ≤ 120 := by omega
  clear hg hl100 hn120
  go_wp2_with fail
  go_loopw [4, 5] (fun s i wr => ∃ j : Nat, j ≤ n0 ∧ i = .int .i64 (j : Int) ∧ s = .int .i64 (totL (L.take j) : Int) ∧ Hid (∀ x ∈ L.take j, mayL x) ∧ Below w.heap.size w wr) (fun _ i _ => n0 - (intOf i).toNat)
  case atStart => exact ⟨0, by omega, rfl, rfl, hide (fun x hx => by cases hx), hb2⟩
  case round =>
    obtain ⟨j, hj, rfl, rfl, HM, hb⟩ := hrel
    by_cases hlt : j < n0
    · have hltL : j < L.length := by rw [Hn0.out]; exact hlt
      have z0 : (j : Int) < n0 := by omega
      have zj : (0 : Int) ≤ j := by omega
      obtain ⟨bb, bo, rfl, hB, hC⟩ := RO.cell (HR0.out.below hb) (by omega)
      obtain ⟨d0, d1, d2, d3, d4⟩ := hC j hltL
      obtain ⟨x, hx⟩ : ∃ x, L[j] = x := ⟨_, rfl⟩
      rw [hx] at d0 d1 d2 d3 d4
      have hxm : x ∈ L := by rw [← hx]; exact List.getElem_mem hltL
      have hox := Hok.out x hxm
      have hP := hide (wbytes_any x x.p.length wr (((HR0.out.below hb).more hb.size).2 x hxm) rfl hox)
      have Htake := hide (show L.take (j + 1) = L.take j ++ [x] by rw [List.take_succ_eq_append_getElem hltL, hx])
      have HCt := hide (fun W => wcontent_ok x.k x.t x.r x.z x.A x.p.length x.c W)
      have htl := totL_le (L.take j) fun q hq => Hok.out q (List.mem_of_mem_take hq)
      rw [List.length_take] at htl
      have hsz := szO_le hox
      have Ht := hide (show totL (L.take (j + 1)) = totL (L.take j) + conO x by rw [Htake.out, totL_snoc])
      obtain ⟨TT, hTT⟩ : ∃ t, t = totL (L.take j) := ⟨_, rfl⟩
      rw [← hTT] at htl Ht ⊢
      clear hC hx hxm hox hTT
      by_cases hm : mayL x
      · rw [show chkO x.k x.t x.r x.p x.z = 0 from if_pos hm] at hP
        have Hm := hide hm
        clear hm
        go_wp2_with fail
        refine hP.out.mono ?_
        rintro e w3 ⟨rfl, hb3⟩
        have hb03 := fresh hb hb3
        have d0 := keep_cell hb3 (Nat.lt_of_lt_of_le hB hb.size) d0
        have d1 := keep_cell hb3 (Nat.lt_of_lt_of_le hB hb.size) d1
        have d2 := keep_cell hb3 (Nat.lt_of_lt_of_le hB hb.size) d2
        have d3 := keep_cell hb3 (Nat.lt_of_lt_of_le hB hb.size) d3
        have d4 := keep_cell hb3 (Nat.lt_of_lt_of_le hB hb.size) d4
        go_wp2_with fail
        by_cases hk : x.k = 1 ∨ x.k = 3
        · refine (unhide HCt w3).mono ?_
          rintro e w4 ⟨rfl, hb4⟩
          rw [decide_eq_true hk]
          have Hcx := hide (show conO x = szO x from if_pos hk)
          have hb04 := fresh hb03 hb4
          clear d0 d1 d2 d3 d4 hk
          go_wp2_with fail
          go_roundw
          case rel =>
            refine ⟨j + 1, by omega, by go_num, ?_, hide fun q hq => ?_, hb04⟩
            · rw [Ht.out, Hcx.out]; go_num
            · rw [Htake.out] at hq
              rcases List.mem_append.1 hq with h | h
              · exact HM.out q h
              · simp only [List.mem_singleton] at h
                subst h
                exact Hm.out
          case measure => simp [intOf]; omega
        · refine (unhide HCt w3).mono ?_
          rintro e w4 ⟨rfl, hb4⟩
          rw [decide_eq_false hk]
          have Hcx := hide (show conO x = 0 from if_neg hk)
          have hb04 := fresh hb03 hb4
          clear d0 d1 d2 d3 d4 hk
          go_wp2_with fail
          go_roundw
          case rel =>
            refine ⟨j + 1, by omega, by go_num, ?_, hide fun q hq => ?_, hb04⟩
            · rw [Ht.out, Hcx.out]; go_num
            · rw [Htake.out] at hq
              rcases List.mem_append.1 hq with h | h
              · exact HM.out q h
              · simp only [List.mem_singleton] at h
                subst h
                exact Hm.out
          case measure => simp [intOf]; omega
      · rw [show chkO x.k x.t x.r x.p x.z = 8 from if_neg hm] at hP
        clear hm
        go_wp2_with fail
        refine hP.out.mono ?_
        rintro e w3 ⟨rfl, hb3⟩
        have hb03 := fresh hb hb3
        clear d0 d1 d2 d3 d4
        go_wp2_with fail
        go_ret
        exact ⟨rfl, hb03⟩
    · have z0 : ¬ (j : Int) < n0 := by omega
      obtain rfl : j = n0 := by omega
      have htk : L.take j = L := List.take_of_length_le (by rw [Hn0.out]; omega)
      rw [htk] at HM ⊢
      have hT := hide (wtotal_any A0 j c0 L wr ((HR0.out.below hb).more hb.size) Hn0.out (by omega) Hok.out)
      rw [if_pos HM.out, show allE L = 0 from if_pos HM.out] at hT
      generalize totL L = TT at hT ⊢
      clear htk
      go_wp2_with fail
      refine hT.out.mono ?_
      rintro e w3 ⟨rfl, hb3⟩
      have hb03 := fresh hb hb3
      clear hT
      go_wp2_with fail
      go_loopw [0, 10] (fun v i wr => ∃ (q i' : Nat) (A1 : Option Addr) (c1 : Nat), q ≤ j ∧ i' ≤ q ∧ i = .int .i64 (i' : Int) ∧ v = .slice A1 (j - q) c1 ∧ j - q ≤ c1 ∧ Hid (RO w w.heap.size A1 (L.drop q)) ∧ Below w.heap.size w wr) (fun _ i _ => 200 - (intOf i).toNat)
      case atStart => exact ⟨0, 0, A0, c0, by omega, by omega, rfl, rfl, by omega, HR0, hb03⟩
      case round =>
        obtain ⟨q, i', A1, c1, hq, hi', rfl, rfl, hc1, HR1, hbp⟩ := hrel
        have z1 : (i' : Int) < 130 := by omega
        clear hb hb03
        by_cases hql : q < j
        · have hln : (L.drop q).length = j - q := by rw [List.length_drop, Hn0.out]
          obtain ⟨b1, o1, rfl, hB1, -⟩ := RO.cell (HR1.out.below hbp) (by omega)
          have hmL : ∀ x ∈ L.drop q, mayL x := fun x hx => HM.out x (List.mem_of_mem_drop hx)
          have hP := hide (wpiece_any (some ⟨b1, o1, none⟩) (j - q) c1 (L.drop q) wr ((HR1.out.below hbp).more hbp.size) hln (by omega) hc1 (fun x hx => Hok.out x (List.mem_of_mem_drop hx)) (fun x hx => Hnil.out x (List.mem_of_mem_drop hx)))
          rw [if_pos hmL, show allE (L.drop q) = 0 from if_pos hmL] at hP
          obtain ⟨P, hPP⟩ : ∃ P, P = pcs (L.drop q) := ⟨_, rfl⟩
          have p1 := pcs_pos (L := L.drop q) (by omega)
          have p2 := pcs_max (L.drop q)
          have p3 := pcs_le (L.drop q)
          obtain ⟨s1, s2⟩ := cntP_sum (L.drop q) 0 0 (fun h => by omega) (fun x hx => by have := szO_le (Hok.out x (List.mem_of_mem_drop hx)); omega) (fun _ => rfl)
          rw [show cntP 0 0 (L.drop q) = P from hPP.symm] at s1 s2
          rw [← hPP] at hP p1 p2 p3
          rw [hln] at p3
          have Hs2 := hide s2
          have Hln := hide hln
          have HmL := hide hmL
          have z2 : (0 : Int) < ((j - q : Nat) : Int) := by omega
          clear hPP s2 hln hmL
          go_wp2_with fail
          refine hP.out.mono ?_
          rintro e w4 ⟨A2, c2, L2, rfl, hL2, hO2, hb4⟩
          have hb04 := fresh hbp hb4
          have hl2 : L2.length = P := by
            have := congrArg List.length hL2
            rw [List.length_map, List.length_map, List.length_take, Hln.out, Nat.min_eq_left p3] at this
            exact this
          rw [hl2]
          have hbigL : ∀ x ∈ L, x.p.length < 8796093022208 := fun x hx => by have := Hl100.out x hx; omega
          have HokT : Hid (∀ x ∈ (L.drop q).take P, okO x) := hide fun x hx => Hok.out x (List.mem_of_mem_drop (List.mem_of_mem_take hx))
          have HmT : Hid (∀ x ∈ (L.drop q).take P, mayL x) := hide fun x hx => HmL.out x (List.mem_of_mem_take hx)
          have Hok2 := hide (twinP_okO hL2 HokT.out)
          have Hm2 := hide (twinP_may hL2 HmT.out)
          have S := hide (listsame_any A2 (some ⟨b1, o1, none⟩) P P c2 c1 L2 ((L.drop q).take P) w4 hO2.ro (((HR1.out.less (k := P) (by rw [Hln.out]; exact p3)).below hb04).more hb04.size) hl2 (by rw [List.length_take, Hln.out, Nat.min_eq_left p3]) (fun x hx => by have := (Hok2.out x hx).2.2.2; omega) (fun x hx => by have := (HokT.out x hx).2.2.2; omega) (by omega))
          rw [decide_eq_true hL2] at S
          have hsum : sumL L2 = sumL ((L.drop q).take P) := sumL_op hL2
          rw [← hsum] at s1 Hs2
          have HO2 := hide hO2
          have Hl2 := hide hl2
          have zP0 : (0 : Int) ≤ P := by omega
          have zP1 : ¬ (P : Int) < 1 := by omega
          have zP2 : ¬ (64 : Int) < P := by omega
          have zP3 : ¬ ((j - q : Nat) : Int) < P := by omega
          have zD : ¬ j - q < P := by omega
          have zP4 : (P : Int) ≤ c1 := by omega
          have zP5 : (P : Int) ≤ ((j - q : Nat) : Int) := by omega
          clear hP hL2 hO2 hl2 hsum hbigL
          go_wp2_with fail
          refine S.out.mono ?_
          rintro e w5 ⟨rfl, hb5⟩
          have hb05 := fresh hb04 hb5
          have HO5 := hide (HO2.out.below hb5)
          clear S
          go_wp2_with fail
          go_loopw [13, 14] (fun s k wi => ∃ k' : Nat, k' ≤ P ∧ k = .int .i64 (k' : Int) ∧ s = .int .i64 (sumL (L2.take k') : Int) ∧ Below w5.heap.size w5 wi) (fun _ k _ => P - (intOf k).toNat)
          case atStart => exact ⟨0, by omega, rfl, rfl, Below.refl _ _⟩
          case round =>
            obtain ⟨k', hk', rfl, rfl, hbi⟩ := hrel
            by_cases hltk : k' < P
            · have hltL : k' < L2.length := by rw [Hl2.out]; exact hltk
              have z3 : (k' : Int) < P := by omega
              have z4 : (0 : Int) ≤ k' := by omega
              have hro := (HO5.out.below hbi).ro
              obtain ⟨b2, o2, rfl, hB2, hC2⟩ := RO.cell hro (by omega)
              obtain ⟨x, hx⟩ : ∃ x, L2[k'] = x := ⟨_, rfl⟩
              obtain ⟨d0, d1, d2, d3, d4⟩ := hC2 k' hltL
              rw [hx] at d0 d1 d2 d3 d4
              have hxm : x ∈ L2 := by rw [← hx]; exact List.getElem_mem hltL
              have hox := Hok2.out x hxm
              have hP := hide (wbytes_any x x.p.length wr (hro.2 x hxm) rfl hox)
              rw [show chkO x.k x.t x.r x.p x.z = 0 from if_pos (Hm2.out x hxm)] at hP
              have htl := sumL_le (L2.take k') fun y hy => Hok2.out y (List.mem_of_mem_take hy)
              rw [List.length_take] at htl
              have hsz := szO_le hox
              have Ht := hide (show sumL (L2.take (k' + 1)) = sumL (L2.take k') + szO x by rw [List.take_succ_eq_append_getElem hltL, hx, sumL_snoc])
              obtain ⟨TT2, hTT⟩ : ∃ t, t = sumL (L2.take k') := ⟨_, rfl⟩
              rw [← hTT] at htl Ht ⊢
              clear hC2 hx hxm hox hTT hro
              go_wp2_with fail
              refine hP.out.mono ?_
              rintro e w6 ⟨rfl, hb6⟩
              have hb56 := fresh hbi hb6
              clear d0 d1 d2 d3 d4
              go_wp2_with fail
              go_roundw
              case rel => exact ⟨k' + 1, by omega, by go_num, by rw [Ht.out]; go_num, hb56⟩
              case measure => simp [intOf]; omega
            · have z3 : ¬ (k' : Int) < P := by omega
              obtain rfl : k' = P := by omega
              rw [List.take_of_length_le (by rw [Hl2.out]; omega)]
              have hb0i := fresh hb05 hbi
              obtain ⟨ST, hST⟩ : ∃ s, s = sumL L2 := ⟨_, rfl⟩
              rw [← hST] at s1 Hs2 ⊢
              have zS : ¬ (8192 : Int) < ST := by omega
              have zc0 : ((j - q : Nat) : Int) - (k' : Int) = ((j - q - k' : Nat) : Int) := by omega
              clear hST HO5 HO2
              by_cases hca : c1 = k'
              · have hq2 : j - q - k' = 0 := by omega
                have z5 : ¬ (0 : Int) < ((j - q - k' : Nat) : Int) := by omega
                go_wp2_with fail
                go_roundw
                case rel => exact ⟨q + k', i' + 1, some ⟨b1, o1, none⟩, 0, by omega, by omega, by go_num, by rw [show j - (q + k') = 0 by omega], by omega, hide (by rw [List.drop_eq_nil_of_le (by rw [Hn0.out]; omega)]; exact ⟨RD.nil_, fun x hx => by cases hx⟩), hb0i⟩
                case measure => simp [intOf]; omega
              · have HRn := hide (show RO w w.heap.size (some ⟨b1, o1 + k' * 5, none⟩) (L.drop (q + k')) by
                  have := HR1.out.past k'
                  rwa [List.drop_drop] at this)
                by_cases hrem : 0 < j - q - k'
                · have z5 : (0 : Int) < ((j - q - k' : Nat) : Int) := by omega
                  by_cases h64 : k' < 64
                  · have z6 : (k' : Int) < 64 := by omega
                    have hlen2 : (L.drop (q + k')).length = j - q - k' := by rw [List.length_drop, Hn0.out, Nat.sub_sub]
                    obtain ⟨b3, o3, hSA3, hB3, hC3⟩ := RO.cell (HRn.out.below hb0i) (by omega)
                    simp only [Option.some.injEq, Addr.mk.injEq, and_true] at hSA3
                    obtain ⟨rfl, rfl⟩ := hSA3
                    have hl0 : 0 < (L.drop (q + k')).length := by omega
                    obtain ⟨x, hx⟩ : ∃ x, (L.drop (q + k'))[0] = x := ⟨_, rfl⟩
                    obtain ⟨d0, d1, d2, d3, d4⟩ := hC3 0 hl0
                    rw [hx] at d0 d1 d2 d3 d4
                    simp only [Nat.zero_mul, Nat.add_zero] at d0 d1 d2 d3 d4
                    have hxd : x ∈ L.drop (q + k') := by rw [← hx]; exact List.getElem_mem _
                    have hxm : x ∈ L := List.mem_of_mem_drop hxd
                    have hP := hide (wbytes_any x x.p.length wr (((HRn.out.below hb0i).more hb0i.size).2 x hxd) rfl (Hok.out x hxm))
                    rw [show chkO x.k x.t x.r x.p x.z = 0 from if_pos (HM.out x hxm)] at hP
                    have hsz := szO_le (Hok.out x hxm)
                    have hover := Hs2.out x (by
                      rw [List.getElem?_drop, ← hx, List.getElem_drop, List.getElem?_eq_getElem (by rw [Hn0.out]; omega)]
                      simp) (by omega)
                    have zov : ¬ (ST : Int) + (szO x : Int) ≤ 8192 := by omega
                    have zw : IntKind.i64.wrap ((ST : Int) + (szO x : Int)) = (ST : Int) + (szO x : Int) := IntWalk.i64_in _ (by omega)
                    clear hx hxd hxm hC3
                    go_wp2_with fail
                    refine hP.out.mono ?_
                    rintro e w6 ⟨rfl, hb6⟩
                    have hb06 := fresh hb0i hb6
                    clear d0 d1 d2 d3 d4
                    go_wp2_with fail
                    go_roundw
                    case rel => exact ⟨q + k', i' + 1, some ⟨b1, o1 + k' * 5, none⟩, c1 - k', by omega, by omega, by go_num, by rw [Nat.sub_sub], by omega, HRn, hb06⟩
                    case measure => simp [intOf]; omega
                  · have z6 : ¬ (k' : Int) < 64 := by omega
                    go_wp2_with fail
                    go_roundw
                    case rel => exact ⟨q + k', i' + 1, some ⟨b1, o1 + k' * 5, none⟩, c1 - k', by omega, by omega, by go_num, by rw [Nat.sub_sub], by omega, HRn, hb0i⟩
                    case measure => simp [intOf]; omega
                · have z5 : ¬ (0 : Int) < ((j - q - k' : Nat) : Int) := by omega
                  go_wp2_with fail
                  go_roundw
                  case rel => exact ⟨q + k', i' + 1, some ⟨b1, o1 + k' * 5, none⟩, c1 - k', by omega, by omega, by go_num, by rw [Nat.sub_sub], by omega, HRn, hb0i⟩
                  case measure => simp [intOf]; omega
        · obtain rfl : q = j := by omega
          have z2 : ¬ (0 : Int) < ((q - q : Nat) : Int) := by omega
          go_wp2_with fail
          go_ret
          exact ⟨ret_bool (by simp), hbp⟩
end Go.Proofs.Ytbjfmkdjnglgbaa
