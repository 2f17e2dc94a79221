/-
  What is pushed is pulled, in order: the walk of LinkOrder. Condition: parts of their types.
-/
import Derived.Test.YtmkpfdcnikgokaaLinkAlive
namespace Go.Proofs.Ytmkpfdcnikgokaa
open Go.RowKit

theorem keep_cell {w w' : World} {B b off : Nat} {v : Value} (hb : Below B w w') (hB : b < B) (h : w.cell? ⟨b, off, none⟩ = some v) : w'.cell? ⟨b, off, none⟩ = some v := (hb.cell hB).trans h
theorem push_four {L : List FrL} {b : List UInt8} (h : okF L) (hb : 20000 < b.length) : pushE L b = 4 ∧ pushL L b = [] := by
  have hE : pushE L b = 4 := by unfold pushE; rw [if_neg (fun k => k h), if_pos hb]
  exact ⟨hE, by unfold pushL; rw [hE]; rfl⟩
theorem run_append_fr (w : World) (base : Nat) (v : Value) (n : Nat) (xs : List Value) (hown : w.ownsRow base 28 1 v n xs) (A : Option Addr) (m c : Nat) (M : List FrL) {B : Nat} (hr : RF w B A M) (hm : M.length = m) (h63 : n + m ≤ 1000000) (hbase : base ≤ w.heap.size) {ty : TypeId} :
    ∃ (A' : Option Addr) (c' : Nat) (w' : World), (Builtin.append_ #[22, 22] ty #[v, .slice A m c]).run Try.prog w = .ok (.slice A' (n + m) c') w' ∧ w'.ownsRow base 28 1 (.slice A' (n + m) c') (n + m) (xs ++ frs M) ∧ Below base w w' := by
  obtain ⟨i0, hi0, hz0, hz1, hz2⟩ := info_parts frinfo
  subst hm
  obtain ⟨v', w', hrun, h2, h3⟩ := run_append_src (P := Try.prog) w base 22 ty 28 i0 (.slice none 0 0) 1 24 Try.underlying22 hi0 hz0 hz1 hz2 rfl (by decide) v n xs hown B A M.length c (frs M) hr.1 (frs_one M) (by unfold maxLen; omega) (by omega) hbase
  obtain ⟨A', c', rfl, -, -, -⟩ := own_slice h2
  exact ⟨A', c', w', hrun, h2, grown_below hown h3 hbase⟩
/-- An operation whose value is no fixed one. -/
theorem LI.skip {L : List (Option (Nat × Value))} {Wp : World → Prop} {done : Nat → Bool} {ρ : Nat → Value} {w w' : World} (h : LI L Wp done ρ w) (S : List (Option Nat)) (hS : L.map (Option.map Prod.fst) = S) (i d : Nat) (v : Value) (hi : (L[i]?).join = none) (hB : (S.all fun o => decide (o ≠ some d)) = true) (hw : Wp w') :
    LI L Wp (upd done i) (putS ρ (some d) v) w' := by
  refine ⟨hw, fun j s u hj hd => ?_⟩
  have hij : j ≠ i := fun e => by rw [e, hi] at hj; cases hj
  have hne : s ≠ d := by
    intro e
    subst e
    have hm : some s ∈ S := by
      rw [← hS]
      obtain ⟨o, ho, he⟩ : ∃ o, L[j]? = some o ∧ o = some (s, u) := by
        cases hx : L[j]? with
        | none => rw [hx] at hj; cases hj
        | some o => rw [hx] at hj; exact ⟨o, rfl, by simpa [Option.join] using hj⟩
      exact List.mem_map.2 ⟨o, List.mem_of_getElem? ho, by rw [he]; rfl⟩
    have := List.all_eq_true.1 hB _ hm
    simp at this
  have e : putS ρ (some d) v s = ρ s := by simp [putS, hne]
  rw [e]
  refine h.2 j s u hj ?_
  rwa [updL hij] at hd
theorem updT {done : Nat → Bool} {i j : Nat} (h : done j = true) : upd done i j = true := by simp [upd, h]
theorem updE {done : Nat → Bool} {i : Nat} : upd done i i = true := by simp [upd]
theorem putN {ρ : Nat → Value} {d s : Nat} {v : Value} (h : s ≠ d) : putS ρ (some d) v s = ρ s := by simp [putS, h]
theorem putE {ρ : Nat → Value} {d : Nat} {v : Value} : putS ρ (some d) v d = v := by simp [putS]
/-- What holds in the middle of the region that lays the others' list. -/
structure QI (w0 : World) (n0 mm : Nat) (L : List FrL) (done : Nat → Bool) (ρ : Nat → Value) (w : World) : Prop where
  b : Below w0.heap.size w0 w
  m0 : done 0 = true → done 4 = false → ∃ v, ρ 83 = v ∧ w.ownsRow w0.heap.size 28 1 v 0 []
  m4 : done 4 = true → done 9 = false → ∃ A c, ρ 87 = .slice A mm c ∧ w.ownsRow w0.heap.size 28 1 (.slice A mm c) mm (frs (L.take mm))
  m9 : done 9 = true → ∃ A c, ρ 92 = .slice A (n0 - 1) c ∧ w.ownsRow w0.heap.size 28 1 (.slice A (n0 - 1) c) (n0 - 1) (frs (L.eraseIdx mm)) ∧ (done 10 = true → ρ 13 = .slice A (n0 - 1) c)
  z4 : done 4 = true → done 0 = true
  z9 : done 9 = true → done 4 = true
  z10 : done 10 = true → done 9 = true
section
variable {w0 : World} {n0 mm : Nat} {L : List FrL} {done : Nat → Bool} {ρ : Nat → Value} {w : World}
theorem QI.plain (h : QI w0 n0 mm L done ρ w) (i d : Nat) (v : Value) (h0 : 0 ≠ i) (h4 : 4 ≠ i) (h9 : 9 ≠ i) (h10 : 10 ≠ i) (d1 : 83 ≠ d) (d2 : 87 ≠ d) (d3 : 92 ≠ d) (d4 : 13 ≠ d) : QI w0 n0 mm L (upd done i) (putS ρ (some d) v) w :=
  { b := h.b
    m0 := fun k l => by rw [updL h0] at k; rw [updL h4] at l; rw [putN d1]; exact h.m0 k l
    m4 := fun k l => by rw [updL h4] at k; rw [updL h9] at l; rw [putN d2]; exact h.m4 k l
    m9 := fun k => by
      rw [updL h9] at k
      obtain ⟨A, c, k1, k2, k3⟩ := h.m9 k
      exact ⟨A, c, by rw [putN d3]; exact k1, k2, fun l => by rw [updL h10] at l; rw [putN d4]; exact k3 l⟩
    z4 := fun k => by rw [updL h4] at k; exact updT (h.z4 k)
    z9 := fun k => by rw [updL h9] at k; exact updT (h.z9 k)
    z10 := fun k => by rw [updL h10] at k; exact updT (h.z10 k) }
theorem QI.row (h : QI w0 n0 mm L done ρ w) (hn : done 0 = false) : QI w0 n0 mm L (upd done 0) (putS ρ (some 83) (.slice (some ⟨w.heap.size, 0, none⟩) 0 0)) (w.alloc (.cells #[] 28)) := by
  have n4 : done 4 = false := by
    cases hx : done 4 with
    | false => rfl
    | true => rw [h.z4 hx] at hn; cases hn
  have n9 : done 9 = false := by
    cases hx : done 9 with
    | false => rfl
    | true => rw [h.z9 hx] at n4; cases n4
  exact
  { b := fresh h.b (fbox _ _)
    m0 := fun _ _ => ⟨_, putE, own_empty w _ _ _ h.b.size⟩
    m4 := fun k => by rw [updL (by decide), n4] at k; cases k
    m9 := fun k => by rw [updL (by decide), n9] at k; cases k
    z4 := fun k => by rw [updL (by decide), n4] at k; cases k
    z9 := fun k => by rw [updL (by decide), n9] at k; cases k
    z10 := fun k => by rw [updL (by decide)] at k; exact updT (h.z10 k) }
theorem QI.app1 (h : QI w0 n0 mm L done ρ w) (hn : done 4 = false) (h0 : done 0 = true) {w' : World} {A : Option Addr} {c : Nat} (ho : w'.ownsRow w0.heap.size 28 1 (.slice A (0 + mm) c) (0 + mm) (frs (L.take mm))) (hb : Below w0.heap.size w w') : QI w0 n0 mm L (upd done 4) (putS ρ (some 87) (.slice A (0 + mm) c)) w' := by
  have n9 : done 9 = false := by
    cases hx : done 9 with
    | false => rfl
    | true => rw [h.z9 hx] at hn; cases hn
  rw [Nat.zero_add] at ho ⊢
  exact
  { b := h.b.trans hb
    m0 := fun _ k => by rw [updE] at k; cases k
    m4 := fun _ _ => ⟨A, c, putE, ho⟩
    m9 := fun k => by rw [updL (by decide), n9] at k; cases k
    z4 := fun _ => updT h0
    z9 := fun k => by rw [updL (by decide), n9] at k; cases k
    z10 := fun k => by rw [updL (by decide)] at k; exact updT (h.z10 k) }
theorem QI.app2 (h : QI w0 n0 mm L done ρ w) (hn : done 9 = false) (h4 : done 4 = true) {w' : World} {A : Option Addr} {c : Nat} (ho : w'.ownsRow w0.heap.size 28 1 (.slice A (n0 - 1) c) (n0 - 1) (frs (L.eraseIdx mm))) (hb : Below w0.heap.size w w') : QI w0 n0 mm L (upd done 9) (putS ρ (some 92) (.slice A (n0 - 1) c)) w' := by
  have n10 : done 10 = false := by
    cases hx : done 10 with
    | false => rfl
    | true => rw [h.z10 hx] at hn; cases hn
  exact
  { b := h.b.trans hb
    m0 := fun _ k => by rw [updL (by decide), h4] at k; cases k
    m4 := fun _ k => by rw [updE] at k; cases k
    m9 := fun _ => ⟨A, c, putE, ho, fun k => by rw [updL (by decide), n10] at k; cases k⟩
    z4 := fun k => by rw [updL (by decide)] at k; exact updT (h.z4 k)
    z9 := fun _ => updT h4
    z10 := fun k => by rw [updL (by decide), n10] at k; cases k }
theorem QI.asg (h : QI w0 n0 mm L done ρ w) (h9 : done 9 = true) {v : Value} (hv : v = ρ 92) : QI w0 n0 mm L (upd done 10) (putS ρ (some 13) v) w :=
  { b := h.b
    m0 := fun k l => by rw [updL (by decide)] at k l; rw [putN (by decide)]; exact h.m0 k l
    m4 := fun k l => by rw [updL (by decide), h9] at l; cases l
    m9 := fun _ => by
      obtain ⟨A, c, k1, k2, -⟩ := h.m9 h9
      exact ⟨A, c, by rw [putN (by decide)]; exact k1, k2, fun _ => by rw [putE, hv]; exact k1⟩
    z4 := fun k => by rw [updL (by decide)] at k; exact updT (h.z4 k)
    z9 := fun k => by rw [updL (by decide)] at k; exact updT (h.z9 k)
    z10 := fun _ => updT h9 }
end

set_option maxHeartbeats 12800000 in
set_option maxRecDepth 100000 in
theorem linkOrder_walk (A0 : Option Addr) (n0 c0 : Nat) (m : Int) (L : List FrL) (w : World) (hr0 : RF w w.heap.size A0 L) (hn0 : L.length = n0) (hc0 : n0 ≤ c0) :
    Calls Try.prog 3 #[.slice A0 n0 c0, .int .i64 m] w fun e w' => e = .returned (.bool true) ∧ Below w.heap.size w w' := by
  have HR0 := hide hr0
  have Hn0 := hide hn0
  clear hr0 hn0
  go_enter Try.func3, Try.ntmps3
  go_wp2_with fail
  refine (lalive w).mono ?_
  rintro e w1 ⟨rfl, hb1⟩
  go_wp2_with fail
  refine (lgreat A0 n0 c0 L w1 ((HR0.out.below hb1).more hb1.size) Hn0.out).mono ?_
  rintro e w2 ⟨v, rfl, ⟨g, rfl, hg⟩, rfl⟩
  cases g with
  | true =>
    clear hg
    go_wp2_with fail
    go_ret
    exact ⟨rfl, hb1⟩
  | false =>
  by_cases h64 : (64 : Int) < n0
  · clear hg
    go_wp2_with fail
    go_ret
    exact ⟨rfl, hb1⟩
  have hn64 : n0 ≤ 64 := by omega
  clear hg
  go_wp2_with fail
  go_loopw [6, 7] (fun v i wr => ∃ (j : Nat) (A' : Option Addr) (c' : Nat) (Q : List FrL), j ≤ n0 ∧ i = .int .i64 (j : Int) ∧ v = .slice A' j c' ∧ Hid (Q.map FrL.b = (L.take j).map FrL.b) ∧ Hid (∀ x ∈ L.take j, x.b.length ≤ 20000) ∧ Hid (OF wr w.heap.size A' c' Q) ∧ Below w.heap.size w wr) (fun _ i _ => n0 - (intOf i).toNat)
  case atStart => exact ⟨0, none, 0, [], by omega, rfl, rfl, hide rfl, hide (fun x hx => by cases hx), hide (OF.nil _ _), hb1⟩
  case round =>
    obtain ⟨j, Aq, cq, Q, hj, rfl, rfl, HQ, HS, HO, hb⟩ := hrel
    have hlQ : Q.length = j := by rw [← List.length_map FrL.b, HQ.out, List.length_map, List.length_take, Hn0.out, Nat.min_eq_left hj]
    by_cases hlt : j < n0
    · have hltL : j < L.length := by rw [Hn0.out]; exact hlt
      have z0 : (j : Int) < n0 := by omega
      have zj : (0 : Int) ≤ j := by omega
      obtain ⟨bb, bo, rfl, hB, hC⟩ := RF.cell (HR0.out.below hb) (by omega)
      have d0 := hC j hltL
      obtain ⟨x, hx⟩ : ∃ x, L[j] = x := ⟨_, rfl⟩
      rw [hx] at d0
      have hxm : x ∈ L := by rw [← hx]; exact List.getElem_mem hltL
      have Htake := hide (show L.take (j + 1) = L.take j ++ [x] by rw [List.take_succ_eq_append_getElem hltL, hx])
      have P1 := hide (lpush Aq x.A j cq x.b.length x.c Q x.b wr HO.out.rf hlQ (((HR0.out.below hb).more hb.size).2 x hxm) rfl)
      have hsm : ∀ b ∈ (L.take j).map FrL.b, b.length ≤ 20000 := fun b hb => by
        obtain ⟨y, hy, rfl⟩ := List.mem_map.1 hb
        exact HS.out y hy
      have hlK : ((L.take j).map FrL.b).length = j := by rw [List.length_map, List.length_take, Hn0.out, Nat.min_eq_left hj]
      by_cases hbig : (20000 : Int) < x.b.length
      · obtain ⟨e1, e2⟩ := push_four (b := x.b) (okF_of HQ.out (by omega) hsm) (by omega)
        rw [e1, e2] at P1
        clear e1 e2 hsm hlK hC hx hxm
        go_wp2_with fail
        refine P1.out.mono ?_
        rintro e w3 ⟨A3, c3, L3, rfl, -, -, hb3⟩
        have d0 := keep_cell hb3 (Nat.lt_of_lt_of_le hB hb.size) d0
        go_wp2_with fail
        go_ret
        exact ⟨rfl, fresh hb hb3⟩
      · obtain ⟨e1, e2⟩ := push_of (b := x.b) HQ.out (by omega) hsm (by omega)
        rw [e1, e2] at P1
        have Hxs := hide (show x.b.length ≤ 20000 by omega)
        clear e1 e2 hsm hlK hC hx hxm hbig
        go_wp2_with fail
        refine P1.out.mono ?_
        rintro e w3 ⟨A3, c3, L3, rfl, hL3, hO3, hb3⟩
        have hl3 : L3.length = j + 1 := by rw [← List.length_map FrL.b, hL3, List.length_append, List.length_map, List.length_take, Hn0.out, Nat.min_eq_left hj]; rfl
        rw [hl3]
        have H3 := hide (And.intro hL3 (hO3.less hb.size))
        have hb03 := fresh hb hb3
        clear hL3 hO3 hl3 d0 P1
        go_wp2_with fail
        go_roundw
        case rel =>
          refine ⟨j + 1, A3, c3, L3, by omega, by go_num, rfl, hide ?_, hide fun q hq => ?_, hide H3.out.2, hb03⟩
          · rw [H3.out.1, Htake.out, List.map_append]; rfl
          · rw [Htake.out] at hq
            rcases List.mem_append.1 hq with h | h
            · exact HS.out q h
            · simp only [List.mem_singleton] at h
              subst h
              exact Hxs.out
        case measure => simp [intOf]; omega
    · have z0 : ¬ (j : Int) < n0 := by omega
      obtain rfl : n0 = j := by omega
      have htk : L.take n0 = L := List.take_of_length_le (by rw [Hn0.out]; omega)
      rw [htk] at HQ HS
      have S1 := hide (lsame Aq A0 n0 n0 cq c0 Q L wr HO.out.rf ((HR0.out.below hb).more hb.size) hlQ Hn0.out (by omega))
      rw [decide_eq_true HQ.out] at S1
      have hsm : ∀ b ∈ L.map FrL.b, b.length ≤ 20000 := fun b hb => by
        obtain ⟨y, hy, rfl⟩ := List.mem_map.1 hb
        exact HS.out y hy
      have hlK : (L.map FrL.b).length = n0 := by rw [List.length_map, Hn0.out]
      have hokQ := hide (okF_of HQ.out (by omega) hsm)
      have HQL : Hid (Q.map FrL.b = (L.drop 0).map FrL.b) := HQ
      clear htk
      by_cases hin : 0 ≤ m ∧ m < n0
      rotate_left
      · have hE : atE Q m = 2 := by unfold atE; rw [if_neg (fun k => k hokQ.out), if_pos (by omega)]
        have hV : pullV Q m = ([], []) := by unfold pullV; rw [if_neg (by rw [hE]; decide)]
        have P1 := hide (fun (W : World) (h : Below wr.heap.size wr W) => lpull Aq n0 cq m Q W ((HO.out.rf.below h).more h.size) hlQ)
        rw [hE, hV] at P1
        have HOr := hide (fun (W : World) (h : Below wr.heap.size wr W) => HO.out.below h)
        have zin : ¬ (0 ≤ m ∧ m < (n0 : Int)) := hin
        clear hE hV hsm hlK hin hlQ
        go_wp2_with fail
        refine S1.out.mono ?_
        rintro e w3 ⟨rfl, hb3⟩
        have hb03 := fresh hb hb3
        clear S1
        go_wp2_with fail
        refine (unhide P1 w3 hb3).mono ?_
        rintro e w4 ⟨A4, c4, R4, x4, rfl, hx4, hR4, -, -, hb4⟩
        have hb04 := fresh hb03 hb4
        have HOq := hide (unhide HOr w4 (fresh hb3 hb4))
        clear P1 HOr
        by_cases h0 : 0 ≤ m
        · have h1 : ¬ m < (n0 : Int) := by omega
          go_wp2_with fail
          go_loopw [6, 14] (fun v i wr => ∃ (j : Nat) (A' : Option Addr) (c' : Nat) (R : List FrL), j ≤ n0 ∧ i = .int .i64 (j : Int) ∧ v = .slice A' (n0 - j) c' ∧ Hid (R.map FrL.b = (L.drop j).map FrL.b) ∧ Hid (OF wr w.heap.size A' c' R) ∧ Below w.heap.size w wr) (fun _ i _ => n0 - (intOf i).toNat)
          case atStart => exact ⟨0, Aq, cq, Q, by omega, rfl, by rw [Nat.sub_zero], HQL, HOq, hb04⟩
          case round =>
            obtain ⟨j, A', c', R, hj, rfl, rfl, HR, HO, hbr⟩ := hrel
            have hlR : R.length = n0 - j := by rw [← List.length_map FrL.b, HR.out, List.length_map, List.length_drop, Hn0.out]
            by_cases hlt : j < n0
            · have hltL : j < L.length := by rw [Hn0.out]; exact hlt
              have z0 : (j : Int) < n0 := by omega
              have zj : (0 : Int) ≤ j := by omega
              obtain ⟨x, hx⟩ : ∃ x, L[j] = x := ⟨_, rfl⟩
              have hdr : L.drop j = x :: L.drop (j + 1) := by rw [← hx]; exact List.drop_eq_getElem_cons hltL
              have hxm : x ∈ L := by rw [← hx]; exact List.getElem_mem hltL
              obtain ⟨e1, e2⟩ := atE_of (m := 0) HR.out (by rw [List.length_map, List.length_drop, Hn0.out]; omega) (fun b hb => by
                obtain ⟨y, hy, rfl⟩ := List.mem_map.1 hb
                exact HS.out y (List.mem_of_mem_drop hy)) (by rw [List.length_map, List.length_drop, Hn0.out]; omega)
              have hV : pullV R ((0 : Nat) : Int) = (x.b, (L.drop (j + 1)).map FrL.b) := by rw [e2, hdr]; rfl
              have P1 := hide (lpull A' (n0 - j) c' ((0 : Nat) : Int) R wr HO.out.rf hlR)
              rw [e1, hV] at P1
              simp only [Int.natCast_zero] at P1
              have hRF := HR0.out
              obtain ⟨bb, bo, hA0, hB, hC⟩ := RF.cell (HR0.out.below hbr) (by omega)
              have d0' := hC j hltL
              rw [hx] at d0'
              have Hd := hide (And.intro hA0 (And.intro hB (And.intro d0' hxm)))
              clear e1 e2 hV hdr hC d0' hA0 hB hx hxm hRF hlR
              go_wp2_with fail
              refine P1.out.mono ?_
              rintro e w8 ⟨A8, c8, R8, y, rfl, hy, hR8, ho8, hO8, hb8⟩
              have hb08 := fresh hbr hb8
              have hy' : y.b = x.b := hy
              have hR8' : R8.map FrL.b = (L.drop (j + 1)).map FrL.b := hR8
              have hl8 : R8.length = n0 - (j + 1) := by rw [← List.length_map FrL.b, hR8', List.length_map, List.length_drop, Hn0.out]
              have s1 := fun u => conv_bytes (P := Try.prog) (show RB (past w8 u) (past w8 u).heap.size y.A y.b from (RD.below (RD.of_own ho8 : RB w8 w8.heap.size y.A y.b) (below_past w8 u)).more (below_past w8 u).size) Try.underlying28 Try.underlying5 Try.underlying9 y.c
              have s2 := fun u => conv_bytes (P := Try.prog) (show RB (past w8 u) (past w8 u).heap.size x.A x.b from (RD.below (((HR0.out.below hb08).more hb08.size).2 x Hd.out.2.2.2) (below_past w8 u)).more (below_past w8 u).size) Try.underlying28 Try.underlying5 Try.underlying9 x.c
              have hst : (y.b == x.b) = true := by simpa using hy'
              have hBr : bb < w8.heap.size := by have := Hd.out.2.1; have := hb08.size; omega
              have d0 := keep_cell hb8 (Nat.lt_of_lt_of_le Hd.out.2.1 hbr.size) Hd.out.2.2.1
              have hA0' := Hd.out.1
              first
                | subst hA0'
                | (simp only [Option.some.injEq, Addr.mk.injEq, and_true] at hA0'; obtain ⟨rfl, rfl⟩ := hA0')
              have H8 := hide (And.intro hR8' (hO8.less hbr.size))
              rw [hl8]
              clear hy hR8 hR8' ho8 hO8 hy' P1 Hd
              go_wp2_with fail
              refine wp_region_wq (by kernel_rfl) (by kernel_rfl) ?_
              repeat (
                refine WQ.step (fun K hK => ?_)
                go_simp
                refine hK _ ?_
                clear hK K)
              refine WQ.nil ?_
              intro u
              have hb9 := fresh hb08 (below_past w8 u)
              have H9 := hide (H8.out.2.below (below_past w8 u))
              clear s1 s2 d0
              go_wp2_with fail
              go_roundw
              case rel => exact ⟨j + 1, A8, c8, R8, by omega, by go_num, rfl, hide H8.out.1, H9, hb9⟩
              case measure => simp [intOf]; omega
            · have z0 : ¬ (j : Int) < n0 := by omega
              obtain rfl : j = n0 := by omega
              go_wp2_with fail
              go_ret
              exact ⟨ret_bool (by simp), hbr⟩
        · go_wp2_with fail
          go_loopw [6, 14] (fun v i wr => ∃ (j : Nat) (A' : Option Addr) (c' : Nat) (R : List FrL), j ≤ n0 ∧ i = .int .i64 (j : Int) ∧ v = .slice A' (n0 - j) c' ∧ Hid (R.map FrL.b = (L.drop j).map FrL.b) ∧ Hid (OF wr w.heap.size A' c' R) ∧ Below w.heap.size w wr) (fun _ i _ => n0 - (intOf i).toNat)
          case atStart => exact ⟨0, Aq, cq, Q, by omega, rfl, by rw [Nat.sub_zero], HQL, HOq, hb04⟩
          case round =>
            obtain ⟨j, A', c', R, hj, rfl, rfl, HR, HO, hbr⟩ := hrel
            have hlR : R.length = n0 - j := by rw [← List.length_map FrL.b, HR.out, List.length_map, List.length_drop, Hn0.out]
            by_cases hlt : j < n0
            · have hltL : j < L.length := by rw [Hn0.out]; exact hlt
              have z0 : (j : Int) < n0 := by omega
              have zj : (0 : Int) ≤ j := by omega
              obtain ⟨x, hx⟩ : ∃ x, L[j] = x := ⟨_, rfl⟩
              have hdr : L.drop j = x :: L.drop (j + 1) := by rw [← hx]; exact List.drop_eq_getElem_cons hltL
              have hxm : x ∈ L := by rw [← hx]; exact List.getElem_mem hltL
              obtain ⟨e1, e2⟩ := atE_of (m := 0) HR.out (by rw [List.length_map, List.length_drop, Hn0.out]; omega) (fun b hb => by
                obtain ⟨y, hy, rfl⟩ := List.mem_map.1 hb
                exact HS.out y (List.mem_of_mem_drop hy)) (by rw [List.length_map, List.length_drop, Hn0.out]; omega)
              have hV : pullV R ((0 : Nat) : Int) = (x.b, (L.drop (j + 1)).map FrL.b) := by rw [e2, hdr]; rfl
              have P1 := hide (lpull A' (n0 - j) c' ((0 : Nat) : Int) R wr HO.out.rf hlR)
              rw [e1, hV] at P1
              simp only [Int.natCast_zero] at P1
              have hRF := HR0.out
              obtain ⟨bb, bo, hA0, hB, hC⟩ := RF.cell (HR0.out.below hbr) (by omega)
              have d0' := hC j hltL
              rw [hx] at d0'
              have Hd := hide (And.intro hA0 (And.intro hB (And.intro d0' hxm)))
              clear e1 e2 hV hdr hC d0' hA0 hB hx hxm hRF hlR
              go_wp2_with fail
              refine P1.out.mono ?_
              rintro e w8 ⟨A8, c8, R8, y, rfl, hy, hR8, ho8, hO8, hb8⟩
              have hb08 := fresh hbr hb8
              have hy' : y.b = x.b := hy
              have hR8' : R8.map FrL.b = (L.drop (j + 1)).map FrL.b := hR8
              have hl8 : R8.length = n0 - (j + 1) := by rw [← List.length_map FrL.b, hR8', List.length_map, List.length_drop, Hn0.out]
              have s1 := fun u => conv_bytes (P := Try.prog) (show RB (past w8 u) (past w8 u).heap.size y.A y.b from (RD.below (RD.of_own ho8 : RB w8 w8.heap.size y.A y.b) (below_past w8 u)).more (below_past w8 u).size) Try.underlying28 Try.underlying5 Try.underlying9 y.c
              have s2 := fun u => conv_bytes (P := Try.prog) (show RB (past w8 u) (past w8 u).heap.size x.A x.b from (RD.below (((HR0.out.below hb08).more hb08.size).2 x Hd.out.2.2.2) (below_past w8 u)).more (below_past w8 u).size) Try.underlying28 Try.underlying5 Try.underlying9 x.c
              have hst : (y.b == x.b) = true := by simpa using hy'
              have hBr : bb < w8.heap.size := by have := Hd.out.2.1; have := hb08.size; omega
              have d0 := keep_cell hb8 (Nat.lt_of_lt_of_le Hd.out.2.1 hbr.size) Hd.out.2.2.1
              have hA0' := Hd.out.1
              first
                | subst hA0'
                | (simp only [Option.some.injEq, Addr.mk.injEq, and_true] at hA0'; obtain ⟨rfl, rfl⟩ := hA0')
              have H8 := hide (And.intro hR8' (hO8.less hbr.size))
              rw [hl8]
              clear hy hR8 hR8' ho8 hO8 hy' P1 Hd
              go_wp2_with fail
              refine wp_region_wq (by kernel_rfl) (by kernel_rfl) ?_
              repeat (
                refine WQ.step (fun K hK => ?_)
                go_simp
                refine hK _ ?_
                clear hK K)
              refine WQ.nil ?_
              intro u
              have hb9 := fresh hb08 (below_past w8 u)
              have H9 := hide (H8.out.2.below (below_past w8 u))
              clear s1 s2 d0
              go_wp2_with fail
              go_roundw
              case rel => exact ⟨j + 1, A8, c8, R8, by omega, by go_num, rfl, hide H8.out.1, H9, hb9⟩
              case measure => simp [intOf]; omega
            · have z0 : ¬ (j : Int) < n0 := by omega
              obtain rfl : j = n0 := by omega
              go_wp2_with fail
              go_ret
              exact ⟨ret_bool (by simp), hbr⟩
      obtain ⟨mm, rfl⟩ : ∃ mm : Nat, m = mm := ⟨m.toNat, by omega⟩
      have hmn : mm < n0 := by omega
      obtain ⟨e1, e2⟩ := atE_of (m := mm) HQ.out (by omega) hsm (by omega)
      have hltL : mm < L.length := by rw [Hn0.out]; exact hmn
      obtain ⟨x, hx⟩ : ∃ x, L[mm] = x := ⟨_, rfl⟩
      have hxm : x ∈ L := by rw [← hx]; exact List.getElem_mem hltL
      have hV : pullV Q (mm : Int) = (x.b, (L.eraseIdx mm).map FrL.b) := by
        rw [e2, List.getElem?_map, List.getElem?_eq_getElem hltL, hx]
        rw [List.eraseIdx_eq_take_drop_succ, List.eraseIdx_eq_take_drop_succ, List.map_append, List.map_take, List.map_drop]
        rfl
      have P1 := hide (fun (W : World) (h : Below wr.heap.size wr W) => lpull Aq n0 cq (mm : Int) Q W ((HO.out.rf.below h).more h.size) hlQ)
      rw [e1, hV] at P1
      have HOr := hide (fun (W : World) (h : Below wr.heap.size wr W) => HO.out.below h)
      have z1 : (0 : Int) ≤ mm := by omega
      have z2 : (mm : Int) < n0 := by omega
      obtain ⟨b0, o0, rfl, hB0, hC0⟩ := RF.cell HR0.out (by omega)
      have d0w := hC0 mm hltL
      rw [hx] at d0w
      have Hx := hide (And.intro hxm (And.intro d0w hB0))
      clear e1 e2 hV hsm hlK hin hlQ hx hxm hC0 d0w hltL
      go_wp2_with fail
      refine S1.out.mono ?_
      rintro e w3 ⟨rfl, hb3⟩
      have hb03 := fresh hb hb3
      clear S1
      go_wp2_with fail
      refine (unhide P1 w3 hb3).mono ?_
      rintro e w4 ⟨A4, c4, R4, x4, rfl, hx4, hR4, ho4, hO4, hb4⟩
      have hb04 := fresh hb03 hb4
      have HOq4 := hide (unhide HOr w4 (fresh hb3 hb4))
      have hx4' : x4.b = x.b := hx4
      have hR4' : R4.map FrL.b = (L.eraseIdx mm).map FrL.b := hR4
      have hel : (L.eraseIdx mm).length = n0 - 1 := by rw [List.length_eraseIdx, if_pos (by rw [Hn0.out]; exact hmn), Hn0.out]
      have hl4 : R4.length = n0 - 1 := by rw [← List.length_map FrL.b, hR4', List.length_map, hel]
      rw [hl4]
      have H4 := hide (And.intro hx4' (And.intro hR4' (And.intro hl4 (And.intro ho4 (And.intro hO4 hel)))))
      obtain ⟨SA, SC, hSA⟩ : ∃ (SA : Option Addr) (SC : Nat), (c0 = mm + 1 ∧ SA = some ⟨b0, o0, none⟩ ∧ SC = 0 ∨ ¬ c0 = mm + 1 ∧ SA = some ⟨b0, o0 + (mm + 1), none⟩ ∧ SC = c0 - (mm + 1)) := by
        by_cases h : c0 = mm + 1
        · exact ⟨_, _, .inl ⟨h, rfl, rfl⟩⟩
        · exact ⟨_, _, .inr ⟨h, rfl, rfl⟩⟩
      obtain ⟨w0q, hw0q⟩ : ∃ W, W = w4.drew := ⟨_, rfl⟩
      have hs0q : w0q.heap.size = w4.heap.size := by rw [hw0q]; rfl
      have HRL := hide (show RF w0q w0q.heap.size (some ⟨b0, o0, none⟩) L by
        rw [hw0q]
        exact (HR0.out.below hb04.drew).more hb04.drew.size)
      have HRD := hide (show RF w0q w0q.heap.size SA (L.drop (mm + 1)) by
        rcases hSA with ⟨h1, -, -⟩ | ⟨-, rfl, -⟩
        · rw [List.drop_eq_nil_of_le (by rw [Hn0.out]; omega)]
          exact RF.nil _ _ _
        · exact HRL.out.past (mm + 1))
      have HSA := hide hSA
      have zc1 : (mm : Int) ≤ c0 := by omega
      have zc2 : (0 : Int) ≤ (mm : Int) + 1 := by omega
      have zc3 : (mm : Int) + 1 ≤ n0 := by omega
      have zc4 : (mm : Int) + 1 ≤ c0 := by omega
      have zc5 : (n0 : Int) ≤ c0 := by omega
      have zc6 : IntKind.i64.wrap ((mm : Int) + 1) = (mm : Int) + 1 := IntWalk.i64_in _ (by omega)
      clear P1 HOr hx4 hR4 hx4' hR4' hl4 ho4 hO4 hel hSA
      go_wp2_with fail
      refine wp_region_inv (fun done ρ W => LI [none, some (84, .slice (some ⟨b0, o0, none⟩) n0 c0), some (85, .int .i64 (mm : Int)), some (86, .slice (some ⟨b0, o0, none⟩) mm c0), none, some (88, .slice (some ⟨b0, o0, none⟩) n0 c0), some (89, .int .i64 (mm : Int)), some (90, .int .i64 ((mm : Int) + 1)), some (91, .slice SA (n0 - (mm + 1)) SC), none, none] (fun _ => True) done ρ W ∧ QI w0q n0 mm L done ρ W) (by kernel_rfl) 135 (by rfl) (by kernel_rfl) ?_ ?_ ?_
      · refine ⟨LI.start _ trivial, ⟨?_, fun e => (by cases e), fun e => (by cases e), fun e => (by cases e), fun e => (by cases e), fun e => (by cases e), fun e => (by cases e)⟩⟩
        rw [hw0q]
        exact Below.refl _ _
      · refine ⟨?_, ?_, ?_, ?_, ?_, ?_, ?_, ?_, ?_, ?_, ?_, trivial⟩
        · -- 0: slot 83
          intro done ρ W hn hf hd h
          clear hf
          refine .inl ⟨rfl, opOK_step fun R hR => ?_⟩
          unfold opOK
          go_simp
          exact hR _ _ ⟨h.1.skip [none, some 84, some 85, some 86, none, some 88, some 89, some 90, some 91, none, none] rfl 0 83 _ rfl rfl trivial, h.2.row hn⟩
        · -- 1: slot 84
          intro done ρ W hn hf hd h
          have q0 := hf 0 (by kernel_rfl)
          change ρ 0 = .slice (some ⟨b0, o0, none⟩) n0 c0 at q0
          clear hf
          refine .inl ⟨rfl, opOK_step fun R hR => ?_⟩
          unfold opOK
          go_simp
          exact hR _ _ ⟨h.1.put [none, some 84, some 85, some 86, none, some 88, some 89, some 90, some 91, none, none] rfl (by decide) 1 84 _ rfl trivial, h.2.plain 1 84 _ (by decide) (by decide) (by decide) (by decide) (by decide) (by decide) (by decide) (by decide)⟩
        · -- 2: slot 85
          intro done ρ W hn hf hd h
          have q1 := hf 1 (by kernel_rfl)
          change ρ 1 = .int .i64 (mm : Int) at q1
          clear hf
          refine .inl ⟨rfl, opOK_step fun R hR => ?_⟩
          unfold opOK
          go_simp
          exact hR _ _ ⟨h.1.put [none, some 84, some 85, some 86, none, some 88, some 89, some 90, some 91, none, none] rfl (by decide) 2 85 _ rfl trivial, h.2.plain 2 85 _ (by decide) (by decide) (by decide) (by decide) (by decide) (by decide) (by decide) (by decide)⟩
        · -- 3: slot 86
          intro done ρ W hn hf hd h
          have q84 := h.1.get 1 84 _ rfl (hd 1 (by kernel_rfl))
          have q85 := h.1.get 2 85 _ rfl (hd 2 (by kernel_rfl))
          clear hf
          refine .inl ⟨rfl, opOK_step fun R hR => ?_⟩
          unfold opOK
          go_simp
          exact hR _ _ ⟨h.1.put [none, some 84, some 85, some 86, none, some 88, some 89, some 90, some 91, none, none] rfl (by decide) 3 86 _ rfl trivial, h.2.plain 3 86 _ (by decide) (by decide) (by decide) (by decide) (by decide) (by decide) (by decide) (by decide)⟩
        · -- 4: slot 87
          intro done ρ W hn hf hd h
          have q86 := h.1.get 3 86 _ rfl (hd 3 (by kernel_rfl))
          clear hf
          refine .inl ⟨rfl, opOK_step fun R hR => ?_⟩
          obtain ⟨v, k1, k2⟩ := h.2.m0 (hd 0 (by kernel_rfl)) hn
          obtain ⟨A2, c2, W', hrun, hown, hbW⟩ := run_append_fr W w0q.heap.size v 0 [] k2 (some ⟨b0, o0, none⟩) mm c0 (L.take mm) (((HRL.out.less mm).below h.2.b)) (by rw [List.length_take, Hn0.out]; omega) (by omega) h.2.b.size
          exact opOK_append (.tmp 83) (.tmp 86) _ rfl _ _ k1 q86 _ W' hrun (hR _ _ ⟨h.1.skip [none, some 84, some 85, some 86, none, some 88, some 89, some 90, some 91, none, none] rfl 4 87 _ rfl rfl trivial, h.2.app1 hn (hd 0 (by kernel_rfl)) (by simpa using hown) hbW⟩)
        · -- 5: slot 88
          intro done ρ W hn hf hd h
          have q0 := hf 0 (by kernel_rfl)
          change ρ 0 = .slice (some ⟨b0, o0, none⟩) n0 c0 at q0
          clear hf
          refine .inl ⟨rfl, opOK_step fun R hR => ?_⟩
          unfold opOK
          go_simp
          exact hR _ _ ⟨h.1.put [none, some 84, some 85, some 86, none, some 88, some 89, some 90, some 91, none, none] rfl (by decide) 5 88 _ rfl trivial, h.2.plain 5 88 _ (by decide) (by decide) (by decide) (by decide) (by decide) (by decide) (by decide) (by decide)⟩
        · -- 6: slot 89
          intro done ρ W hn hf hd h
          have q1 := hf 1 (by kernel_rfl)
          change ρ 1 = .int .i64 (mm : Int) at q1
          clear hf
          refine .inl ⟨rfl, opOK_step fun R hR => ?_⟩
          unfold opOK
          go_simp
          exact hR _ _ ⟨h.1.put [none, some 84, some 85, some 86, none, some 88, some 89, some 90, some 91, none, none] rfl (by decide) 6 89 _ rfl trivial, h.2.plain 6 89 _ (by decide) (by decide) (by decide) (by decide) (by decide) (by decide) (by decide) (by decide)⟩
        · -- 7: slot 90
          intro done ρ W hn hf hd h
          have q89 := h.1.get 6 89 _ rfl (hd 6 (by kernel_rfl))
          clear hf
          refine .inl ⟨rfl, opOK_step fun R hR => ?_⟩
          unfold opOK
          go_simp
          exact hR _ _ ⟨h.1.put [none, some 84, some 85, some 86, none, some 88, some 89, some 90, some 91, none, none] rfl (by decide) 7 90 _ rfl trivial, h.2.plain 7 90 _ (by decide) (by decide) (by decide) (by decide) (by decide) (by decide) (by decide) (by decide)⟩
        · -- 8: slot 91
          intro done ρ W hn hf hd h
          have q88 := h.1.get 5 88 _ rfl (hd 5 (by kernel_rfl))
          have q90 := h.1.get 7 90 _ rfl (hd 7 (by kernel_rfl))
          clear hf
          refine .inl ⟨rfl, opOK_step fun R hR => ?_⟩
          rcases HSA.out with ⟨hca, rfl, rfl⟩ | ⟨hca, rfl, rfl⟩
          all_goals
            unfold opOK
            go_simp
            exact hR _ _ ⟨h.1.put [none, some 84, some 85, some 86, none, some 88, some 89, some 90, some 91, none, none] rfl (by decide) 8 91 _ rfl trivial, h.2.plain 8 91 _ (by decide) (by decide) (by decide) (by decide) (by decide) (by decide) (by decide) (by decide)⟩
        · -- 9: slot 92
          intro done ρ W hn hf hd h
          have q91 := h.1.get 8 91 _ rfl (hd 8 (by kernel_rfl))
          clear hf
          refine .inl ⟨rfl, opOK_step fun R hR => ?_⟩
          obtain ⟨A1, c1, k1, k2⟩ := h.2.m4 (hd 4 (by kernel_rfl)) hn
          obtain ⟨A2, c2, W', hrun, hown, hbW⟩ := run_append_fr W w0q.heap.size (.slice A1 mm c1) mm (frs (L.take mm)) k2 SA (n0 - (mm + 1)) SC (L.drop (mm + 1)) (HRD.out.below h.2.b) (by rw [List.length_drop, Hn0.out]) (by omega) h.2.b.size
          rw [show mm + (n0 - (mm + 1)) = n0 - 1 by omega] at hrun hown
          rw [← frs_append, ← List.eraseIdx_eq_take_drop_succ] at hown
          exact opOK_append (.tmp 87) (.tmp 91) _ rfl _ _ k1 q91 _ W' hrun (hR _ _ ⟨h.1.skip [none, some 84, some 85, some 86, none, some 88, some 89, some 90, some 91, none, none] rfl 9 92 _ rfl rfl trivial, h.2.app2 hn (hd 4 (by kernel_rfl)) hown hbW⟩)
        · -- 10: slot 13
          intro done ρ W hn hf hd h
          obtain ⟨A2, c2, k1, -, -⟩ := h.2.m9 (hd 9 (by kernel_rfl))
          clear hf
          refine .inl ⟨rfl, opOK_step fun R hR => ?_⟩
          unfold opOK
          go_simp
          exact hR _ _ ⟨h.1.skip [none, some 84, some 85, some 86, none, some 88, some 89, some 90, some 91, none, none] rfl 10 13 _ rfl rfl trivial, h.2.asg (hd 9 (by kernel_rfl)) k1.symm⟩
      · intro a' w5 hdf hsz hf h
        obtain ⟨A5, c5, -, ho5, k13⟩ := h.2.m9 (by kernel_rfl)
        have h13 := k13 (by kernel_rfl)
        have hb45 : Below w4.heap.size w4 w5 := by
          have := h.2.b
          rw [hs0q, hw0q] at this
          exact (Below.refl w4.heap.size w4).drew.trans this
        have hb05 := fresh hb04 hb45
        have h0 : slotsOf a' 0 = .slice (some ⟨b0, o0, none⟩) n0 c0 := hf 0 (by kernel_rfl)
        have h1 : slotsOf a' 1 = .int .i64 (mm : Int) := hf 1 (by kernel_rfl)
        have h6 : slotsOf a' 6 = .slice Aq n0 cq := hf 6 (by kernel_rfl)
        have h10 : slotsOf a' 10 = .slice x4.A x4.b.length x4.c := hf 10 (by kernel_rfl)
        have h11 : slotsOf a' 11 = .slice A4 (n0 - 1) c4 := hf 11 (by kernel_rfl)
        have hRF5 : RF w5 w5.heap.size A5 (L.eraseIdx mm) := by
          refine ⟨?_, fun y hy => ((HR0.out.below hb05).more hb05.size).2 y (List.mem_of_mem_eraseIdx hy)⟩
          rw [H4.out.2.2.2.2.2]
          exact RD.of_own ho5
        have HRF5 := hide hRF5
        have HOq5 := hide (HOq4.out.below hb45)
        clear k13 ho5 hRF5
        obtain ⟨T, D⟩ := a'
        have hD : D = [] := hdf
        subst hD
        obtain ⟨f, hT, hff⟩ : ∃ f : Nat → Value, T = ((List.range 135).map f).toArray ∧ slotsOf ⟨T, []⟩ = f := ⟨_, arr_list T 135 hsz, rfl⟩
        rw [hff] at h0 h1 h6 h10 h11 h13
        clear hff hsz hf h hdf
        have hT' : T = #[f 0, f 1, f 2, f 3, f 4, f 5, f 6, f 7, f 8, f 9, f 10, f 11, f 12, f 13, f 14, f 15, f 16, f 17, f 18, f 19, f 20, f 21, f 22, f 23, f 24, f 25, f 26, f 27, f 28, f 29, f 30, f 31, f 32, f 33, f 34, f 35, f 36, f 37, f 38, f 39, f 40, f 41, f 42, f 43, f 44, f 45, f 46, f 47, f 48, f 49, f 50, f 51, f 52, f 53, f 54, f 55, f 56, f 57, f 58, f 59, f 60, f 61, f 62, f 63, f 64, f 65, f 66, f 67, f 68, f 69, f 70, f 71, f 72, f 73, f 74, f 75, f 76, f 77, f 78, f 79, f 80, f 81, f 82, f 83, f 84, f 85, f 86, f 87, f 88, f 89, f 90, f 91, f 92, f 93, f 94, f 95, f 96, f 97, f 98, f 99, f 100, f 101, f 102, f 103, f 104, f 105, f 106, f 107, f 108, f 109, f 110, f 111, f 112, f 113, f 114, f 115, f 116, f 117, f 118, f 119, f 120, f 121, f 122, f 123, f 124, f 125, f 126, f 127, f 128, f 129, f 130, f 131, f 132, f 133, f 134] := hT.trans (by kernel_rfl)
        clear hT
        subst hT'
        rw [h0, h1, h6, h10, h11, h13]
        clear h0 h1 h6 h10 h11 h13
        have d0 := keep_cell hb05 Hx.out.2.2 Hx.out.2.1
        have hB05 : b0 < w5.heap.size := Nat.lt_of_lt_of_le Hx.out.2.2 hb05.size
        have s1 := fun u => conv_bytes (P := Try.prog) (show RB (past w5 u) (past w5 u).heap.size x4.A x4.b from (RD.below ((RD.below (RD.of_own H4.out.2.2.2.1 : RB w4 w4.heap.size x4.A x4.b) hb45).more hb45.size) (below_past w5 u)).more (below_past w5 u).size) Try.underlying28 Try.underlying5 Try.underlying9 x4.c
        have s2 := fun u => conv_bytes (P := Try.prog) (show RB (past w5 u) (past w5 u).heap.size x.A x.b from (RD.below (((HR0.out.below hb05).more hb05.size).2 x Hx.out.1) (below_past w5 u)).more (below_past w5 u).size) Try.underlying28 Try.underlying5 Try.underlying9 x.c
        have hst : (x4.b == x.b) = true := by have := H4.out.1; simpa using this
        have S := hide (fun u => lsame A4 A5 (n0 - 1) (n0 - 1) c4 c5 R4 (L.eraseIdx mm) (past w5 u) ((H4.out.2.2.2.2.1.rf.below (hb45.trans ((below_past w5 u).mono hb45.size))).more (hb45.trans ((below_past w5 u).mono hb45.size)).size) ((HRF5.out.below (below_past w5 u)).more (below_past w5 u).size) H4.out.2.2.1 H4.out.2.2.2.2.2 (by omega))
        rw [decide_eq_true H4.out.2.1] at S
        clear HSA HRL HRD
        go_wp2_with fail
        refine wp_region_wq (by kernel_rfl) (by kernel_rfl) ?_
        repeat (
          refine WQ.step (fun K hK => ?_)
          go_simp
          first
            | (refine hK _ ?_; clear hK K)
            | (apply Exists.intro
               refine ⟨fun _ => ?_, hK _ ?_⟩
               (go_at_call 12; with_reducible exact past_call (unhide S _))
               clear hK K))
        refine WQ.nil ?_
        intro u
        have hb06 := fresh hb05 (below_past w5 u)
        have HOq := hide (HOq5.out.below (below_past w5 u))
        clear s1 s2 d0 S hst hb45 hb05 hB05 HOq4 HOq5 HRF5
        generalize past w5 u = w6 at hb06 HOq ⊢
        go_wp2_with fail
        go_loopw [6, 14] (fun v i wr => ∃ (j : Nat) (A' : Option Addr) (c' : Nat) (R : List FrL), j ≤ n0 ∧ i = .int .i64 (j : Int) ∧ v = .slice A' (n0 - j) c' ∧ Hid (R.map FrL.b = (L.drop j).map FrL.b) ∧ Hid (OF wr w.heap.size A' c' R) ∧ Below w.heap.size w wr) (fun _ i _ => n0 - (intOf i).toNat)
        case atStart => exact ⟨0, Aq, cq, Q, by omega, rfl, by rw [Nat.sub_zero], HQL, HOq, hb06⟩
        case round =>
          obtain ⟨j, A', c', R, hj, rfl, rfl, HR, HO, hbr⟩ := hrel
          have hlR : R.length = n0 - j := by rw [← List.length_map FrL.b, HR.out, List.length_map, List.length_drop, Hn0.out]
          by_cases hlt : j < n0
          · have hltL : j < L.length := by rw [Hn0.out]; exact hlt
            have z0 : (j : Int) < n0 := by omega
            have zj : (0 : Int) ≤ j := by omega
            obtain ⟨x, hx⟩ : ∃ x, L[j] = x := ⟨_, rfl⟩
            have hdr : L.drop j = x :: L.drop (j + 1) := by rw [← hx]; exact List.drop_eq_getElem_cons hltL
            have hxm : x ∈ L := by rw [← hx]; exact List.getElem_mem hltL
            obtain ⟨e1, e2⟩ := atE_of (m := 0) HR.out (by rw [List.length_map, List.length_drop, Hn0.out]; omega) (fun b hb => by
              obtain ⟨y, hy, rfl⟩ := List.mem_map.1 hb
              exact HS.out y (List.mem_of_mem_drop hy)) (by rw [List.length_map, List.length_drop, Hn0.out]; omega)
            have hV : pullV R ((0 : Nat) : Int) = (x.b, (L.drop (j + 1)).map FrL.b) := by rw [e2, hdr]; rfl
            have P1 := hide (lpull A' (n0 - j) c' ((0 : Nat) : Int) R wr HO.out.rf hlR)
            rw [e1, hV] at P1
            simp only [Int.natCast_zero] at P1
            have hRF := HR0.out
            obtain ⟨bb, bo, hA0, hB, hC⟩ := RF.cell (HR0.out.below hbr) (by omega)
            have d0' := hC j hltL
            rw [hx] at d0'
            have Hd := hide (And.intro hA0 (And.intro hB (And.intro d0' hxm)))
            clear e1 e2 hV hdr hC d0' hA0 hB hx hxm hRF hlR
            go_wp2_with fail
            refine P1.out.mono ?_
            rintro e w8 ⟨A8, c8, R8, y, rfl, hy, hR8, ho8, hO8, hb8⟩
            have hb08 := fresh hbr hb8
            have hy' : y.b = x.b := hy
            have hR8' : R8.map FrL.b = (L.drop (j + 1)).map FrL.b := hR8
            have hl8 : R8.length = n0 - (j + 1) := by rw [← List.length_map FrL.b, hR8', List.length_map, List.length_drop, Hn0.out]
            have s1 := fun u => conv_bytes (P := Try.prog) (show RB (past w8 u) (past w8 u).heap.size y.A y.b from (RD.below (RD.of_own ho8 : RB w8 w8.heap.size y.A y.b) (below_past w8 u)).more (below_past w8 u).size) Try.underlying28 Try.underlying5 Try.underlying9 y.c
            have s2 := fun u => conv_bytes (P := Try.prog) (show RB (past w8 u) (past w8 u).heap.size x.A x.b from (RD.below (((HR0.out.below hb08).more hb08.size).2 x Hd.out.2.2.2) (below_past w8 u)).more (below_past w8 u).size) Try.underlying28 Try.underlying5 Try.underlying9 x.c
            have hst : (y.b == x.b) = true := by simpa using hy'
            have hBr : bb < w8.heap.size := by have := Hd.out.2.1; have := hb08.size; omega
            have d0 := keep_cell hb8 (Nat.lt_of_lt_of_le Hd.out.2.1 hbr.size) Hd.out.2.2.1
            have hA0' := Hd.out.1
            first
              | subst hA0'
              | (simp only [Option.some.injEq, Addr.mk.injEq, and_true] at hA0'; obtain ⟨rfl, rfl⟩ := hA0')
            have H8 := hide (And.intro hR8' (hO8.less hbr.size))
            rw [hl8]
            clear hy hR8 hR8' ho8 hO8 hy' P1 Hd
            go_wp2_with fail
            refine wp_region_wq (by kernel_rfl) (by kernel_rfl) ?_
            repeat (
              refine WQ.step (fun K hK => ?_)
              go_simp
              refine hK _ ?_
              clear hK K)
            refine WQ.nil ?_
            intro u
            have hb9 := fresh hb08 (below_past w8 u)
            have H9 := hide (H8.out.2.below (below_past w8 u))
            clear s1 s2 d0
            go_wp2_with fail
            go_roundw
            case rel => exact ⟨j + 1, A8, c8, R8, by omega, by go_num, rfl, hide H8.out.1, H9, hb9⟩
            case measure => simp [intOf]; omega
          · have z0 : ¬ (j : Int) < n0 := by omega
            obtain rfl : j = n0 := by omega
            go_wp2_with fail
            go_ret
            exact ⟨ret_bool (by simp), hbr⟩
end Go.Proofs.Ytmkpfdcnikgokaa
