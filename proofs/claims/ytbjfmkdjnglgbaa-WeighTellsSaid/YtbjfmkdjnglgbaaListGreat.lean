/-
  What octavoref10.Great tells of a list. Condition: parts of their types.
-/
import Derived.Test.YtbjfmkdjnglgbaaCodeAll
namespace Go.Proofs.Ytbjfmkdjnglgbaa
open Go.RowKit

/-- What Great's answer says. -/
def greatV (n : Nat) (m : Int) (L : List OpL) (v : Value) : Prop := ∃ g, v = .bool g ∧ (g = false → (n : Int) ≤ m ∧ (n ≤ 300 → ∀ x ∈ L, x.p.length ≤ 100))

set_option maxHeartbeats 3200000 in
set_option maxRecDepth 100000 in
theorem great_any (A : Option Addr) (n c : Nat) (m : Int) (L : List OpL) (w : World) (hr : RO w w.heap.size A L) (hn : L.length = n) (hok : ∀ x ∈ L, ∀ y ∈ x.p, okR y) :
    Calls Try.prog 68 #[.slice A n c, .int .i64 m] w fun e w' => ∃ v, e = .returned v ∧ greatV n m L v ∧ Below w.heap.size w w' := by
  have Hok := hide hok
  have Hn := hide hn
  have HR := hide hr
  clear hok hn hr
  go_enter Try.func68, Try.ntmps68
  go_wp2_with fail
  go_loopw [5, 6] (fun s i wr => ∃ (j : Nat) (sv : Int), j ≤ n ∧ (j : Int) ≤ 300 ∧ i = .int .i64 (j : Int) ∧ s = .int .i64 sv ∧ 0 ≤ sv ∧ sv ≤ j * 51000 ∧ Hid (∀ x ∈ L.take j, x.p.length ≤ 100) ∧ Below w.heap.size w wr) (fun _ i _ => n - (intOf i).toNat)
  case atStart => exact ⟨0, 0, by omega, by omega, rfl, rfl, by omega, by omega, hide (fun x hx => by cases hx), Below.refl _ _⟩
  case round =>
    obtain ⟨j, sv, hj, hj3, rfl, rfl, hs0, hs1, hP, hb⟩ := hrel
    by_cases hlt : j < n
    · have z0 : (j : Int) < n := by omega
      by_cases z3 : (j : Int) < 300
      · have hltL : j < L.length := by rw [Hn.out]; exact hlt
        have zj : (0 : Int) ≤ j := by omega
        obtain ⟨bb, bo, rfl, hB, hC⟩ := RO.cell (HR.out.below hb) (by omega)
        obtain ⟨x, hx⟩ : ∃ x, L[j] = x := ⟨_, rfl⟩
        obtain ⟨d0, d1, d2, d3, d4⟩ := hC j hltL
        rw [hx] at d0 d1 d2 d3 d4
        have hxm : x ∈ L := by rw [← hx]; exact List.getElem_mem hltL
        have Hrx := hide (show RR wr wr.heap.size x.A x.p from ((HR.out.below hb).more hb.size).2 x hxm)
        have HoX := hide (Hok.out x hxm)
        have Htake := hide (show L.take (j + 1) = L.take j ++ [x] by rw [List.take_succ_eq_append_getElem hltL, hx])
        clear hC hx d0 d1 d2 d4 hxm
        by_cases hg : (100 : Int) < x.p.length
        · go_wp2_with fail
          go_ret
          exact ⟨_, rfl, ⟨true, rfl, fun h => (Bool.noConfusion h)⟩, hb⟩
        · have Hx100 := hide (show x.p.length ≤ 100 by omega)
          go_wp2_with fail
          go_loopw [5, 7] (fun s k wi => ∃ (q : Nat) (sq : Int), q ≤ x.p.length ∧ k = .int .i64 (q : Int) ∧ s = .int .i64 sq ∧ 0 ≤ sq ∧ sq ≤ sv + q * 501 ∧ wi = wr) (fun _ k _ => x.p.length - (intOf k).toNat)
          case atStart => exact ⟨0, sv, by omega, rfl, rfl, by omega, by omega, rfl⟩
          case round =>
            obtain ⟨q, sq, hq, rfl, rfl, hq0, hq1, rfl⟩ := hrel
            by_cases hltq : q < x.p.length
            · have zq : (q : Int) < x.p.length := by omega
              have zq0 : (0 : Int) ≤ q := by omega
              obtain ⟨rb, ro, hA, -, rC⟩ := RR.cell Hrx.out (by omega)
              obtain ⟨-, -, e2⟩ := rC q hltq
              have hoy := HoX.out x.p[q] (List.getElem_mem hltq)
              obtain ⟨y, hy⟩ : ∃ y, x.p[q].2.2 = y := ⟨_, rfl⟩
              unfold okR at hoy
              rw [hy] at e2 hoy
              obtain ⟨-, -, -, -, hy0, hy1⟩ := hoy
              rw [hA] at d3
              clear rC hy
              clear hA
              go_wp2_with fail
              refine ⟨⟨q + 1, _, by omega, by go_num, rfl, ?_, ?_, trivial⟩, by simp [intOf]; omega⟩
              · split <;> (try split) <;> omega
              · split <;> (try split) <;> omega
            · have zq : ¬ (q : Int) < x.p.length := by omega
              have hqe : q = x.p.length := by omega
              have hx100 := Hx100.out
              go_wp2_with fail
              go_roundw
              case rel =>
                refine ⟨j + 1, sq, by omega, by omega, by go_num, rfl, hq0, by omega, hide ?_, hb⟩
                rw [Htake.out]
                intro u hu
                rcases List.mem_append.1 hu with h | h
                · exact hP.out u h
                · simp only [List.mem_singleton] at h
                  subst h
                  exact Hx100.out
              case measure => simp [intOf]; omega
      · have hj9 : j = 300 := by omega
        have Hlen := hide (show ¬ n ≤ 300 by omega)
        go_wp2_with fail
        all_goals
          go_ret
          refine ⟨_, rfl, ⟨_, rfl, fun h => ?_⟩, hb⟩
          simp at h
        try exact ⟨h.1, fun h3 => absurd h3 Hlen.out⟩
    · have hjn : j = n := by omega
      have z0 : ¬ (j : Int) < n := by omega
      have htk : L.take j = L := List.take_of_length_le (by rw [Hn.out]; omega)
      rw [htk] at hP
      clear htk
      go_wp2_with fail
      all_goals
        go_ret
        refine ⟨_, rfl, ⟨_, rfl, fun h => ?_⟩, hb⟩
        simp at h
      try exact ⟨h.1, fun _ => hP.out⟩
end Go.Proofs.Ytbjfmkdjnglgbaa
