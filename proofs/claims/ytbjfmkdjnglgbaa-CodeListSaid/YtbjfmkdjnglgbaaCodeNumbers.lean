/-
  What octavoref10's Numbers, behind, fits do. Condition: fewer than 2^30 bytes.
-/
import Derived.Test.YtbjfmkdjnglgbaaCodeRefMath
import Derived.Test.YtbjfmkdjnglgbaaCodePut
import Derived.IntWalk
namespace Go.Proofs.Ytbjfmkdjnglgbaa
open Go.RowKit

theorem intinfo : (Try.prog.info? 3).map (fun i => (i.zero, i.size, i.bytes)) = some (some (.int .i64 0), 1, 8) := by kernel_rfl
theorem i64s_one (L : List Int) : ∀ u ∈ i64s L, u.oneCell' = true := by
  intro u hu
  simp only [i64s, List.mem_map] at hu
  obtain ⟨z, -, rfl⟩ := hu
  rfl
theorem i64s_append (L M : List Int) : i64s (L ++ M) = i64s L ++ i64s M := by simp [i64s]
theorem int_row (w : World) (v : Int) : RD (w.alloc (.cells #[.int .i64 v] 3)) (w.alloc (.cells #[.int .i64 v] 3)).heap.size 1 (some ⟨w.heap.size, 0, none⟩) 1 (i64s [v]) := by
  refine ⟨rfl, fun _ => ⟨_, _, rfl, by rw [World.size_alloc]; omega, fun j u hu => ?_⟩⟩
  rw [Nat.zero_add, World.cell?_alloc_new, ← Array.getElem?_toList]
  exact hu
theorem refget_len (A : Option Addr) (n c : Nat) (l : List UInt8) (w : World) (hr : RB w w.heap.size A l) (hn : l.length = n) (hl : n < 1073741824) :
    Calls Try.prog 116 #[.slice A n c] w fun e w' => e = .returned (gval (gget l)) ∧ w = w' := by
  subst hn
  exact refget_any A c l w hr hl
theorem RB.rest {w : World} {B : Nat} {A : Option Addr} {b : List UInt8} {n c a : Nat} (h : RB w B A b) (hn : b.length = n) (ha : a ≤ n) (hc : n ≤ c) (hca : ¬ c = a) : RB w B (Option.map (fun x => x.add a) A) (b.drop a) := by
  subst hn
  have := RD.cut h ha hc
  rw [if_neg hca, Nat.mul_one, u8s_drop] at this
  unfold RB
  rw [List.length_drop]
  exact this
/-- What Numbers answers. -/
def numR (b : List UInt8) (m : Nat) : List Int × Nat × Bool := match rdN b m 0 with | some (L, a) => (L, a, true) | none => ([], 0, false)

set_option maxHeartbeats 3200000 in
set_option maxRecDepth 100000 in
theorem numbers_any (A : Option Addr) (n c : Nat) (b : List UInt8) (M : Nat) (w : World) (hr : RB w w.heap.size A b) (hn : b.length = n) (hl : n < 1073741824) (hc : n ≤ c) (hM : M ≤ 300) :
    Calls Try.prog 103 #[.slice A n c, .int .i64 (M : Int), .int .i64 1073741824] w fun e w' => ∃ A' c', e = .returned (.tuple #[.slice A' (numR b M).1.length c', .int .i64 ((numR b M).2.1 : Int), .bool (numR b M).2.2]) ∧ w'.ownsRow w.heap.size 3 1 (.slice A' (numR b M).1.length c') (numR b M).1.length (i64s (numR b M).1) ∧ Below w.heap.size w w' := by
  obtain ⟨i0, hi0, hz0, hz1, hz2⟩ := info_parts intinfo
  have HR := hide hr
  have Hn := hide hn
  have hM9 : (M : Int) ≤ 300 := by omega
  clear hr hn
  go_enter Try.func103, Try.ntmps103
  go_wp2_with fail
  go_loopw [9, 10, 11] (fun u v i wr => ∃ (j a : Nat) (L : List Int), j ≤ M ∧ i = .int .i64 (j : Int) ∧ v = .int .i64 (a : Int) ∧ a ≤ n ∧ L.length = j ∧ wr.ownsRow w.heap.size 3 1 u L.length (i64s L) ∧ Hid (rdN b M 0 = (rdN b (M - j) a).map fun q => (L ++ q.1, q.2)) ∧ Below w.heap.size w wr) (fun _ _ i _ => M - (intOf i).toNat)
  case atStart => exact ⟨0, 0, [], by omega, rfl, rfl, by omega, rfl, World.ownsRow_nil _ _ _ _, hide (by cases rdN b M 0 <;> simp), Below.refl _ _⟩
  case round =>
    obtain ⟨j, a, L, hj, rfl, rfl, ha, hLj, hown, hG, hb⟩ := hrel
    by_cases hlt : j < M
    · have z0 : (j : Int) < M := by omega
      have z1 : (0 : Int) ≤ a := by omega
      have z2 : (a : Int) ≤ n := by omega
      have z3 : (n : Int) ≤ c := by omega
      have z4 : (a : Int) ≤ c := by omega
      by_cases hca : c = a
      · subst hca
        have hna : n = c := by omega
        subst hna
        have Hno := hide (show numR b M = ([], 0, false) by
          have hx : nxt b n 0 1073741824 = none := by
            unfold nxt
            rw [List.drop_eq_nil_of_le (by rw [Hn.out]; omega)]
            rfl
          have := hG.out
          rw [show M - j = (M - (j + 1)) + 1 by omega] at this
          simp only [rdN, hx, Option.bind_none, Option.map_none] at this
          unfold numR
          rw [this])
        have Gn := hide (refget_len A 0 0 [] wr RD.nil_ rfl (by decide))
        have hgn : gget [] = none := rfl
        rw [hgn] at Gn
        unfold gval at Gn
        clear hG hgn
        go_wp2_with fail
        refine Gn.out.mono ?_
        rintro e w2 ⟨rfl, rfl⟩
        go_wp2_with fail
        refine bodyPost_ret (v := .tuple #[.slice none 0 0, .int .i64 0, .bool false]) (by simp [results, Try.results103, go_sem]) rfl ?_
        exact ⟨none, 0, by rw [Hno.out]; rfl, by rw [Hno.out]; exact World.ownsRow_nil _ _ _ _, hb⟩
      have hws := hb.size
      have hjm : M - j = (M - (j + 1)) + 1 := by omega
      rw [hjm] at hG
      have hrw : RB wr wr.heap.size A b := (RD.below HR.out hb).more hws
      cases hg : gget (b.drop a) with
      | none =>
        have Hno := hide (show numR b M = ([], 0, false) by
          have hx : nxt b a 0 1073741824 = none := by unfold nxt; rw [hg]
          have := hG.out
          simp only [rdN, hx, Option.bind_none, Option.map_none] at this
          unfold numR
          rw [this])
        have Gn := hide (refget_len (Option.map (fun x => x.add a) A) (n - a) (c - a) (b.drop a) wr (RB.rest hrw Hn.out ha hc hca) (by rw [List.length_drop, Hn.out]) (by omega))
        rw [hg] at Gn
        clear hG hg hrw
        go_wp2_with fail
        refine Gn.out.mono ?_
        rintro e w2 ⟨rfl, rfl⟩
        unfold gval
        go_wp2_with fail
        refine bodyPost_ret (v := .tuple #[.slice none 0 0, .int .i64 0, .bool false]) (by simp [results, Try.results103, go_sem]) rfl ?_
        exact ⟨none, 0, by rw [Hno.out]; rfl, by rw [Hno.out]; exact World.ownsRow_nil _ _ _ _, hb⟩
      | some q =>
        obtain ⟨v, s⟩ := q
        obtain ⟨v1, v2, v3, v4⟩ := gget_inv hg
        rw [List.length_drop, Hn.out] at v2
        by_cases hbig : (1073741824 : Int) < (v : Int)
        · have Hno := hide (show numR b M = ([], 0, false) by
            have hx : nxt b a 0 1073741824 = none := by unfold nxt; rw [hg]; exact if_pos (.inr hbig)
            have := hG.out
            simp only [rdN, hx, Option.bind_none, Option.map_none] at this
            unfold numR
            rw [this])
          have Gn := hide (refget_len (Option.map (fun x => x.add a) A) (n - a) (c - a) (b.drop a) wr (RB.rest hrw Hn.out ha hc hca) (by rw [List.length_drop, Hn.out]) (by omega))
          rw [hg] at Gn
          clear hG hg hrw
          go_wp2_with fail
          refine Gn.out.mono ?_
          rintro e w2 ⟨rfl, rfl⟩
          unfold gval
          go_wp2_with fail
          refine bodyPost_ret (v := .tuple #[.slice none 0 0, .int .i64 0, .bool false]) (by simp [results, Try.results103, go_sem]) rfl ?_
          exact ⟨none, 0, by rw [Hno.out]; rfl, by rw [Hno.out]; exact World.ownsRow_nil _ _ _ _, hb⟩
        · have HGn := hide (show rdN b M 0 = (rdN b (M - (j + 1)) (a + s)).map fun q => ((L ++ [(v : Int)]) ++ q.1, q.2) by
            have hx : nxt b a 0 1073741824 = some ((v : Int), a + s) := by unfold nxt; rw [hg]; exact if_neg (by omega)
            rw [hG.out]
            simp only [rdN, hx, Option.bind_some, Option.map_map]
            congr 1
            funext q
            simp)
          have zw : IntKind.i64.wrap ((a : Int) + (s : Int)) = (a : Int) + (s : Int) := IntWalk.i64_in _ (by omega)
          have hsz : L.length + 1 ≤ 1073741824 := by omega
          have hlt9 : (j : Int) < 300 := by omega
          have Gn := hide (refget_len (Option.map (fun x => x.add a) A) (n - a) (c - a) (b.drop a) wr (RB.rest hrw Hn.out ha hc hca) (by rw [List.length_drop, Hn.out]) (by omega))
          rw [hg] at Gn
          clear hG hg hrw
          go_wp2_with fail
          refine Gn.out.mono ?_
          rintro e w2 ⟨rfl, rfl⟩
          unfold gval
          go_wp2_with (at_builtin; refine wpList_append_src _ rfl (.tmp 35) (.tmp 37) 119 rfl w.heap.size 3 i0 (.int .i64 0) 1 8 Try.underlying119 hi0 hz0 hz1 hz2 rfl (by decide) _ L.length (i64s L) rfl (hown.alloc _) (wr.alloc (.cells #[.int .i64 (v : Int)] 3)).heap.size (some ⟨wr.heap.size, 0, none⟩) 1 1 (i64s [(v : Int)]) rfl (int_row wr v) (i64s_one _) hsz (by decide) (by simp; omega) ?_; intro v3 w3 hown3 hb3)
          go_roundw
          case rel =>
            refine ⟨j + 1, a + s, L ++ [(v : Int)], by omega, by go_num, by go_num, by omega, by simp [hLj], ?_, HGn, (hb.alloc hws _).trans hb3⟩
            rw [i64s_append, List.length_append]
            exact hown3
          case measure => simp [intOf]; omega
    · have hz : ¬ (j : Int) < M := by omega
      have hjn : j = M := by omega
      have Hdone := hide (show numR b M = (L, a, true) by
        have := hG.out
        rw [hjn, Nat.sub_self] at this
        unfold numR
        rw [this]
        simp [rdN])
      clear hG
      go_wp2_with fail
      refine bodyPost_ret (v := .tuple #[u9, .int .i64 (a : Int), .bool true]) (by simp [results, Try.results103, go_sem]) rfl ?_
      obtain ⟨AL, cL, hAL, -, -, -⟩ := own_slice hown
      exact ⟨AL, cL, by rw [Hdone.out, hAL], by rw [Hdone.out, ← hAL]; exact hown, hb⟩
end Go.Proofs.Ytbjfmkdjnglgbaa
