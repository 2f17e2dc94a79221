/-
  What the helpers of octavolaw04 do: are, none, alive. No condition but the sizes that each line says.
-/
import Derived.Test.YtllmlnbgfikeaaaPointText
namespace Go.Proofs.Ytllmlnbgfikeaaa
open Go.RowKit

theorem points_ok (l : List UInt8) (ps : List Nat) (w : World) (hl : l.length < 268435456) (hc : Cod l ps) (hn : ps.length ≤ 1024) :
    Calls Try.prog 13 #[.string ⟨l.toArray⟩] w fun e w' => ∃ A c, e = .returned (.tuple #[.slice A ps.length c, .int .i64 0]) ∧ RZ w' w'.heap.size A (casts ps) ∧ Below w.heap.size w w' :=
  (points_any l w hl).mono fun e w' ⟨h, hb⟩ => by
    rcases h with ⟨qs, v, hq, _, he, hown⟩ | ⟨qs, hq, hm, _⟩ | ⟨hno, _⟩
    · obtain rfl := cod_uniq hc hq
      obtain ⟨A, c, rfl, -, -, -⟩ := own_slice hown
      exact ⟨A, c, he, RZ.of_own hown, hb⟩
    · obtain rfl := cod_uniq hc hq
      omega
    · exact absurd hc (hno ps)
theorem points_many (l : List UInt8) (ps : List Nat) (w : World) (hl : l.length < 268435456) (hc : Cod l ps) (hn : 1024 < ps.length) :
    Calls Try.prog 13 #[.string ⟨l.toArray⟩] w fun e w' => e = .returned (.tuple #[.slice none 0 0, .int .i64 4]) ∧ Below w.heap.size w w' :=
  (points_any l w hl).mono fun e w' ⟨h, hb⟩ => by
    rcases h with ⟨qs, v, hq, hm, he, hown⟩ | ⟨qs, hq, hm, he⟩ | ⟨hno, _⟩
    · obtain rfl := cod_uniq hc hq
      omega
    · exact ⟨he, hb⟩
    · exact absurd hc (hno ps)
theorem points_bad (l : List UInt8) (w : World) (hl : l.length < 268435456) (hc : ∀ ps, ¬ Cod l ps) :
    Calls Try.prog 13 #[.string ⟨l.toArray⟩] w fun e w' => e = .returned (.tuple #[.slice none 0 0, .int .i64 40]) ∧ Below w.heap.size w w' :=
  (points_any l w hl).mono fun e w' ⟨h, hb⟩ => by
    rcases h with ⟨qs, v, hq, hm, he, hown⟩ | ⟨qs, hq, hm, he⟩ | ⟨hno, he⟩
    · exact absurd hq (hc qs)
    · exact absurd hq (hc qs)
    · exact ⟨he, hb⟩

theorem isame_self (A B : Option Addr) (c d n k : Nat) (l : List Int) (w : World) (hr : RZ w w.heap.size A l) (hs : RZ w w.heap.size B l) (hn : l.length = n) (hk : l.length = k) (hl : n < 1073741824) :
    Calls Try.prog 14 #[.slice A n c, .slice B k d] w fun e w' => e = .returned (.bool true) ∧ Below w.heap.size w w' :=
  (isame_any A B c d n k l l w hr hs hn hk hl (by omega)).mono fun e w' ⟨he, hb⟩ => ⟨by rw [he, beq_self_eq_true], hb⟩

set_option maxHeartbeats 400000 in
set_option maxRecDepth 100000 in
theorem are_yes (l : List UInt8) (A : Option Addr) (n c : Nat) (ps : List Nat) (w : World) (hl : l.length < 268435456) (hc : Cod l ps) (hm : ps.length ≤ 1024) (hr : RZ w w.heap.size A (casts ps)) (hn : ps.length = n) :
    Calls Try.prog 25 #[.string ⟨l.toArray⟩, .slice A n c] w fun e w' => e = .returned (.bool true) ∧ Below w.heap.size w w' := by
  subst hn
  go_enter Try.func25, Try.ntmps25
  go_wp2_with fail
  refine (points_ok l ps w hl hc hm).mono ?_
  rintro e w1 ⟨A1, c1, rfl, hr1, hb1⟩
  have hr2 : RZ w1 w1.heap.size A (casts ps) := (RD.below hr hb1).more hb1.size
  go_wp2_with fail
  refine (isame_self A1 A c1 c ps.length ps.length (casts ps) w1 hr1 hr2 (casts_len _) (casts_len _) (by omega)).mono ?_
  rintro e w2 ⟨rfl, hb2⟩
  go_wp2_with fail
  go_ret
  exact ⟨rfl, fresh hb1 hb2⟩

set_option maxHeartbeats 400000 in
set_option maxRecDepth 100000 in
theorem none_yes (l : List UInt8) (w : World) (hl : l.length < 268435456) (hc : ∀ ps, ¬ Cod l ps) :
    Calls Try.prog 24 #[.string ⟨l.toArray⟩] w fun e w' => e = .returned (.bool true) ∧ Below w.heap.size w w' := by
  have hc' := hide hc
  clear hc
  go_enter Try.func24, Try.ntmps24
  go_wp2_with fail
  refine (points_bad l w hl hc'.out).mono ?_
  rintro e w1 ⟨rfl, hb1⟩
  go_wp2_with fail
  go_ret
  exact ⟨rfl, hb1⟩

theorem RZ.new (w : World) (cs : Array Value) (T : TypeId) (zs : List Int) (h : cs.toList = zints zs) : RZ (w.alloc (.cells cs T)) (w.alloc (.cells cs T)).heap.size (some ⟨w.heap.size, 0, none⟩) zs := by
  refine ⟨by rw [zints_len, Nat.mul_one], fun _ => ⟨_, _, rfl, by rw [World.size_alloc]; omega, fun j u hu => ?_⟩⟩
  rw [Nat.zero_add, World.cell?_alloc_new, ← Array.getElem?_toList, h]
  exact hu
theorem boxed (w : World) (o : Obj) : Below w.heap.size w (w.alloc o) := (Below.refl _ _).alloc (Nat.le_refl _) _

set_option maxHeartbeats 400000 in
set_option maxRecDepth 100000 in
theorem palive_ok (w : World) : Calls Try.prog 12 #[] w fun e w' => e = .returned (.bool true) ∧ Below w.heap.size w w' := by
  go_enter Try.func12, Try.ntmps12
  go_wp2_with fail
  refine (are_yes [97, 98] _ 2 2 [97, 98] _ (by decide) ⟨by decide, by decide⟩ (by decide) (RZ.new w _ _ [97, 98] rfl) rfl).mono ?_
  rintro e w1 ⟨rfl, hb1⟩
  have hb1' := fresh (boxed w _) hb1
  clear hb1
  go_wp2_with fail
  refine (are_yes [226, 130, 172] _ 1 1 [8364] _ (by decide) ⟨by decide, by decide⟩ (by decide) (RZ.new w1 _ _ [8364] rfl) rfl).mono ?_
  rintro e w2 ⟨rfl, hb2⟩
  have hb2' := fresh hb1' (fresh (boxed w1 _) hb2)
  clear hb2
  go_wp2_with fail
  refine (are_yes [240, 159, 152, 128] _ 1 1 [128512] _ (by decide) ⟨by decide, by decide⟩ (by decide) (RZ.new w2 _ _ [128512] rfl) rfl).mono ?_
  rintro e w3 ⟨rfl, hb3⟩
  have hb3' := fresh hb2' (fresh (boxed w2 _) hb3)
  clear hb3
  go_wp2_with fail
  go_ret
  exact ⟨rfl, hb3'⟩
end Go.Proofs.Ytllmlnbgfikeaaa
