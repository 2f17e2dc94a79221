/-
  What code.put does: numbers' bytes behind bytes. Condition: numbers from 0 to 2^40, the bytes in memory of the caller's own.
-/
import Derived.Test.YtbjfmkdjnglgbaaCodeMath
import Derived.Test.YtbjfmkdjnglgbaaPlaceIds
import Derived.Test.YtbjfmkdjnglgbaaNumRefB
namespace Go.Proofs.Ytbjfmkdjnglgbaa
open Go.RowKit

/-- Blocks that hold no bytes stay. -/
def Kept (w w' : World) : Prop := ∀ (b : Nat) (o : Obj), w.heap[b]? = some o → (∀ cur, o ≠ .cells cur 5 (0, 0)) → w'.heap[b]? = some o
theorem Kept.refl (w : World) : Kept w w := fun _ _ h _ => h
theorem Kept.trans {a b c : World} (h : Kept a b) (k : Kept b c) : Kept a c := fun x o hx hn => k x o (h x o hx hn) hn
theorem Kept.below {w w' : World} (h : Below w.heap.size w w') : Kept w w' := fun b _ hb _ => (h.block b (Array.getElem?_eq_some_iff.1 hb).1).trans hb
/-- Numbers as cells. -/
def i64s (L : List Int) : List Value := L.map fun z => .int .i64 z
theorem nbs_len {L : List Int} (h : ∀ z ∈ L, 0 ≤ z ∧ z ≤ 1099511627776) : (nbs L).length ≤ 6 * L.length := by
  induction L with
  | nil => simp [nbs]
  | cons z L ih =>
    have h1 := ih fun a ha => h a (List.mem_cons_of_mem _ ha)
    have h2 := h z List.mem_cons_self
    have h3 := nb_six (n := z.toNat) (by omega)
    rw [nbs_cons, List.length_append, List.length_cons]
    omega

set_option maxHeartbeats 1600000 in
set_option maxRecDepth 100000 in
theorem cput_ok (v : Value) (pre : List UInt8) (base g c : Nat) (L : List Int) (w : World) (hown : w.ownsRow base 5 1 v pre.length (u8s pre)) (hbase : base ≤ w.heap.size)
    (hg : w.heap[g]? = some (.cells (i64s L).toArray 3 (0, 0))) (hL : ∀ z ∈ L, 0 ≤ z ∧ z ≤ 1099511627776) (hsz : pre.length + 6 * L.length ≤ 1000000000) :
    Calls Try.prog 100 #[v, .slice (some ⟨g, 0, none⟩) L.length c] w fun e w' => ∃ v', e = .returned v' ∧ w'.ownsRow base 5 1 v' (pre ++ nbs L).length (u8s (pre ++ nbs L)) ∧ Below base w w' ∧ Kept w w' := by
  obtain ⟨i0, hi0, hz0, hz1, hz2⟩ := info_parts u8info
  have HL := hide hL
  have Hg := hide hg
  clear hL hg
  go_enter Try.func100, Try.ntmps100
  go_wp2_with fail
  go_loopw [0, 11] (fun u i wr => ∃ k : Nat, k ≤ L.length ∧ i = .int .i64 (k : Int) ∧ wr.ownsRow base 5 1 u (pre ++ nbs (L.take k)).length (u8s (pre ++ nbs (L.take k))) ∧ Below base w wr ∧ Hid (Kept w wr)) (fun _ i _ => L.length - (intOf i).toNat)
  case atStart => exact ⟨0, by omega, rfl, by simpa [nbs] using hown, Below.refl _ _, hide (Kept.refl w)⟩
  case round =>
    obtain ⟨k, hk, rfl, hownk, hb, hkp⟩ := hrel
    by_cases hlt : k < L.length
    · have z0 : (k : Int) < L.length := by omega
      obtain ⟨z, hz⟩ : ∃ z, z = L[k] := ⟨_, rfl⟩
      have hzz := HL.out L[k] (List.getElem_mem hlt)
      rw [← hz] at hzz
      have hgr := hkp.out g _ Hg.out (fun cur e => by simp at e)
      have d0 : wr.cell? ⟨g, k, none⟩ = some (.int .i64 z) := by
        rw [cell_of_row _ _ _ _ _ _ hgr, hz]
        simp [i64s, hlt]
      have hnext : nbs (L.take (k + 1)) = nbs (L.take k) ++ nb z.toNat := by
        rw [List.take_succ_eq_append_getElem hlt, nbs_append, nbs_cons, nbs_nil, List.append_nil, hz]
      have Hnext := hide hnext
      have hlen6 := hide (nb_six (n := z.toNat) (by omega))
      have hlenk := hide (nbs_len (L := L.take k) fun a ha => HL.out a (List.mem_of_mem_take ha))
      have hP := hide (put_int z wr hzz.1 hzz.2)
      clear hgr hz hzz hnext
      go_wp2_with fail
      refine hP.out.mono ?_
      rintro e w2 ⟨v2, rfl, hown2, hb2⟩
      obtain ⟨A2, c2, rfl, -, -, -⟩ := own_slice hown2
      have hownk2 := own_below hownk hb2 (Nat.le_refl _)
      have hbase2 : base ≤ w2.heap.size := Nat.le_trans hbase (Nat.le_trans hb.size hb2.size)
      have hs : (pre ++ nbs (L.take k)).length + (nb z.toNat).length ≤ 1073741824 := by
        have h1 := hlen6.out
        have h2 := hlenk.out
        rw [List.length_take, Nat.min_eq_left (by omega)] at h2
        rw [List.length_append]
        omega
      go_wp2_with (at_builtin; refine wpList_append_held _ rfl (.tmp 20) (.tmp 21) 67 rfl base 5 i0 (.int .u8 0) 1 1 Try.underlying67 hi0 hz0 hz1 hz2 rfl (by decide) _ _ _ rfl hownk2 w2.heap.size A2 (nb z.toNat).length c2 (u8s (nb z.toNat)) rfl (RD.of_own hown2) (u8s_one _) hs (by decide) hbase2 ?_; intro v3 w3 hown3 hb3 hk3)
      go_roundw
      case rel =>
        refine ⟨k + 1, by omega, by go_num, ?_, (hb.trans (hb2.mono (Nat.le_trans hbase hb.size))).trans hb3, hide ((hkp.out.trans (Kept.below hb2)).trans hk3)⟩
        rw [Hnext.out, ← List.append_assoc, u8s_append, List.length_append]
        exact hown3
      case measure => simp [intOf]; omega
    · have hz : ¬ (k : Int) < L.length := by omega
      have hkl : L.take k = L := List.take_of_length_le (by omega)
      rw [hkl] at hownk
      go_wp2_with fail
      go_ret
      exact ⟨_, rfl, by first | exact hownk | (rw [List.length_append] at hownk; exact hownk), hb, hkp.out⟩
end Go.Proofs.Ytbjfmkdjnglgbaa
