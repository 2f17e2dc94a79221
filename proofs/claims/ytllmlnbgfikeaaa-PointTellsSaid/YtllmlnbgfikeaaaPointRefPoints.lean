/-
  What octavoref04.Points and octavoref04.Text do: the same as point.Points, point.Text. Condition: the sizes that each line says.
-/
import Derived.Test.YtllmlnbgfikeaaaPointFirst
namespace Go.Proofs.Ytllmlnbgfikeaaa
open Go.RowKit

/-- How long a string is. -/
def strLen (v : Value) : Nat := match v with | .string b => b.size | _ => 0
theorem strLen_l (l : List UInt8) : strLen (.string ⟨l.toArray⟩) = l.length := rfl

set_option maxHeartbeats 1000000 in
set_option maxRecDepth 100000 in
theorem refpoints_any (l : List UInt8) (w : World) (hl : l.length < 268435456) :
    Calls Try.prog 27 #[.string ⟨l.toArray⟩] w fun e w' => pointed l w e w' ∧ Below w.heap.size w w' := by
  obtain ⟨i0, hi, hz0, hz1, hz2⟩ := info_parts iinfo
  go_enter Try.func27, Try.ntmps27
  go_wp2_with fail
  go_loopw [0, 4] (fun s v wr => ∃ qs m, allP qs ∧ Hid (l = cat qs ++ m) ∧ s = .string ⟨m.toArray⟩ ∧ wr.ownsRow w.heap.size 3 1 v qs.length (ints qs) ∧ Below w.heap.size w wr) (fun s _ _ => strLen s)
  case atStart => exact ⟨[], l, allP_nil, hide rfl, rfl, World.ownsRow_nil _ _ _ _, Below.refl _ _⟩
  case round =>
    obtain ⟨qs, m, hq, hlm, rfl, hown, hb⟩ := hrel
    have hlen := congrArg List.length hlm.out
    rw [List.length_append] at hlen
    have hq2 := (cat_len qs).1
    by_cases hm : m = []
    · subst hm
      have hcod : Cod l qs := ⟨hq, by have := hlm.out; simpa using this.symm⟩
      clear hlen
      have hown' := hide hown
      obtain ⟨A, c, rfl, -, -, -⟩ := own_slice hown
      clear hown
      by_cases h1 : (1024 : Int) < (qs.length : Int)
      · go_wp2_with fail
        go_ret2
        exact ⟨.inr (.inl ⟨qs, hcod, by omega, rfl⟩), hb⟩
      · go_wp2_with fail
        go_ret2
        exact ⟨.inl ⟨qs, _, hcod, by omega, rfl, hown'.out⟩, hb⟩
    · have hpos : 0 < m.length := List.length_pos_iff.2 hm
      have hpos' : (0 : Int) < m.length := by omega
      have hml : m.length < 268435456 := by omega
      have hql : qs.length < 1073741824 := by omega
      have Hlm := hide hlm.out
      have Hm := hide hm
      clear hlen hlm hm
      go_wp2_with fail
      refine (first_any m wr hpos hml).mono ?_
      rintro e w1 ⟨hf, hb1⟩
      cases hfm : fst m with
      | none =>
        have he : e = .returned (.tuple #[.int .i64 0, .int .i64 0]) := by rw [fsted, hfm] at hf; exact hf
        subst he
        have hno := hide (show ∀ ps, ¬ Cod l ps from fun ps => no_cod hq Hlm.out Hm.out hfm ps)
        clear hf hfm
        go_wp2_with fail
        go_ret2
        exact ⟨.inr (.inr ⟨hno.out, rfl⟩), fresh hb hb1⟩
      | some pk =>
        obtain ⟨p, k⟩ := pk
        obtain ⟨hp, hk, hx⟩ := fst_some hfm
        have he : e = .returned (.tuple #[.int .i64 (p : Int), .int .i64 (k : Int)]) := by rw [fsted, hfm] at hf; exact hf
        subst he
        have hk1 := (enc_len p).1
        have hkm : k ≤ m.length := by have := congrArg List.length hx; rw [List.length_append] at this; omega
        have hk0 : ((k : Int) == 0) = false := by simp; omega
        have hkm' : (k : Int) ≤ m.length := by omega
        have hq' := allP_append.2 ⟨hq, allP_one hp⟩
        have hl' := hide (show l = cat (qs ++ [p]) ++ m.drop k by rw [cat_append, cat_one, List.append_assoc, ← hx]; exact Hlm.out)
        have hext : (⟨m.toArray⟩ : ByteArray).extract k m.length = ⟨(m.drop k).toArray⟩ := by rw [ext_l, List.take_of_length_le (Nat.le_refl _)]
        have hown1 := own_below hown hb1 (Nat.le_refl _)
        have hbw1 := fresh hb hb1
        have hmeas := hide (show (m.drop k).length < m.length by rw [List.length_drop]; omega)
        clear hf hfm hx hk hp hk1 hown
        go_wp2_with (at_builtin; refine wpList_push rfl _ _ 23 rfl w.heap.size i0 (.int .i64 0) 1 8 Try.underlying23 hi hz0 hz1 hz2 rfl (by decide) _ _ _ rfl hown1 1 rfl rfl rfl hql (by decide) hbw1.size ?_; intro v2 w2 hown2 hb2)
        go_roundw
        case rel =>
          refine ⟨qs ++ [p], m.drop k, hq', hl', rfl, ?_, hbw1.trans hb2⟩
          rw [List.length_append, ints_append]
          exact hown2
        case measure =>
          exact hmeas.out

set_option maxHeartbeats 1000000 in
set_option maxRecDepth 100000 in
theorem reftext_any (A : Option Addr) (n c : Nat) (zs : List Int) (w : World) (hr : RZ w w.heap.size A zs) (hn : zs.length = n) (hl : n < 1073741824) :
    Calls Try.prog 28 #[.slice A n c] w fun e w' => texted zs e ∧ Below w.heap.size w w' := by
  subst hn
  by_cases h1 : (1024 : Int) < (zs.length : Int)
  · go_enter Try.func28, Try.ntmps28
    go_wp2_with fail
    go_ret2
    exact ⟨.inl ⟨by omega, rfl⟩, Below.refl _ _⟩
  have h2 : zs.length ≤ 1024 := by omega
  obtain ⟨i0, hi, hz0, hz1, hz2⟩ := info_parts u8info
  go_enter Try.func28, Try.ntmps28
  go_wp2_with fail
  go_loopw [4, 5] (fun v i wr => ∃ (k : Nat) (qs : List Nat), k ≤ zs.length ∧ i = .int .i64 (k : Int) ∧ allP qs ∧ Hid (zs.take k = casts qs) ∧ wr.ownsRow w.heap.size 5 1 v (cat qs).length (u8s (cat qs)) ∧ Below w.heap.size w wr) (fun _ i _ => zs.length - (intOf i).toNat)
  case atStart => exact ⟨0, [], by omega, rfl, allP_nil, hide rfl, World.ownsRow_nil _ _ _ _, Below.refl _ _⟩
  case round =>
    obtain ⟨k, qs, hk, rfl, hq, hT, hown, hb⟩ := hrel
    by_cases hlt : k < zs.length
    · obtain ⟨b0, o0, rfl, hB0, hC0⟩ := RZ.cell (RD.below hr hb) (by omega)
      have d0 := hC0 k hlt
      clear hC0
      have z0 : (k : Int) < zs.length := by omega
      obtain ⟨x, hx⟩ : ∃ x, x = zs[k] := ⟨_, rfl⟩
      rw [← hx] at d0
      have hx' := hide hx
      clear hx
      by_cases hz : isZ x
      · obtain ⟨p, hxp⟩ : ∃ p : Nat, x = (p : Int) := ⟨x.toNat, by have := hz.1; omega⟩
        have hp : isP p := by have := hz.2; rwa [hxp, Int.toNat_natCast] at this
        clear hz
        have Hxp := hide hxp
        clear hxp
        go_wp2_with fail
        refine (is_yes x p wr Hxp.out hp).mono ?_
        rintro e w' ⟨rfl, rfl⟩
        go_wp2_with fail
        refine (refenc_ok x p wr Hxp.out hp).mono ?_
        rintro e w1 ⟨v1, rfl, hown1, hb1⟩
        obtain ⟨A1, c1, rfl, -, -, -⟩ := own_slice hown1
        have hown0 := own_below hown hb1 (Nat.le_refl _)
        have hbw1 := fresh hb hb1
        have hqk := congrArg List.length hT.out
        rw [List.length_take, casts_len] at hqk
        have hcq := (cat_len qs).2
        have hep := (enc_len p).2
        have hlen : (cat qs).length + (encP p).length ≤ 1073741824 := by omega
        have hr1 : RD w1 w1.heap.size 1 A1 (encP p).length (u8s (encP p)) := RD.of_own hown1
        clear hqk hcq hep hown hown1
        go_wp2_with (at_builtin; refine wpList_append_src _ rfl (.tmp 21) (.tmp 26) 46 rfl w.heap.size 5 i0 (.int .u8 0) 1 1 Try.underlying46 hi hz0 hz1 hz2 rfl (by decide) _ (cat qs).length _ rfl hown0 w1.heap.size A1 (encP p).length c1 (u8s (encP p)) rfl hr1 (u8s_one _) hlen (by decide) hbw1.size ?_; intro v2 w2 hown2 hb2)
        go_roundw
        case rel =>
          refine ⟨k + 1, qs ++ [p], by omega, by go_num, allP_append.2 ⟨hq, allP_one hp⟩, hide ?_, ?_, hbw1.trans hb2⟩
          · rw [List.take_succ_eq_append_getElem hlt, hT.out, ← hx'.out, casts_append, Hxp.out]
            rfl
          · rw [cat_append, cat_one, List.length_append, u8s_append]
            exact hown2
        case measure => simp [intOf]; omega
      · have hz' := hide hz
        clear hz
        go_wp2_with fail
        refine (is_no x wr hz'.out).mono ?_
        rintro e w' ⟨rfl, rfl⟩
        go_wp2_with fail
        go_ret2
        exact ⟨.inr (.inr ⟨h2, ⟨x, by rw [hx'.out]; exact List.getElem_mem _, hz'.out⟩, rfl⟩), hb⟩
    · have hkl : ¬ (k : Int) < zs.length := by omega
      have hfin := hide (show zs = casts qs by have := hT.out; rwa [List.take_of_length_le (by omega)] at this)
      obtain ⟨A1, c1, rfl, -, -, -⟩ := own_slice hown
      have hcv := conv_bytes (P := Try.prog) (RD.of_own hown : RB wr wr.heap.size A1 (cat qs)) Try.underlying46 Try.underlying5 Try.underlying9 c1
      clear hown
      go_wp2_with fail
      go_ret2
      exact ⟨.inr (.inl ⟨h2, qs, hq, hfin.out, rfl⟩), hb⟩
end Go.Proofs.Ytllmlnbgfikeaaa
