/-
  What octavoref03.Open does: what frame.Open does. Condition: fewer than 100,000 bytes.
-/
import Derived.Test.YtmekoenmaiekfaaFrameRef
namespace Go.Proofs.Ytmekoenmaiekfaa
open Go.RowKit

theorem refget_len (A : Option Addr) (n c : Nat) (l : List UInt8) (w : World) (hr : RB w w.heap.size A l) (hn : l.length = n) (hl : n < 1073741824) :
    Calls Try.prog 31 #[.slice A n c] w fun e w' => e = .returned (gval (gget l)) ∧ w = w' := by
  subst hn
  exact refget_any A c l w hr hl

/-- As the document reads: whatever stands where the body would, framed anew. -/
theorem opn_ref (l : List UInt8) (h : 6 ≤ l.length) : opn l = match gget (l.drop 1) with
    | none => none
    | some (n, s) => if n ≤ 16384 ∧ l.length = 1 + s + n + 4 ∧ frm ((l.take (1 + s + n)).drop (1 + s)) = l then some ((l.take (1 + s + n)).drop (1 + s)) else none := by
  cases ho : opn l with
  | some m =>
    obtain ⟨h1, h2⟩ := opn_inv ho
    subst h1
    have hd : (frm m).drop 1 = nb m.length ++ (m ++ [byteOf (sm (head m)) 0, byteOf (sm (head m)) 1, byteOf (sm (head m)) 2, byteOf (sm (head m)) 3]) := by simp [frm, shut4, head]
    rw [hd, gget_nb _ _ (by omega)]
    have hl := frm_len m
    have hb : ((frm m).take (1 + (nb m.length).length + m.length)).drop (1 + (nb m.length).length) = m := by
      have : (frm m).take (1 + (nb m.length).length + m.length) = head m := by rw [frm, shut4, List.take_left' (head_len m)]
      rw [this, head, Nat.add_comm, List.drop_succ_cons, List.drop_left' rfl]
    show some m = if m.length ≤ 16384 ∧ (frm m).length = 1 + (nb m.length).length + m.length + 4 ∧ frm (((frm m).take (1 + (nb m.length).length + m.length)).drop (1 + (nb m.length).length)) = frm m then some (((frm m).take (1 + (nb m.length).length + m.length)).drop (1 + (nb m.length).length)) else none
    rw [hb, if_pos ⟨h2, by omega, rfl⟩]
  | none =>
    cases hg : gget (l.drop 1) with
    | none => rfl
    | some p =>
      obtain ⟨n, s⟩ := p
      show none = if n ≤ 16384 ∧ l.length = 1 + s + n + 4 ∧ frm ((l.take (1 + s + n)).drop (1 + s)) = l then some ((l.take (1 + s + n)).drop (1 + s)) else none
      rw [if_neg]
      rintro ⟨h1, h2, h3⟩
      have hl : ((l.take (1 + s + n)).drop (1 + s)).length = n := by rw [List.length_drop, List.length_take]; omega
      have h4 := opn_frm ((l.take (1 + s + n)).drop (1 + s)) (by omega)
      rw [h3, ho] at h4
      cases h4

set_option maxHeartbeats 800000 in
set_option maxRecDepth 100000 in
theorem refopen_any (A : Option Addr) (c : Nat) (l : List UInt8) (w : World) (hr : RB w w.heap.size A l) (hc : l.length ≤ c) (hl : l.length < 30000) :
    Calls Try.prog 36 #[.slice A l.length c] w fun e w' => opened w w' e l ∧ Below w.heap.size w w' := by
  by_cases h6 : (l.length : Int) < 6
  · have fin : opn l = none := by unfold opn; rw [if_pos (by omega)]
    go_enter Try.func36, Try.ntmps36
    go_wp2_with fail
    go_ret2
    exact ⟨opened_none fin, Below.refl _ _⟩
  obtain ⟨i0, hi0, hz0, hz1, hz2⟩ := info_parts u8info
  obtain ⟨b0, o0, rfl, hB0, -⟩ := RB.cell hr (by omega)
  have hopn := opn_ref l (by omega)
  have h1l : (1 : Int) ≤ (l.length : Int) := by omega
  have hlc : (l.length : Int) ≤ (c : Int) := by omega
  have hrs : RB w w.heap.size (some ⟨b0, o0 + 1, none⟩) (l.drop 1) := by
    have := hr.sub 1 l.length (Nat.le_refl _)
    rwa [List.take_of_length_le (Nat.le_refl _)] at this
  have Hr := hide hr
  have Hopn := hide hopn
  clear hr hopn
  go_enter Try.func36, Try.ntmps36
  go_wp2_with fail
  refine (refget_len (some ⟨b0, o0 + 1, none⟩) (l.length - 1) (c - 1) (l.drop 1) w hrs (by rw [List.length_drop]) (by omega)).mono ?_
  rintro e w1 ⟨rfl, rfl⟩
  clear hrs
  cases hg : gget (l.drop 1) with
  | none =>
    have hfin := Hopn.out
    rw [hg] at hfin
    clear hg
    unfold gval
    go_wp2_with fail
    go_ret2
    exact ⟨opened_none hfin, Below.refl _ _⟩
  | some p =>
    obtain ⟨n, s⟩ := p
    obtain ⟨hn1, hs1, -, -⟩ := gget_inv hg
    rw [List.length_drop] at hs1
    have hopn := Hopn.out
    rw [hg] at hopn
    change opn l = if n ≤ 16384 ∧ l.length = 1 + s + n + 4 ∧ frm ((l.take (1 + s + n)).drop (1 + s)) = l then some ((l.take (1 + s + n)).drop (1 + s)) else none at hopn
    have hsm : (s : Int) < 1000000 := by omega
    have hnm : (n : Int) ≤ 1099511627776 := by omega
    clear hg Hopn hn1 hs1
    have Hopn := hide hopn
    clear hopn
    rw [gval_some]
    by_cases hbig : (16384 : Int) < (n : Int)
    · have hfin := Hopn.out.trans (if_neg (fun h => by omega))
      ((try dsimp only); repeat (first | go_values | go_skip | go_guarded | go_step | go_back))
      go_ret2
      exact ⟨opened_none hfin, Below.refl _ _⟩
    by_cases hlen : ¬ ((l.length : Int) = 1 + (s : Int) + (n : Int) + 4)
    · have hfin := Hopn.out.trans (if_neg (fun h => by omega))
      have z : ((l.length : Int) != 1 + (s : Int) + (n : Int) + 4) = true := by simp; omega
      clear hlen
      ((try dsimp only); repeat (first | go_values | go_skip | go_guarded | go_step | go_back))
      go_ret2
      exact ⟨opened_none hfin, Below.refl _ _⟩
    replace hlen := Classical.not_not.1 hlen
    have z : ((l.length : Int) != 1 + (s : Int) + (n : Int) + 4) = false := by simp; omega
    have Hlen := hide hlen
    have hb1 : (1 : Int) + (s : Int) ≤ 1 + (s : Int) + (n : Int) := by omega
    have hb2 : (1 : Int) + (s : Int) + (n : Int) ≤ (c : Int) := by omega
    have hcne : ¬ (c = 1 + s) := by omega
    clear hlen
    ((try dsimp only); repeat (first | go_values | go_skip | go_guarded | go_step | go_back))
    have hsub : 1 + s + n - (1 + s) = n := by omega
    simp only [hsub]
    have hrb : RB w w.heap.size (some ⟨b0, o0 + (1 + s), none⟩) ((l.take (1 + s + n)).drop (1 + s)) := (unhide Hr).sub (1 + s) (1 + s + n) (by have := Hlen.out; omega)
    have hlb : ((l.take (1 + s + n)).drop (1 + s)).length = n := by rw [List.length_drop, List.length_take]; have := Hlen.out; omega
    obtain ⟨bd, hbd⟩ : ∃ bd, bd = (l.take (1 + s + n)).drop (1 + s) := ⟨_, rfl⟩
    rw [← hbd] at hrb hlb Hopn
    have hn3 : n < 30000 := by omega
    have hkl : ∀ W, Below w.heap.size w W → (convert 23 9 (.slice (some ⟨b0, o0, none⟩) l.length c)).run Try.prog W = .ok (.string ⟨l.toArray⟩) W := fun W hW =>
      conv_bytes (P := Try.prog) (RD.below (unhide Hr) hW) Try.underlying23 Try.underlying5 Try.underlying9 c
    clear hbd Hr
    have hrb' : RB w.drew w.drew.heap.size (some ⟨b0, o0 + (1 + s), none⟩) bd := hrb
    have kl0 := hkl w (Below.refl _ _)
    have kl1 := hkl w.drew (Below.refl _ _).drew
    go_region_with (go_at_call 44; refine (framed_ok (some ⟨b0, o0 + (1 + s), none⟩) n (c - (1 + s)) bd w.drew hrb' hlb hn3).mono ?_; rintro e wx ⟨vx, rfl, hownx, hbx⟩; obtain ⟨Ax, cx, rfl, -, -, -⟩ := own_slice hownx; have hbw : Below w.heap.size w wx := (Below.refl _ _).drew.trans hbx; have kl := hkl wx hbw; have kx := conv_bytes (P := Try.prog) (RD.of_own hownx : RB wx wx.heap.size Ax (frm bd)) Try.underlying23 Try.underlying5 Try.underlying9 cx; clear hownx)
    all_goals
      by_cases hq : frm bd = l
      · have hfin : opn l = some bd := Hopn.out.trans (if_pos ⟨by omega, by have := Hlen.out; omega, hq⟩)
        have hrx : RD wx w.heap.size 1 (some ⟨b0, o0 + (1 + s), none⟩) n (u8s bd) := by
          have := RD.below hrb hbw
          unfold RB at this
          rwa [hlb] at this
        have hne : (!frm bd == l) = false := by simp [hq]
        rw [hne]
        clear hne hq kl kx kl0 kl1 hkl hrb hrb' z hb1 hb2 hcne hsub hsm hnm hlc h1l hc h6
        go_wp2_with (at_builtin; refine wpList_append_src _ rfl (.tmp 48) (.tmp 49) 23 rfl w.heap.size 5 i0 (.int .u8 0) 1 1 Try.underlying23 hi0 hz0 hz1 hz2 rfl (by decide) _ 0 [] rfl (own_empty wx _ _ _ hbw.size) w.heap.size (some ⟨b0, o0 + (1 + s), none⟩) n (c - (1 + s)) (u8s bd) rfl (RD.alloc hrx hbw.size _) (u8s_one _) (by omega) (by decide) (by simp; have := hbw.size; omega) ?_; intro v9 w9 hown9 hb9; simp only [Nat.zero_add, List.nil_append] at hown9)
        go_ret2
        rw [← hlb] at hown9
        exact ⟨opened_some hfin hown9, hbw.trans (((Below.refl w.heap.size wx).alloc hbw.size _).trans hb9)⟩
      · have hfin : opn l = none := Hopn.out.trans (if_neg (fun h => hq h.2.2))
        have hne : (!frm bd == l) = true := by simp [hq]
        rw [hne]
        clear hne hq kl kx kl0 kl1 hkl hrb hrb' z hb1 hb2 hcne hsub hsm hnm hlc h1l hc h6
        go_wp2_with fail
        go_ret2
        exact ⟨opened_none hfin, hbw⟩
end Go.Proofs.Ytmekoenmaiekfaa
