/-
  FrameBack: true for every input. No condition (more than 20,000 bytes: at once).
-/
import Derived.Test.YtmekoenmaiekfaaFrameAlive
namespace Go.Proofs.Ytmekoenmaiekfaa
open Go.RowKit

set_option maxHeartbeats 1600000 in
set_option maxRecDepth 100000 in
/-- The second half: what is opened is wrapped as these bytes. -/
theorem frameBack_walk (A : Option Addr) (c : Nat) (l : List UInt8) (w : World) (hr : RB w w.heap.size A l) (hc : l.length ≤ c) :
    Calls Try.prog 16 #[.slice A l.length c] w fun e w' => e = .returned (.bool true) ∧ Below w.heap.size w w' := by
  by_cases hl : (20000 : Int) < (l.length : Int)
  · go_enter Try.func16, Try.ntmps16
    go_wp2_with fail
    refine (framealive_ok _).mono ?_
    rintro e w1 ⟨rfl, hb1⟩
    go_wp2_with fail
    go_ret
    exact ⟨rfl, hb1⟩
  by_cases hm : (16384 : Int) < (l.length : Int)
  · go_enter Try.func16, Try.ntmps16
    go_wp2_with fail
    refine (framealive_ok _).mono ?_
    rintro e wa ⟨rfl, hba⟩
    go_wp2_with fail
    refine (wrap_many A c l wa hm).mono ?_
    rintro e w2 ⟨rfl, rfl⟩
    have hra : RB wa wa.heap.size A l := (RD.below hr hba).more hba.size
    go_wp2_with fail
    refine (open_any A c l wa hra hc (by omega)).mono ?_
    rintro e wb ⟨ho, hbb⟩
    have hab := fresh hba hbb
    cases hop : opn l with
    | none =>
      obtain rfl := opened_none' hop ho
      clear ho hop
      go_wp2_with fail
      go_ret
      exact ⟨rfl, hab⟩
    | some m =>
      obtain ⟨v2, rfl, hown2⟩ := opened_some' hop ho
      obtain ⟨hlm, hml⟩ := opn_inv hop
      clear ho hop
      obtain ⟨A2, c2, rfl, -, -, -⟩ := own_slice hown2
      have hr2 : RB wb wb.heap.size A2 m := RD.of_own hown2
      clear hown2
      have Hlm := hide hlm
      clear hlm
      go_wp2_with fail
      refine (wrap_ok A2 c2 m wb hr2 hml).mono ?_
      rintro e wc ⟨v3, rfl, hown3, hbc⟩
      rw [← Hlm.out] at hown3
      obtain ⟨A3, c3, rfl, -, -, -⟩ := own_slice hown3
      have hr3 : RB wc wc.heap.size A3 l := RD.of_own hown3
      have hrc : RB wc wc.heap.size A l := (RD.below (RD.below hra hbb) (hbc.mono hbb.size)).more (Nat.le_trans hbb.size hbc.size)
      have k1 := conv_bytes (P := Try.prog) hr3 Try.underlying23 Try.underlying5 Try.underlying9 c3
      have k2 := conv_bytes (P := Try.prog) hrc Try.underlying23 Try.underlying5 Try.underlying9 c
      clear hown3 hr3 hrc
      go_wp2_with fail
      go_ret
      exact ⟨rfl, fresh hab hbc⟩
  · have hnb : (l.length : Int) ≤ 16384 := by omega
    go_enter Try.func16, Try.ntmps16
    go_wp2_with fail
    refine (framealive_ok _).mono ?_
    rintro e w1 ⟨rfl, hb1⟩
    have hr1 : RB w1 w1.heap.size A l := (RD.below hr hb1).more hb1.size
    go_wp2_with fail
    refine (wrap_ok A c l w1 hr1 (by omega)).mono ?_
    rintro e w2 ⟨v2, rfl, hown2, hb2⟩
    obtain ⟨A2, c2, rfl, hc2, -, -⟩ := own_slice hown2
    have hr2 : RB w2 w2.heap.size A2 (frm l) := RD.of_own hown2
    clear hown2
    go_wp2_with fail
    refine (open_any A2 c2 (frm l) w2 hr2 hc2 (by have := nb_six (n := l.length) (by omega); rw [frm_len]; omega)).mono ?_
    rintro e wa ⟨ho, hb3⟩
    obtain ⟨v3, rfl, hown3⟩ := opened_some' (opn_frm l (by omega)) ho
    obtain ⟨A3, c3, rfl, -, -, -⟩ := own_slice hown3
    have hr3 : RB wa wa.heap.size A3 l := RD.of_own hown3
    have hba := fresh (fresh hb1 hb2) hb3
    have hra : RB wa wa.heap.size A l := (RD.below hr hba).more hba.size
    have k1 := conv_bytes (P := Try.prog) hr3 Try.underlying23 Try.underlying5 Try.underlying9 c3
    have k2 := conv_bytes (P := Try.prog) hra Try.underlying23 Try.underlying5 Try.underlying9 c
    clear ho hown3 hr3 hr2 hr1 hb3 hb2 hb1
    go_wp2_with fail
    clear k1 k2
    refine (open_any A c l wa hra hc (by omega)).mono ?_
    rintro e wb ⟨ho, hbb⟩
    have hab := fresh hba hbb
    cases hop : opn l with
    | none =>
      obtain rfl := opened_none' hop ho
      clear ho hop
      go_wp2_with fail
      go_ret
      exact ⟨rfl, hab⟩
    | some m =>
      obtain ⟨v2, rfl, hown2⟩ := opened_some' hop ho
      obtain ⟨hlm, hml⟩ := opn_inv hop
      clear ho hop
      obtain ⟨A2, c2, rfl, -, -, -⟩ := own_slice hown2
      have hr2 : RB wb wb.heap.size A2 m := RD.of_own hown2
      clear hown2
      have Hlm := hide hlm
      clear hlm
      go_wp2_with fail
      refine (wrap_ok A2 c2 m wb hr2 hml).mono ?_
      rintro e wc ⟨v3, rfl, hown3, hbc⟩
      rw [← Hlm.out] at hown3
      obtain ⟨A3, c3, rfl, -, -, -⟩ := own_slice hown3
      have hr3 : RB wc wc.heap.size A3 l := RD.of_own hown3
      have hrc : RB wc wc.heap.size A l := (RD.below (RD.below hra hbb) (hbc.mono hbb.size)).more (Nat.le_trans hbb.size hbc.size)
      have k1 := conv_bytes (P := Try.prog) hr3 Try.underlying23 Try.underlying5 Try.underlying9 c3
      have k2 := conv_bytes (P := Try.prog) hrc Try.underlying23 Try.underlying5 Try.underlying9 c
      clear hown3 hr3 hrc
      go_wp2_with fail
      go_ret
      exact ⟨rfl, fresh hab hbc⟩
end Go.Proofs.Ytmekoenmaiekfaa
