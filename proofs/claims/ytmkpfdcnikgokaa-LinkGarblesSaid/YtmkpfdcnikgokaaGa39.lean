/-
  Texts of this claim, put together: LinkGarbles, Open, OpenFrs. What each theorem asks stands in its statement.
-/
import Derived.Test.YtmkpfdcnikgokaaRows
import Derived.ProofKit
import Derived.OpenShut
import Derived.ShutString
import Derived.ChangeOld
import Derived.Deep.Slices
import Derived.Test.YtmkpfdcnikgokaaGa1
import Derived.Test.YtmkpfdcnikgokaaGa2
import Derived.Test.YtmkpfdcnikgokaaGa38
set_option linter.unusedVariables false
set_option linter.unusedSimpArgs false
namespace Go.Proofs.Ytmkpfdcnikgokaa
open Go.RowKit
theorem gar_ok {L : List FrL} {m : Int} {b : List UInt8} (h : garE L m b = 0) : okF L ∧ 0 ≤ m ∧ m < L.length ∧ b.length ≤ 20000 := by
  unfold garE at h
  split at h
  · rename_i h1
    obtain ⟨a, b', c⟩ := atE_ok h1
    refine ⟨a, b', c, ?_⟩
    unfold gar1E at h
    split at h
    · cases h
    · omega
  · rename_i h1
    exact (h1 h).elim
theorem gar_bad {L : List FrL} {m : Int} {b : List UInt8} (h : garE L m b ≠ 0) : garV L m b = [] := by
  unfold garE garV at *
  split
  · rename_i h1
    rw [if_pos h1] at h
    unfold gar1E gar1V at *
    split
    · rfl
    · rename_i h2
      rw [if_neg h2] at h
      exact (h rfl).elim
  · rfl
/-- What is left when one is taken, of a list in which it was put. -/
theorem eraseIdx_set {α : Type} : ∀ (l : List α) (i : Nat) (x : α), (l.set i x).eraseIdx i = l.eraseIdx i
  | [], _, _ => rfl
  | _ :: _, 0, _ => rfl
  | y :: l, i + 1, x => by simp only [List.set_cons_succ, List.eraseIdx_cons_succ, eraseIdx_set l i x]
set_option maxHeartbeats 12800000 in
set_option maxRecDepth 100000 in
theorem linkGarbles_walk (A0 bA : Option Addr) (n0 c0 bn bc : Nat) (m : Int) (L : List FrL) (b : List UInt8) (w : World) (hr0 : RF w w.heap.size A0 L) (hn0 : L.length = n0) (hrb : RB w w.heap.size bA b) (hbn : b.length = bn) (hbc : bn ≤ bc) :
    Calls Try.prog 4 #[.slice A0 n0 c0, .int .i64 m, .slice bA bn bc] w fun e w' => e = .returned (.bool true) ∧ Below w.heap.size w w' := by
  have HR0 := hide hr0
  have Hn0 := hide hn0
  have HRb := hide hrb
  have Hbn := hide hbn
  clear hr0 hn0 hrb hbn
  go_enter Try.func4, Try.ntmps4
  go_wp2_with fail
  refine (lalive w).mono ?_
  rintro e w1 ⟨rfl, hb1⟩
  go_wp2_with fail
  refine (lgreat A0 n0 c0 L w1 ((HR0.out.below hb1).more hb1.size) Hn0.out).mono ?_
  rintro e w2 ⟨v, rfl, ⟨g, rfl, hg⟩, rfl⟩
  cases g with
  | true =>
    clear hg
    go_wp2_with fail
    go_ret
    exact ⟨rfl, hb1⟩
  | false =>
  by_cases h30 : (30000 : Int) < bn
  · clear hg
    go_wp2_with fail
    go_ret
    exact ⟨rfl, hb1⟩
  have hn100 : n0 ≤ 100 := hg rfl
  have hb30 : bn ≤ 30000 := by omega
  clear hg
  have HGa := hide (lgarble A0 bA n0 c0 bn bc m b L w2 ((HR0.out.below hb1).more hb1.size) Hn0.out ((RD.below HRb.out hb1).more hb1.size) Hbn.out hbc)
  by_cases hE : garE L m b = 0
  rotate_left
  · obtain ⟨er, her⟩ : ∃ q, q = garE L m b := ⟨_, rfl⟩
    rw [← her] at HGa hE
    rw [gar_bad (by rw [← her]; exact hE)] at HGa
    clear her
    go_wp2_with fail
    refine HGa.out.mono ?_
    rintro e w3 ⟨A3, c3, Q, rfl, hQ, hO3, hb3⟩
    have hl : Q.length = 0 := by rw [← List.length_map FrL.b, hQ]; rfl
    rw [hl]
    have hb03 := fresh hb1 hb3
    clear hQ hO3 hl
    go_wp2_with fail
    go_ret
    exact ⟨rfl, hb03⟩
  obtain ⟨hok, hm0, hm1, hb20⟩ := gar_ok hE
  obtain ⟨mm, rfl⟩ : ∃ mm : Nat, m = mm := ⟨m.toNat, by omega⟩
  have hmL : mm < L.length := by omega
  obtain ⟨xm, hxm⟩ : ∃ x, L[mm]? = some x := ⟨_, List.getElem?_eq_getElem hmL⟩
  have HAT := hide (atE_of (L := L) (m := mm) rfl (by rw [List.length_map]; exact hok.1) (fun y hy => by
    obtain ⟨z, hz, rfl⟩ := List.mem_map.1 hy
    exact hok.2 z hz) (by rw [List.length_map]; exact hmL))
  have HV := hide (show garV L mm b = if codeM b = 0 then (L.map FrL.b).eraseIdx mm else (L.map FrL.b).set mm b by
    unfold garV
    rw [if_pos HAT.out.1, Int.toNat_natCast, gar1V, if_neg (by omega)])
  have Hok := hide hok
  have HmL := hide hmL
  have Hb20 := hide hb20
  rw [hE] at HGa
  clear hE hok hm0 hm1 hb20 hmL hxm
  go_wp2_with fail
  refine HGa.out.mono ?_
  rintro e w4 ⟨A4, c4, Q, rfl, hQ, hO4, hb4⟩
  rw [HV.out] at hQ
  have HQ := hide hQ
  have HO4 := hide hO4
  have HB4 := hide (fresh hb1 hb4)
  have HG := hide (mget_any bA bn bc b w4 ((RD.below HRb.out HB4.out).more HB4.out.size) Hbn.out hbc (by omega))
  clear hQ hO4 hb4 HGa HV
  obtain ⟨qn, hqn⟩ : ∃ q, q = Q.length := ⟨_, rfl⟩
  have Hqn := hide hqn.symm
  rw [← hqn]
  clear hqn
  by_cases hcode : codeM b = 0
  · rw [hcode] at HG
    have HQ1 := hide (show Q.map FrL.b = (L.map FrL.b).eraseIdx mm by rw [HQ.out, if_pos hcode])
    clear HQ hcode
    go_wp2_with fail
    refine HG.out.mono ?_
    rintro e w4' ⟨x, rfl, -, -, -, hb4'⟩
    simp only [MlL.val]
    obtain ⟨w5, hw5, F5, hs5, hb5⟩ := mail_box w4' (.int .u8 0) (.int .u32 0) (.int .u8 0) (.int .i64 0) (.slice none 0 0) (.slice none 0 0) (.slice none 0 0)
    obtain ⟨f0, f1, f2, f3, f4, f5, f6, F6, hb6⟩ := refill (.int .u8 x.k) (.int .u32 x.t) (.int .u8 x.r) (.int .i64 x.ix) (.slice x.iA x.i.length x.ic) (.slice x.oA x.o.length x.oc) (.slice x.sA x.s.length x.sc) F5 (Below.refl w4'.heap.size w5) (Nat.le_refl _)
    obtain ⟨y0, y1, y2, y3, y4, y5, y6⟩ := F5.cells
    obtain ⟨w6, hw6⟩ : ∃ q, ((((((w5.setCell ⟨w4'.heap.size, 0, none⟩ (.int .u8 x.k)).setCell ⟨w4'.heap.size, 1, none⟩ (.int .u32 x.t)).setCell ⟨w4'.heap.size, 2, none⟩ (.int .u8 x.r)).setCell ⟨w4'.heap.size, 3, none⟩ (.int .i64 x.ix)).setCell ⟨w4'.heap.size, 4, none⟩ (.slice x.iA x.i.length x.ic)).setCell ⟨w4'.heap.size, 5, none⟩ (.slice x.oA x.o.length x.oc)).setCell ⟨w4'.heap.size, 6, none⟩ (.slice x.sA x.s.length x.sc) = q := ⟨_, rfl⟩
    rw [hw6] at F6 hb6
    have HB46 := hide (fresh hb4' (hb5.trans hb6))
    have HB6 := hide (fresh HB4.out HB46.out)
    clear F5 F6 hb4' hb5 hb6 hs5
    have HP := hide (lpull A0 n0 c0 mm L w6 ((HR0.out.below HB6.out).more HB6.out.size) Hn0.out)
    rw [HAT.out.1, HAT.out.2] at HP
    go_wp2_with fail
    refine HP.out.mono ?_
    rintro e w7 ⟨A7, c7, R, y, rfl, -, hR, -, hOR, hb7⟩
    have hlq : Q.length = n0 - 1 := by rw [← List.length_map FrL.b, HQ1.out, List.length_eraseIdx, if_pos (by rw [List.length_map]; exact HmL.out), List.length_map, Hn0.out]
    have hlR : R.length = n0 - 1 := by rw [← List.length_map FrL.b, hR, List.length_eraseIdx, if_pos (by rw [List.length_map]; exact HmL.out), List.length_map, Hn0.out]
    have hB7 := fresh HB6.out hb7
    have hB47 := fresh HB46.out hb7
    obtain ⟨rn, hrn⟩ : ∃ q, q = R.length := ⟨_, rfl⟩
    have Hrn := hide hrn.symm
    rw [← hrn]
    have S := hide (lsame A4 A7 qn rn c4 c7 Q R w7 ((HO4.out.rf.below (fresh hB47 (Below.refl w7.heap.size w7))).more (fresh hB47 (Below.refl w7.heap.size w7)).size) ((hOR.rf.below (Below.refl w7.heap.size w7)).more (Below.refl w7.heap.size w7).size) Hqn.out Hrn.out (by rw [← Hqn.out, hlq]; omega))
    rw [decide_eq_true (by rw [HQ1.out, hR] : Q.map FrL.b = R.map FrL.b)] at S
    clear hR hOR hlq hlR hb7 hB47 HP HB6 HB46 HG hrn
    go_wp2_with fail
    refine (unhide S).mono ?_
    rintro e w9 ⟨rfl, hb9⟩
    have hbz := fresh hB7 hb9
    clear S
    go_wp2_with fail
    go_ret
    exact ⟨rfl, hbz⟩
  · obtain ⟨code, hcd⟩ : ∃ q, q = codeM b := ⟨_, rfl⟩
    have HQ1 := hide (show Q.map FrL.b = (L.map FrL.b).set mm b by rw [HQ.out, if_neg hcode])
    rw [← hcd] at HG hcode
    have hcb : (code == 0) = false := beq_eq_false_iff_ne.2 hcode
    clear HQ hcd
    go_wp2_with fail
    refine HG.out.mono ?_
    rintro e w4' ⟨x, rfl, -, -, -, hb4'⟩
    simp only [MlL.val]
    obtain ⟨w5, hw5, F5, hs5, hb5⟩ := mail_box w4' (.int .u8 0) (.int .u32 0) (.int .u8 0) (.int .i64 0) (.slice none 0 0) (.slice none 0 0) (.slice none 0 0)
    obtain ⟨f0, f1, f2, f3, f4, f5, f6, F6, hb6⟩ := refill (.int .u8 x.k) (.int .u32 x.t) (.int .u8 x.r) (.int .i64 x.ix) (.slice x.iA x.i.length x.ic) (.slice x.oA x.o.length x.oc) (.slice x.sA x.s.length x.sc) F5 (Below.refl w4'.heap.size w5) (Nat.le_refl _)
    obtain ⟨y0, y1, y2, y3, y4, y5, y6⟩ := F5.cells
    obtain ⟨w6, hw6⟩ : ∃ q, ((((((w5.setCell ⟨w4'.heap.size, 0, none⟩ (.int .u8 x.k)).setCell ⟨w4'.heap.size, 1, none⟩ (.int .u32 x.t)).setCell ⟨w4'.heap.size, 2, none⟩ (.int .u8 x.r)).setCell ⟨w4'.heap.size, 3, none⟩ (.int .i64 x.ix)).setCell ⟨w4'.heap.size, 4, none⟩ (.slice x.iA x.i.length x.ic)).setCell ⟨w4'.heap.size, 5, none⟩ (.slice x.oA x.o.length x.oc)).setCell ⟨w4'.heap.size, 6, none⟩ (.slice x.sA x.s.length x.sc) = q := ⟨_, rfl⟩
    rw [hw6] at F6 hb6
    have HB46 := hide (fresh hb4' (hb5.trans hb6))
    have HB6 := hide (fresh HB4.out HB46.out)
    clear F5 F6 hb4' hb5 hb6 hs5
    have hQb : ∀ y ∈ (L.map FrL.b).set mm b, y.length ≤ 20000 := fun y hy => by
      rcases List.mem_or_eq_of_mem_set hy with h | rfl
      · obtain ⟨z, hz, rfl⟩ := List.mem_map.1 h
        exact Hok.out.2 z hz
      · exact Hb20.out
    have hlm : ((L.map FrL.b).set mm b).length = n0 := by rw [List.length_set, List.length_map, Hn0.out]
    have HAQ := hide (atE_of (L := Q) (m := mm) HQ1.out (by rw [hlm, ← Hn0.out]; exact Hok.out.1) hQb (by rw [hlm, ← Hn0.out]; exact HmL.out))
    have hlq : Q.length = n0 := by rw [← List.length_map FrL.b, HQ1.out, hlm]
    have HPQ := hide (lpull A4 qn c4 mm Q w6 ((HO4.out.rf.below HB46.out).more HB46.out.size) Hqn.out)
    rw [HAQ.out.1, HAQ.out.2, eraseIdx_set, List.getElem?_set_self (by rw [List.length_map]; exact HmL.out)] at HPQ
    clear hQb hlm hlq HAQ
    go_wp2_with fail
    refine HPQ.out.mono ?_
    rintro e w7 ⟨A7, c7, R, y, rfl, hy, hR, hoy, hOR, hb7⟩
    have hy' : y.b = b := hy
    have hR' : R.map FrL.b = (L.map FrL.b).eraseIdx mm := hR
    have HB7 := hide (fresh HB6.out hb7)
    have HP := hide (lpull A0 n0 c0 mm L w7 ((HR0.out.below HB7.out).more HB7.out.size) Hn0.out)
    rw [HAT.out.1, HAT.out.2] at HP
    have HY := hide (And.intro hy' (And.intro hR' (And.intro hoy hOR)))
    clear hy hR hoy hOR hy' hR' HPQ
    go_wp2_with fail
    refine HP.out.mono ?_
    rintro e w8 ⟨A8, c8, R2, y2, rfl, -, hR2, -, hOR2, hb8⟩
    have hR2' : R2.map FrL.b = (L.map FrL.b).eraseIdx mm := hR2
    have HB8 := hide (fresh HB7.out hb8)
    obtain ⟨rn, hrn⟩ : ∃ q, q = R.length := ⟨_, rfl⟩
    have Hrn := hide hrn.symm
    obtain ⟨rm, hrm⟩ : ∃ q, q = R2.length := ⟨_, rfl⟩
    have Hrm := hide hrm.symm
    rw [← hrn, ← hrm]
    have hlR : R.length < 1000000 := by
      rw [← List.length_map FrL.b, HY.out.2.1, List.length_eraseIdx, List.length_map, Hn0.out]
      split <;> omega
    have s1 := conv_bytes (P := Try.prog) (show RB w8 w8.heap.size y.A y.b from by
      have h1 := fresh hb8 (Below.refl w8.heap.size w8)
      exact (RD.below (RD.of_own HY.out.2.2.1 : RB w7 w7.heap.size y.A y.b) h1).more h1.size) Try.underlying28 Try.underlying5 Try.underlying9 y.c
    have s2 := conv_bytes (P := Try.prog) (show RB w8 w8.heap.size bA b from by
      have h1 := fresh HB8.out (Below.refl w8.heap.size w8)
      exact (RD.below HRb.out h1).more h1.size) Try.underlying28 Try.underlying5 Try.underlying9 bc
    rw [Hbn.out] at s2
    have hst : (y.b == b) = true := by have := HY.out.1; simpa using this
    have S := hide (lsame A7 A8 rn rm c7 c8 R R2 w8 ((HY.out.2.2.2.rf.below (fresh hb8 (Below.refl w8.heap.size w8))).more (fresh hb8 (Below.refl w8.heap.size w8)).size) ((hOR2.rf.below (Below.refl w8.heap.size w8)).more (Below.refl w8.heap.size w8).size) Hrn.out Hrm.out (by rw [← Hrn.out]; exact hlR))
    rw [decide_eq_true (by rw [HY.out.2.1, hR2'] : R.map FrL.b = R2.map FrL.b)] at S
    clear hR2 hOR2 hlR hb8 hb7 hR2' HP HB46 HG HB7 HB6 hrn hrm
    go_wp2_with fail
    refine (unhide S).mono ?_
    rintro e w9 ⟨rfl, hb9⟩
    have hbz := fresh HB8.out hb9
    clear S s1 s2 hst
    go_wp2_with fail
    go_ret
    exact ⟨rfl, hbz⟩
end Go.Proofs.Ytmkpfdcnikgokaa
namespace Go.Proofs.Ytmkpfdcnikgokaa
open Go.ChangeShapes Go.WideShapes Go.ChangeAt Go.RowKit
theorem own : ownKnob Try.prog.godebug = none := by kernel_rfl
theorem laidOut : laidOutB Try.prog = true := by kernel_rfl
/-- A slice of bytes that came in. -/
theorem open_bytes {H : Type} {enc : TypeId × Value → H} {P : Program} {W : World} {b0 base : Nat} {r : Reach} {spare : Nat → Bool} {held : Bool} {t e : TypeId} {v : Value} {d : DataW H} {p : List MemPlace}
    (ht : P.underlying t = some (.slice e)) (he : P.underlying e = some (.int .u8)) (hC : P.cellsOf e = 1) (hv : Value.okWide P W r b0 t v) (h : DataW.Trod enc P W base spare held t v d p) :
    ∃ A l c, v = .slice A (List.length (α := UInt8) l) c ∧ RB W W.heap.size A l ∧ l.length ≤ c ∧ c ≤ maxLen := by
  obtain ⟨A, n, c, rfl⟩ := okWide_slice ht hv
  obtain ⟨fuel, hf⟩ := h
  rcases open_ints ht he hC hf with ⟨hcs, _⟩ | ⟨x, l, c', zs, hcs, _, hl, hm, hz, _, hcell, hwz⟩
  · simp [Value.cells] at hcs
    obtain ⟨rfl, rfl, rfl⟩ := hcs
    exact ⟨none, [], 0, rfl, RD.nil_, Nat.le_refl _, Nat.zero_le _⟩
  · simp [Value.cells] at hcs
    obtain ⟨rfl, rfl, rfl⟩ := hcs
    have hle : n ≤ zs.length := by rw [hz]; split <;> omega
    have hb : ∀ n : Int, (Lit.int .u8 n).wf = true → ((UInt8.ofNat n.toNat).toNat : Int) = n := by
      intro k hn
      simp [Lit.wf, IntKind.min, IntKind.max, IntKind.signed, IntKind.bits] at hn
      rw [UInt8.toNat_ofNat', Nat.mod_eq_of_lt (by omega)]
      omega
    refine ⟨some x, (zs.take n).map (fun n => UInt8.ofNat n.toNat), c, ?_, ?_, by simp; omega, hm⟩
    · simp [Nat.min_eq_left hle]
    · refine ⟨by simp [u8s_len], fun hn => ?_⟩
      simp only [List.length_map, List.length_take, Nat.min_eq_left hle] at hn
      have h0 := hcell 0 (by omega)
      have hsp : x.spot = none := by
        have := World.cell?_spot h0
        simpa [Addr.add] using this
      obtain ⟨b, off, spot⟩ := x
      simp only at hsp
      subst hsp
      refine ⟨b, off, rfl, by have := World.block_lt_of_cell? W _ h0; simpa [Addr.add] using this, fun j u hu => ?_⟩
      have hj : j < n := by
        have := (List.getElem?_eq_some_iff.1 hu).1
        simp [u8s_len] at this
        omega
      have hc := hcell j (by omega)
      rw [add_none] at hc
      rw [hc, ← hu]
      have hjz : j < zs.length := by omega
      simp only [u8s, List.map_map, List.getElem?_map, List.getElem?_take, if_pos hj, List.getElem?_eq_getElem hjz, List.getD_eq_getElem?_getD, Option.getD_some, Option.map_some, Function.comp]
      rw [hb _ (hwz _ (List.getElem_mem hjz))]
end Go.Proofs.Ytmkpfdcnikgokaa
namespace Go.Proofs.Ytmkpfdcnikgokaa
open Go.ChangeShapes Go.WideShapes Go.ChangeAt Go.RowKit Go.Deep
/-- A slice of bytes in cells. -/
theorem open_bytes_cs {H : Type} {enc : TypeId × Value → H} {P : Program} {W : World} {base : Nat} {spare : Nat → Bool} {held : Bool} {t e : TypeId} {cs : List Value} {y : DataW H × List MemPlace} {fuel : Nat}
    (ht : P.underlying t = some (.slice e)) (he : P.underlying e = some (.int .u8)) (hC : P.cellsOf e = 1) (hf : DataW.trod enc P W base spare held fuel t cs = some y) :
    ∃ x : FrL, cs = [x.cell] ∧ RB W W.heap.size x.A x.b ∧ x.b.length ≤ x.c ∧ x.c ≤ maxLen ∧ (x.A = none → x.c = 0) := by
  rcases open_ints ht he hC hf with ⟨hcs, _⟩ | ⟨x, l, c', zs, hcs, _, hl, hm, hz, _, hcell, hwz⟩
  · exact ⟨⟨none, 0, []⟩, by simpa [FrL.cell] using hcs, RD.nil_, Nat.le_refl _, Nat.zero_le _, fun _ => rfl⟩
  · have hle : l ≤ zs.length := by rw [hz]; split <;> omega
    have hb : ∀ n : Int, (Lit.int .u8 n).wf = true → ((UInt8.ofNat n.toNat).toNat : Int) = n := by
      intro k hn
      simp [Lit.wf, IntKind.min, IntKind.max, IntKind.signed, IntKind.bits] at hn
      rw [UInt8.toNat_ofNat', Nat.mod_eq_of_lt (by omega)]
      omega
    have hlen : ((zs.take l).map (fun n => UInt8.ofNat n.toNat)).length = l := by simp [Nat.min_eq_left hle]
    refine ⟨⟨some x, c', (zs.take l).map (fun n => UInt8.ofNat n.toNat)⟩, ?_, ?_, by simp only [hlen]; exact hl, hm, fun h => by cases h⟩
    · simp only [FrL.cell, hlen]
      exact hcs
    · refine ⟨by simp [u8s_len], fun hn => ?_⟩
      simp only [hlen] at hn
      have h0 := hcell 0 (by omega)
      have hsp : x.spot = none := by
        have := World.cell?_spot h0
        simpa [Addr.add] using this
      obtain ⟨b, off, spot⟩ := x
      simp only at hsp
      subst hsp
      refine ⟨b, off, rfl, by have := World.block_lt_of_cell? W _ h0; simpa [Addr.add] using this, fun j u hu => ?_⟩
      have hj : j < l := by
        have := (List.getElem?_eq_some_iff.1 hu).1
        simp [u8s_len] at this
        omega
      have hc := hcell j (by omega)
      rw [add_none] at hc
      rw [hc, ← hu]
      have hjz : j < zs.length := by omega
      simp only [u8s, List.map_map, List.getElem?_map, List.getElem?_take, if_pos hj, List.getElem?_eq_getElem hjz, List.getD_eq_getElem?_getD, Option.getD_some, Option.map_some, Function.comp]
      rw [hb _ (hwz _ (List.getElem_mem hjz))]
instance : Inhabited FrL := ⟨⟨none, 0, []⟩⟩
/-- A slice of slices of bytes. -/
theorem open_frs {H : Type} {enc : TypeId × Value → H} {P : Program} {W : World} {b0 base : Nat} {r : Reach} {spare : Nat → Bool} {held : Bool} {t e q : TypeId} {v : Value} {d : DataW H} {p : List MemPlace}
    (ht : P.underlying t = some (.slice e)) (he : P.underlying e = some (.slice q)) (hq : P.underlying q = some (.int .u8)) (ce : P.cellsOf e = 1) (cq : P.cellsOf q = 1) (hv : Value.okWide P W r b0 t v) (h : DataW.Trod enc P W base spare held t v d p) :
    ∃ A L c, v = .slice A (List.length (α := FrL) L) c ∧ RF W W.heap.size A L ∧ L.length ≤ c ∧ c ≤ maxLen ∧ (A = none → c = 0) ∧ ∀ x ∈ L, x.b.length ≤ x.c ∧ x.c ≤ maxLen ∧ (x.A = none → x.c = 0) := by
  obtain ⟨A, n, c, rfl⟩ := okWide_slice ht hv
  obtain ⟨fuel, hf⟩ := h
  rcases open_slice1 ht ce hf with ⟨hcs, _⟩ | ⟨a, len, cap, m, n', V, D, Pl, hcs, _, hl, hm, hmm, _, hx⟩
  · simp [Value.cells] at hcs
    obtain ⟨rfl, rfl, rfl⟩ := hcs
    exact ⟨none, [], 0, rfl, RF.nil _ _ _, Nat.le_refl _, Nat.zero_le _, fun _ => rfl, fun x hx => by cases hx⟩
  · simp [Value.cells] at hcs
    obtain ⟨rfl, rfl, rfl⟩ := hcs
    have hnm : n ≤ m := by rw [hmm]; split <;> omega
    obtain ⟨F, hF⟩ := choose_lt (n := n) (p := fun i (x : FrL) => W.cell? (a.add i) = some x.cell ∧ RB W W.heap.size x.A x.b ∧ x.b.length ≤ x.c ∧ x.c ≤ maxLen ∧ (x.A = none → x.c = 0)) (fun i hi => by
      obtain ⟨k1, k2⟩ := hx i (by omega)
      obtain ⟨x, hx1, hx2, hx3, hx4, hx5⟩ := open_bytes_cs he hq cq k2
      simp only [List.cons.injEq, and_true] at hx1
      exact ⟨x, by rw [k1, hx1], hx2, hx3, hx4, hx5⟩)
    refine ⟨some a, (List.range n).map F, c, by simp, ⟨⟨by rw [frs_len, Nat.mul_one], fun h0 => ?_⟩, fun x hx => ?_⟩, by simpa using hl, hm, fun h => (by cases h), fun x hx => ?_⟩
    · rw [List.length_map, List.length_range] at h0
      have h0' := (hF 0 h0).1
      have hsp : a.spot = none := by
        have := World.cell?_spot h0'
        simpa [Addr.add] using this
      obtain ⟨b, off, spot⟩ := a
      simp only at hsp
      subst hsp
      refine ⟨b, off, rfl, by have := World.block_lt_of_cell? W _ h0'; simpa [Addr.add] using this, fun j u hu => ?_⟩
      have hj : j < n := by
        have := (List.getElem?_eq_some_iff.1 hu).1
        simpa [frs] using this
      have hc := (hF j hj).1
      rw [add_none] at hc
      rw [hc]
      simpa [frs, hj] using hu
    · simp only [List.mem_map, List.mem_range] at hx
      obtain ⟨i, hi, rfl⟩ := hx
      exact (hF i hi).2.1
    · simp only [List.mem_map, List.mem_range] at hx
      obtain ⟨i, hi, rfl⟩ := hx
      exact (hF i hi).2.2
end Go.Proofs.Ytmkpfdcnikgokaa
