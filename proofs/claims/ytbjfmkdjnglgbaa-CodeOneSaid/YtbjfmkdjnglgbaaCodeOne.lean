/-
  CodeOne: an operation's bytes, and the operation of bytes, are the document's. Condition: parts of their types.
-/
import Derived.Test.YtbjfmkdjnglgbaaCodeRefGet
import Derived.Test.YtbjfmkdjnglgbaaCodeGet
import Derived.Test.YtbjfmkdjnglgbaaOpSame
import Derived.Test.YtbjfmkdjnglgbaaOpTwin
import Derived.Test.YtbjfmkdjnglgbaaPastQ
namespace Go.Proofs.Ytbjfmkdjnglgbaa
open Go.RowKit

set_option maxHeartbeats 12800000 in
set_option maxRecDepth 100000 in
theorem codeOne_walk (k t r z : Int) (A0 A1 : Option Addr) (c0 c1 : Nat) (l0 : List Rn) (l1 : List UInt8) (w : World) (hr0 : RR w w.heap.size A0 l0) (hr1 : RB w w.heap.size A1 l1) (hc1 : l1.length ≤ c1) (hn1 : A1 = none → c1 = 0) (ok0 : ∀ x ∈ l0, okR x) (k0 : 0 ≤ k) (hi : okI (t, r)) :
    Calls Try.prog 14 #[opv k t r A0 l0.length c0 z, .slice A1 l1.length c1] w fun e w' => e = .returned (.bool true) ∧ Below w.heap.size w w' := by
  obtain ⟨w1, hw1, F1, hs1, hb1⟩ := five_fb w (.int .u8 k) (.int .u32 t) (.int .u8 r) (.slice A0 l0.length c0) (.int .i64 z)
  have HF1 := hide F1
  have HR1 := hide hr1
  have HR0 := hide hr0
  obtain ⟨o0, o1, o2, o3, o4⟩ := F1.cells
  by_cases hl0 : (300 : Int) < l0.length
  · clear hr0 hr1 hc1 hn1 ok0 hi F1
    go_enter Try.func14, Try.ntmps14
    go_wp2_with fail
    go_ret
    exact ⟨rfl, hb1⟩
  by_cases hl1 : (10000 : Int) < l1.length
  · clear hr0 hr1 hc1 hn1 ok0 hi F1
    go_enter Try.func14, Try.ntmps14
    go_wp2_with fail
    go_ret
    exact ⟨rfl, hb1⟩
  have T0 := hide (oreftwin_any k t r z A0 l0.length c0 l0 w1 (RR.below' hr0 hb1) rfl (by omega))
  have P2 := hide (fun W h => crefwrite_any k t r z A0 l0.length c0 l0 W h rfl ok0 hi)
  have G1 := hide (fun (W : World) h => cget_any A1 l1 l1.length c1 W h rfl (by omega) hc1 hn1)
  have G2 := hide (fun (W : World) h => crefget_any A1 l1 l1.length c1 W h rfl (by omega) hc1)
  rw [getQ_is l1] at G2
  have Ok0 := hide ok0
  have Hi := hide hi
  obtain ⟨q, hq⟩ : ∃ q, outP (getP l1) = q := ⟨_, rfl⟩
  obtain ⟨K, T, R, P, Z, M, E⟩ := q
  rw [hq] at G1 G2
  simp only at G1 G2
  have hPl : P.length < 1073741824 := by
    cases hg : getP l1 with
    | none => rw [hg] at hq; simp only [outP, Prod.mk.injEq] at hq; rw [← hq.2.2.2.1]; decide
    | some o =>
      obtain ⟨k', t', r', p', z', n'⟩ := o
      rw [hg] at hq
      simp only [outP, Prod.mk.injEq] at hq
      rw [← hq.2.2.2.1]
      have := (getP_inv hg).1.2.1.2.1
      omega
  have HPl := hide hPl
  have hl0' : l0.length < 1073741824 := by omega
  have HL0 := hide hl0'
  have k1 := conv_bytes (P := Try.prog) (show RB w1 w1.heap.size A1 l1 from (RD.below hr1 hb1).more hb1.size) Try.underlying67 Try.underlying5 Try.underlying9 c1
  clear hr0 hr1 hc1 hn1 ok0 hi F1 hq hPl hl0'
  go_enter Try.func14, Try.ntmps14
  clear k1
  go_wp2_with fail
  refine T0.out.mono ?_
  rintro e w2 ⟨A2, c2, rfl, hn2, hown2, hb2⟩
  have hb02 := fresh hb1 hb2
  have hr2 := RR.of_own hown2 rfl
  obtain ⟨w3, hw3, F3, hs3, hb3⟩ := five_fb w2 (.int .u8 k) (.int .u32 t) (.int .u8 r) (.slice A2 l0.length c2) (.int .i64 z)
  have hb03 := fresh hb02 hb3
  have hb13 := fresh hb2 hb3
  have HF13 := hide (HF1.out.below hb13)
  have HF3 := hide F3
  have HR23 := hide (RR.below' hr2 hb3)
  have P1 := hide (cwrite_any k t r z A2 l0.length c2 l0 w3 HR23.out rfl HL0.out Ok0.out k0 Hi.out)
  have k3 := conv_bytes (P := Try.prog) (show RB w3 w3.heap.size A1 l1 from (RD.below HR1.out hb03).more hb03.size) Try.underlying67 Try.underlying5 Try.underlying9 c1
  obtain ⟨p0, p1, p2, p3, p4⟩ := F3.cells
  clear hown2 hr2 F3 o0 o1 o2 o3 o4 hw1 hn2
  go_wp2_with fail
  refine P1.out.mono ?_
  rintro e w4 ⟨v4, rfl, hown4, hb4⟩
  have hb04 := fresh hb03 hb4
  have HF14 := hide (HF13.out.below hb4)
  obtain ⟨A4, c4, rfl, -, -, -⟩ := own_slice hown4
  have R4 : RB w4 w4.heap.size A4 (putB k t r l0 z) := RD.of_own hown4
  have HR4 := hide R4
  clear hown4 R4 p0 p1 p2 p3 p4 k3 hw3 P1
  obtain ⟨o0, o1, o2, o3, o4⟩ := HF14.out.cells
  go_wp2_with fail
  refine (unhide P2 w4 (RR.below' HR0.out hb04)).mono ?_
  rintro e w5 ⟨v5, rfl, hown5, hb5⟩
  have hb05 := fresh hb04 hb5
  obtain ⟨A5, c5, rfl, -, -, -⟩ := own_slice hown5
  have R5 : RB w5 w5.heap.size A5 (putB k t r l0 z) := RD.of_own hown5
  have HR5 := hide R5
  clear hown5 R5 o0 o1 o2 o3 o4
  go_wp2_with fail
  refine (unhide G1 w5 ((RD.below HR1.out hb05).more hb05.size)).mono ?_
  rintro e w6 ⟨A6, c6, rfl, hown6, hb6⟩
  have hb06 := fresh hb05 hb6
  have hr6 := RR.of_own hown6 rfl
  obtain ⟨w7, hw7, F7, hs7, hb7⟩ := five_fb w6 (.int .u8 K) (.int .u32 T) (.int .u8 R) (.slice A6 P.length c6) (.int .i64 Z)
  have hb07 := fresh hb06 hb7
  have HF7 := hide F7
  have HR67 := hide (RR.below' hr6 hb7)
  have hb57 := fresh hb6 hb7
  have Hw7 := hide hw7
  clear hown6 hr6 F7 hw7
  go_wp2_with fail
  rw [Hw7.out]
  refine (unhide G2 w7 ((RD.below HR1.out hb07).more hb07.size)).mono ?_
  rintro e w8 ⟨A8, c8, rfl, hown8, hb8⟩
  have hb08 := fresh hb07 hb8
  have hr8 := RR.of_own hown8 rfl
  obtain ⟨w9, hw9, F9, hs9, hb9⟩ := five_fb w8 (.int .u8 K) (.int .u32 T) (.int .u8 R) (.slice A8 P.length c8) (.int .i64 Z)
  have hb09 := fresh hb08 hb9
  have hb79 := fresh hb8 hb9
  have hb59 := fresh hb57 hb79
  have hb49 := fresh hb5 hb59
  have hb39 := fresh hb4 hb49
  have hb19 := fresh hb13 hb39
  have HF9 := hide F9
  have HR89 := hide (RR.below' hr8 hb9)
  have HR69 := hide (RR.below' HR67.out hb79)
  have HF79 := hide (HF7.out.below hb79)
  have HF39 := hide (HF3.out.below hb39)
  have HF19 := hide (HF1.out.below hb19)
  have S1 := hide (oprefsame_any K T R Z K T R Z A6 A8 P.length P.length c6 c8 P P w9 HR69.out HR89.out rfl rfl HPl.out HPl.out)
  rw [decide_eq_true ⟨rfl, rfl, rfl, rfl, rfl⟩] at S1
  have q4w := conv_bytes (P := Try.prog) (show RB w9 w9.heap.size A4 (putB k t r l0 z) from (RD.below HR4.out hb49).more hb49.size) Try.underlying67 Try.underlying5 Try.underlying9 c4
  have q5w := conv_bytes (P := Try.prog) (show RB w9 w9.heap.size A5 (putB k t r l0 z) from (RD.below HR5.out hb59).more hb59.size) Try.underlying67 Try.underlying5 Try.underlying9 c5
  have g1 := HF19.out.lt
  have g3 := HF39.out.lt
  have g7 := HF79.out.lt
  have g9 := HF9.out.lt
  obtain ⟨a0, a1, a2, a3, a4⟩ := HF19.out.cells
  obtain ⟨p0, p1, p2, p3, p4⟩ := HF39.out.cells
  obtain ⟨s0, s1, s2, s3, s4⟩ := HF79.out.cells
  obtain ⟨u0, u1, u2, u3, u4⟩ := HF9.out.cells
  have Hw9 := hide hw9
  clear hown8 hr8 F9 hw9
  go_wp2_with fail
  rw [Hw9.out]
  rw [q4w]
  go_wp2_with fail
  refine S1.out.mono ?_
  rintro e w10 ⟨rfl, hb10⟩
  have hb010 := fresh hb09 hb10
  have hb310 := fresh hb39 hb10
  have S2 := hide (oprefsame_any k t r z k t r z A2 A0 l0.length l0.length c2 c0 l0 l0 w10 (RR.below' HR23.out hb310) (RR.below' HR0.out hb010) rfl rfl HL0.out HL0.out)
  rw [decide_eq_true ⟨rfl, rfl, rfl, rfl, rfl⟩] at S2
  have HF110 := HF19.out.below hb10
  have HF310 := HF39.out.below hb10
  clear a0 a1 a2 a3 a4 p0 p1 p2 p3 p4 s0 s1 s2 s3 s4 u0 u1 u2 u3 u4 q4w q5w
  obtain ⟨a0, a1, a2, a3, a4⟩ := HF110.cells
  obtain ⟨p0, p1, p2, p3, p4⟩ := HF310.cells
  clear HF110 HF310
  go_wp2_with fail
  refine S2.out.mono ?_
  rintro e w11 ⟨rfl, hb11⟩
  have hb011 := fresh hb010 hb11
  have q1 := conv_bytes (P := Try.prog) (show RB w11 w11.heap.size A1 l1 from (RD.below HR1.out hb011).more hb011.size) Try.underlying67 Try.underlying5 Try.underlying9 c1
  go_wp2_with fail
  try rw [q1]
  try go_wp2_with fail
  go_ret
  exact ⟨rfl, hb011⟩
end Go.Proofs.Ytbjfmkdjnglgbaa
