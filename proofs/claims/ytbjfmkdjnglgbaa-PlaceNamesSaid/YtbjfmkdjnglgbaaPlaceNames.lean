/-
  PlaceNames. No condition.
-/
import Derived.Test.YtbjfmkdjnglgbaaPlaceAlive
namespace Go.Proofs.Ytbjfmkdjnglgbaa
open Go.RowKit

set_option maxHeartbeats 12800000 in
set_option maxRecDepth 100000 in
theorem placeNames_walk (w : World) : Calls Try.prog 7 #[] w fun e w' => e = .returned (.bool true) ∧ Below w.heap.size w w' := by
  go_enter Try.func7, Try.ntmps7
  go_wp2_with fail
  refine (prun_ok 1 0 2 _).mono ?_
  rintro e w1 ⟨rfl, hb1⟩
  have hbw := hb1
  clear hb1
  go_wp2_with fail
  refine (pof_ok _ _ _ _).mono ?_
  rintro e w2 ⟨rfl, hb2⟩
  have hn2 := RR.below' (RR.new w1 #[.int .u32 1, .int .u8 0, .int .i64 2] 41 [(1, 0, 2)] rfl) hb2
  have hb2 := fresh (boxed w1 (.cells #[.int .u32 1, .int .u8 0, .int .i64 2] 41)) hb2
  replace hbw := fresh hbw hb2
  have hra := hn2
  clear hn2 hb2
  go_wp2_with fail
  refine (punder_any _ _ _ [(1, 0, 2)] 3 1 _ hra rfl (by decide) (fun h => by cases h) (okR_dec (by decide)) (by decide) (by decide) (by decide) (by decide)).mono ?_
  rw [show underR [(1, 0, 2)] 3 1 = ([(1, 0, 2), (3, 1, 1)], 0) from by decide]
  rintro e w3 ⟨A3, c3, g3, rfl, S3, hA3, hb3⟩
  replace hra := RR.below' hra hb3
  replace hbw := fresh hbw hb3
  have hru : RR w3 w3.heap.size A3 [(1, 0, 2), (3, 1, 1)] := SB.rr S3
  clear S3 hb3
  clear hra
  go_wp2_with fail
  refine (punder_any none 0 0 [] 7 2 _ RD.nil_ rfl (by decide) (fun _ => rfl) (fun _ h => by cases h) (by decide) (by decide) (by decide) (by decide)).mono ?_
  rw [show underR [] 7 2 = ([(7, 2, 1)], 0) from by decide]
  rintro e w4 ⟨A4, c4, g4, rfl, S4, hA4, hb4⟩
  replace hru := RR.below' hru hb4
  replace hbw := fresh hbw hb4
  have hrv : RR w4 w4.heap.size A4 [(7, 2, 1)] := SB.rr S4
  clear S4 hb4
  go_wp2_with fail
  refine (prun_ok 1 0 2 _).mono ?_
  rintro e w5 ⟨rfl, hb5⟩
  replace hru := RR.below' hru hb5
  replace hrv := RR.below' hrv hb5
  replace hbw := fresh hbw hb5
  clear hb5
  go_wp2_with fail
  refine (pof_ok _ _ _ _).mono ?_
  rintro e w6 ⟨rfl, hb6⟩
  have hn6 := RR.below' (RR.new w5 #[.int .u32 1, .int .u8 0, .int .i64 2] 41 [(1, 0, 2)] rfl) hb6
  have hb6 := fresh (boxed w5 (.cells #[.int .u32 1, .int .u8 0, .int .i64 2] 41)) hb6
  replace hru := RR.below' hru hb6
  replace hrv := RR.below' hrv hb6
  replace hbw := fresh hbw hb6
  have hra := hn6
  clear hn6 hb6
  go_wp2_with fail
  refine (punder_any _ _ _ [(1, 0, 2)] 2 1 _ hra rfl (by decide) (fun h => by cases h) (okR_dec (by decide)) (by decide) (by decide) (by decide) (by decide)).mono ?_
  rw [show underR [(1, 0, 2)] 2 1 = ([], 2) from by decide]
  rintro e w7 ⟨A7, c7, g7, rfl, S7, hA7, hb7⟩
  replace hru := RR.below' hru hb7
  replace hrv := RR.below' hrv hb7
  replace hra := RR.below' hra hb7
  replace hbw := fresh hbw hb7
  have hrx : RR w7 w7.heap.size A7 [] := SB.rr S7
  clear S7 hb7
  clear hra hrx
  go_wp2_with fail
  refine (prun_ok 1 0 4096 _).mono ?_
  rintro e w8 ⟨rfl, hb8⟩
  replace hru := RR.below' hru hb8
  replace hrv := RR.below' hrv hb8
  replace hbw := fresh hbw hb8
  clear hb8
  go_wp2_with fail
  refine (pof_ok _ _ _ _).mono ?_
  rintro e w9 ⟨rfl, hb9⟩
  have hn9 := RR.below' (RR.new w8 #[.int .u32 1, .int .u8 0, .int .i64 4096] 41 [(1, 0, 4096)] rfl) hb9
  have hb9 := fresh (boxed w8 (.cells #[.int .u32 1, .int .u8 0, .int .i64 4096] 41)) hb9
  replace hru := RR.below' hru hb9
  replace hrv := RR.below' hrv hb9
  replace hbw := fresh hbw hb9
  have hra := hn9
  clear hn9 hb9
  go_wp2_with fail
  refine (punder_any _ _ _ [(1, 0, 4096)] 5000 0 _ hra rfl (by decide) (fun h => by cases h) (okR_dec (by decide)) (by decide) (by decide) (by decide) (by decide)).mono ?_
  rw [show underR [(1, 0, 4096)] 5000 0 = ([], 60) from by decide]
  rintro e w10 ⟨A10, c10, g10, rfl, S10, hA10, hb10⟩
  replace hru := RR.below' hru hb10
  replace hrv := RR.below' hrv hb10
  replace hra := RR.below' hra hb10
  replace hbw := fresh hbw hb10
  have hrx : RR w10 w10.heap.size A10 [] := SB.rr S10
  clear S10 hb10
  clear hra hrx
  go_wp2_with fail
  refine (prun_ok 1 0 2 _).mono ?_
  rintro e w11 ⟨rfl, hb11⟩
  replace hru := RR.below' hru hb11
  replace hrv := RR.below' hrv hb11
  replace hbw := fresh hbw hb11
  clear hb11
  go_wp2_with fail
  refine (prun_ok 3 1 1 _).mono ?_
  rintro e w12 ⟨rfl, hb12⟩
  replace hru := RR.below' hru hb12
  replace hrv := RR.below' hrv hb12
  replace hbw := fresh hbw hb12
  clear hb12
  go_wp2_with fail
  refine (pof_ok _ _ _ _).mono ?_
  rintro e w13 ⟨rfl, hb13⟩
  have hn13 := RR.below' (RR.new w12 #[.int .u32 1, .int .u8 0, .int .i64 2, .int .u32 3, .int .u8 1, .int .i64 1] 41 [(1, 0, 2), (3, 1, 1)] rfl) hb13
  have hb13 := fresh (boxed w12 (.cells #[.int .u32 1, .int .u8 0, .int .i64 2, .int .u32 3, .int .u8 1, .int .i64 1] 41)) hb13
  replace hru := RR.below' hru hb13
  replace hrv := RR.below' hrv hb13
  replace hbw := fresh hbw hb13
  have hrb := hn13
  clear hn13 hb13
  go_wp2_with fail
  refine (refsame_any _ _ _ _ _ _ [(1, 0, 2), (3, 1, 1)] [(1, 0, 2), (3, 1, 1)] _ hru hrb rfl rfl (by decide) (by decide)).mono ?_
  rw [show decide (([(1, 0, 2), (3, 1, 1)] : List Rn) = [(1, 0, 2), (3, 1, 1)]) = true from by decide]
  rintro e w14 ⟨rfl, hb14⟩
  replace hru := RR.below' hru hb14
  replace hrv := RR.below' hrv hb14
  replace hrb := RR.below' hrb hb14
  replace hbw := fresh hbw hb14
  clear hb14
  clear hru hrb
  go_wp2_with fail
  refine (prun_ok 7 2 1 _).mono ?_
  rintro e w15 ⟨rfl, hb15⟩
  replace hrv := RR.below' hrv hb15
  replace hbw := fresh hbw hb15
  clear hb15
  go_wp2_with fail
  refine (pof_ok _ _ _ _).mono ?_
  rintro e w16 ⟨rfl, hb16⟩
  have hn16 := RR.below' (RR.new w15 #[.int .u32 7, .int .u8 2, .int .i64 1] 41 [(7, 2, 1)] rfl) hb16
  have hb16 := fresh (boxed w15 (.cells #[.int .u32 7, .int .u8 2, .int .i64 1] 41)) hb16
  replace hrv := RR.below' hrv hb16
  replace hbw := fresh hbw hb16
  have hrb := hn16
  clear hn16 hb16
  go_wp2_with fail
  refine (refsame_any _ _ _ _ _ _ [(7, 2, 1)] [(7, 2, 1)] _ hrv hrb rfl rfl (by decide) (by decide)).mono ?_
  rw [show decide (([(7, 2, 1)] : List Rn) = [(7, 2, 1)]) = true from by decide]
  rintro e w17 ⟨rfl, hb17⟩
  replace hrv := RR.below' hrv hb17
  replace hrb := RR.below' hrb hb17
  replace hbw := fresh hbw hb17
  clear hb17
  clear hrv hrb
  go_wp2_with fail
  refine (prun_ok 1 0 1 _).mono ?_
  rintro e w18 ⟨rfl, hb18⟩
  replace hbw := fresh hbw hb18
  clear hb18
  go_wp2_with fail
  refine (prun_ok 5 0 1 _).mono ?_
  rintro e w19 ⟨rfl, hb19⟩
  replace hbw := fresh hbw hb19
  clear hb19
  go_wp2_with fail
  refine (pof_ok _ _ _ _).mono ?_
  rintro e w20 ⟨rfl, hb20⟩
  have hn20 := RR.below' (RR.new w19 #[.int .u32 1, .int .u8 0, .int .i64 1, .int .u32 5, .int .u8 0, .int .i64 1] 41 [(1, 0, 1), (5, 0, 1)] rfl) hb20
  have hb20 := fresh (boxed w19 (.cells #[.int .u32 1, .int .u8 0, .int .i64 1, .int .u32 5, .int .u8 0, .int .i64 1] 41)) hb20
  replace hbw := fresh hbw hb20
  have hrb := hn20
  clear hn20 hb20
  go_wp2_with fail
  refine (prun_ok 1 0 1 _).mono ?_
  rintro e w21 ⟨rfl, hb21⟩
  replace hrb := RR.below' hrb hb21
  replace hbw := fresh hbw hb21
  clear hb21
  go_wp2_with fail
  refine (prun_ok 5 1 1 _).mono ?_
  rintro e w22 ⟨rfl, hb22⟩
  replace hrb := RR.below' hrb hb22
  replace hbw := fresh hbw hb22
  clear hb22
  go_wp2_with fail
  refine (pof_ok _ _ _ _).mono ?_
  rintro e w23 ⟨rfl, hb23⟩
  have hn23 := RR.below' (RR.new w22 #[.int .u32 1, .int .u8 0, .int .i64 1, .int .u32 5, .int .u8 1, .int .i64 1] 41 [(1, 0, 1), (5, 1, 1)] rfl) hb23
  have hb23 := fresh (boxed w22 (.cells #[.int .u32 1, .int .u8 0, .int .i64 1, .int .u32 5, .int .u8 1, .int .i64 1] 41)) hb23
  replace hrb := RR.below' hrb hb23
  replace hbw := fresh hbw hb23
  have hrc := hn23
  clear hn23 hb23
  go_wp2_with fail
  refine (cmp_new _ _ _ _ _ _ _ [(1, 0, 1), (5, 0, 1)] [(1, 0, 1), (5, 1, 1)] (1) hrb hrc rfl rfl (by decide) (by decide) (fun h => by cases h) (fun h => by cases h) (by decide) (by decide) (by decide)).mono ?_
  rintro e w24 ⟨rfl, hb24⟩
  replace hrb := RR.below' hrb hb24
  replace hrc := RR.below' hrc hb24
  replace hbw := fresh hbw hb24
  clear hb24
  clear hrb hrc
  go_wp2_with fail
  refine (prun_ok 1 0 1 _).mono ?_
  rintro e w25 ⟨rfl, hb25⟩
  replace hbw := fresh hbw hb25
  clear hb25
  go_wp2_with fail
  refine (pof_ok _ _ _ _).mono ?_
  rintro e w26 ⟨rfl, hb26⟩
  have hn26 := RR.below' (RR.new w25 #[.int .u32 1, .int .u8 0, .int .i64 1] 41 [(1, 0, 1)] rfl) hb26
  have hb26 := fresh (boxed w25 (.cells #[.int .u32 1, .int .u8 0, .int .i64 1] 41)) hb26
  replace hbw := fresh hbw hb26
  have hrb := hn26
  clear hn26 hb26
  go_wp2_with fail
  refine (cmp_new _ none _ 0 _ 0 _ [] [(1, 0, 1)] (-1) RD.nil_ hrb rfl rfl (by decide) (by decide) (fun _ => rfl) (fun h => by cases h) (by decide) (by decide) (by decide)).mono ?_
  rintro e w27 ⟨rfl, hb27⟩
  replace hrb := RR.below' hrb hb27
  replace hbw := fresh hbw hb27
  clear hb27
  clear hrb
  go_wp2_with fail
  refine (prun_ok 1 0 2 _).mono ?_
  rintro e w28 ⟨rfl, hb28⟩
  replace hbw := fresh hbw hb28
  clear hb28
  go_wp2_with fail
  refine (prun_ok 3 0 1 _).mono ?_
  rintro e w29 ⟨rfl, hb29⟩
  replace hbw := fresh hbw hb29
  clear hb29
  go_wp2_with fail
  refine (pof_ok _ _ _ _).mono ?_
  rintro e w30 ⟨rfl, hb30⟩
  have hn30 := RR.below' (RR.new w29 #[.int .u32 1, .int .u8 0, .int .i64 2, .int .u32 3, .int .u8 0, .int .i64 1] 41 [(1, 0, 2), (3, 0, 1)] rfl) hb30
  have hb30 := fresh (boxed w29 (.cells #[.int .u32 1, .int .u8 0, .int .i64 2, .int .u32 3, .int .u8 0, .int .i64 1] 41)) hb30
  replace hbw := fresh hbw hb30
  have hrb := hn30
  clear hn30 hb30
  go_wp2_with fail
  refine (pcheck_any _ _ _ [(1, 0, 2), (3, 0, 1)] _ hrb rfl (by decide) (okR_dec (by decide))).mono ?_
  rw [show chkR [(1, 0, 2), (3, 0, 1)] = 8 from by decide]
  rintro e w31 ⟨rfl, hb31⟩
  replace hrb := RR.below' hrb hb31
  replace hbw := fresh hbw hb31
  clear hb31
  clear hrb
  go_wp2_with fail
  refine (prun_ok 1 0 2 _).mono ?_
  rintro e w32 ⟨rfl, hb32⟩
  replace hbw := fresh hbw hb32
  clear hb32
  go_wp2_with fail
  refine (prun_ok 2 1 1 _).mono ?_
  rintro e w33 ⟨rfl, hb33⟩
  replace hbw := fresh hbw hb33
  clear hb33
  go_wp2_with fail
  refine (pof_ok _ _ _ _).mono ?_
  rintro e w34 ⟨rfl, hb34⟩
  have hn34 := RR.below' (RR.new w33 #[.int .u32 1, .int .u8 0, .int .i64 2, .int .u32 2, .int .u8 1, .int .i64 1] 41 [(1, 0, 2), (2, 1, 1)] rfl) hb34
  have hb34 := fresh (boxed w33 (.cells #[.int .u32 1, .int .u8 0, .int .i64 2, .int .u32 2, .int .u8 1, .int .i64 1] 41)) hb34
  replace hbw := fresh hbw hb34
  have hrb := hn34
  clear hn34 hb34
  go_wp2_with fail
  refine (pcheck_any _ _ _ [(1, 0, 2), (2, 1, 1)] _ hrb rfl (by decide) (okR_dec (by decide))).mono ?_
  rw [show chkR [(1, 0, 2), (2, 1, 1)] = 8 from by decide]
  rintro e w35 ⟨rfl, hb35⟩
  replace hrb := RR.below' hrb hb35
  replace hbw := fresh hbw hb35
  clear hb35
  clear hrb
  go_wp2_with fail
  refine (pcheck_any none 0 0 [] _ RD.nil_ rfl (by decide) (fun _ h => by cases h)).mono ?_
  rw [show chkR [] = 8 from by decide]
  rintro e w36 ⟨rfl, hb36⟩
  replace hbw := fresh hbw hb36
  clear hb36
  go_wp2_with fail
  refine (prun_ok 1 0 4097 _).mono ?_
  rintro e w37 ⟨rfl, hb37⟩
  replace hbw := fresh hbw hb37
  clear hb37
  go_wp2_with fail
  refine (pof_ok _ _ _ _).mono ?_
  rintro e w38 ⟨rfl, hb38⟩
  have hn38 := RR.below' (RR.new w37 #[.int .u32 1, .int .u8 0, .int .i64 4097] 41 [(1, 0, 4097)] rfl) hb38
  have hb38 := fresh (boxed w37 (.cells #[.int .u32 1, .int .u8 0, .int .i64 4097] 41)) hb38
  replace hbw := fresh hbw hb38
  have hrb := hn38
  clear hn38 hb38
  go_wp2_with fail
  refine (pcheck_any _ _ _ [(1, 0, 4097)] _ hrb rfl (by decide) (okR_dec (by decide))).mono ?_
  rw [show chkR [(1, 0, 4097)] = 8 from by decide]
  rintro e w39 ⟨rfl, hb39⟩
  replace hrb := RR.below' hrb hb39
  replace hbw := fresh hbw hb39
  clear hb39
  clear hrb
  go_wp2_with fail
  refine (palive_ok _).mono ?_
  rintro e w40 ⟨rfl, hb40⟩
  replace hbw := fresh hbw hb40
  clear hb40
  go_wp2_with fail
  refine (prun_ok 1 0 2 _).mono ?_
  rintro e w41 ⟨rfl, hb41⟩
  replace hbw := fresh hbw hb41
  clear hb41
  go_wp2_with fail
  refine (pof_ok _ _ _ _).mono ?_
  rintro e w42 ⟨rfl, hb42⟩
  have hn42 := RR.below' (RR.new w41 #[.int .u32 1, .int .u8 0, .int .i64 2] 41 [(1, 0, 2)] rfl) hb42
  have hb42 := fresh (boxed w41 (.cells #[.int .u32 1, .int .u8 0, .int .i64 2] 41)) hb42
  replace hbw := fresh hbw hb42
  have hrb := hn42
  clear hn42 hb42
  go_wp2_with fail
  refine (prun_ok 1 0 3 _).mono ?_
  rintro e w43 ⟨rfl, hb43⟩
  replace hrb := RR.below' hrb hb43
  replace hbw := fresh hbw hb43
  clear hb43
  go_wp2_with fail
  refine (prun_ok 9 1 1 _).mono ?_
  rintro e w44 ⟨rfl, hb44⟩
  replace hrb := RR.below' hrb hb44
  replace hbw := fresh hbw hb44
  clear hb44
  go_wp2_with fail
  refine (pof_ok _ _ _ _).mono ?_
  rintro e w45 ⟨rfl, hb45⟩
  have hn45 := RR.below' (RR.new w44 #[.int .u32 1, .int .u8 0, .int .i64 3, .int .u32 9, .int .u8 1, .int .i64 1] 41 [(1, 0, 3), (9, 1, 1)] rfl) hb45
  have hb45 := fresh (boxed w44 (.cells #[.int .u32 1, .int .u8 0, .int .i64 3, .int .u32 9, .int .u8 1, .int .i64 1] 41)) hb45
  replace hrb := RR.below' hrb hb45
  replace hbw := fresh hbw hb45
  have hrc := hn45
  clear hn45 hb45
  go_wp2_with fail
  refine (pbegins_any _ _ _ _ _ _ [(1, 0, 2)] [(1, 0, 3), (9, 1, 1)] _ hrb hrc rfl rfl (by decide) (by decide) (fun h => by cases h) (fun h => by cases h) (okR_dec (by decide)) (okR_dec (by decide))).mono ?_
  rw [show begR [(1, 0, 2)] [(1, 0, 3), (9, 1, 1)] = true from by decide]
  rintro e w46 ⟨rfl, hb46⟩
  replace hrb := RR.below' hrb hb46
  replace hrc := RR.below' hrc hb46
  replace hbw := fresh hbw hb46
  clear hb46
  clear hrb hrc
  go_wp2_with fail
  refine (prun_ok 1 0 2 _).mono ?_
  rintro e w47 ⟨rfl, hb47⟩
  replace hbw := fresh hbw hb47
  clear hb47
  go_wp2_with fail
  refine (pof_ok _ _ _ _).mono ?_
  rintro e w48 ⟨rfl, hb48⟩
  have hn48 := RR.below' (RR.new w47 #[.int .u32 1, .int .u8 0, .int .i64 2] 41 [(1, 0, 2)] rfl) hb48
  have hb48 := fresh (boxed w47 (.cells #[.int .u32 1, .int .u8 0, .int .i64 2] 41)) hb48
  replace hbw := fresh hbw hb48
  have hrb := hn48
  clear hn48 hb48
  go_wp2_with fail
  refine (prun_ok 1 0 1 _).mono ?_
  rintro e w49 ⟨rfl, hb49⟩
  replace hrb := RR.below' hrb hb49
  replace hbw := fresh hbw hb49
  clear hb49
  go_wp2_with fail
  refine (pof_ok _ _ _ _).mono ?_
  rintro e w50 ⟨rfl, hb50⟩
  have hn50 := RR.below' (RR.new w49 #[.int .u32 1, .int .u8 0, .int .i64 1] 41 [(1, 0, 1)] rfl) hb50
  have hb50 := fresh (boxed w49 (.cells #[.int .u32 1, .int .u8 0, .int .i64 1] 41)) hb50
  replace hrb := RR.below' hrb hb50
  replace hbw := fresh hbw hb50
  have hrc := hn50
  clear hn50 hb50
  go_wp2_with fail
  refine (pbegins_any _ _ _ _ _ _ [(1, 0, 2)] [(1, 0, 1)] _ hrb hrc rfl rfl (by decide) (by decide) (fun h => by cases h) (fun h => by cases h) (okR_dec (by decide)) (okR_dec (by decide))).mono ?_
  rw [show begR [(1, 0, 2)] [(1, 0, 1)] = false from by decide]
  rintro e w51 ⟨rfl, hb51⟩
  replace hrb := RR.below' hrb hb51
  replace hrc := RR.below' hrc hb51
  replace hbw := fresh hbw hb51
  clear hb51
  clear hrb hrc
  go_wp2_with fail
  refine (prun_ok 1 0 2 _).mono ?_
  rintro e w52 ⟨rfl, hb52⟩
  replace hbw := fresh hbw hb52
  clear hb52
  go_wp2_with fail
  refine (prun_ok 9 1 3 _).mono ?_
  rintro e w53 ⟨rfl, hb53⟩
  replace hbw := fresh hbw hb53
  clear hb53
  go_wp2_with fail
  refine (pof_ok _ _ _ _).mono ?_
  rintro e w54 ⟨rfl, hb54⟩
  have hn54 := RR.below' (RR.new w53 #[.int .u32 1, .int .u8 0, .int .i64 2, .int .u32 9, .int .u8 1, .int .i64 3] 41 [(1, 0, 2), (9, 1, 3)] rfl) hb54
  have hb54 := fresh (boxed w53 (.cells #[.int .u32 1, .int .u8 0, .int .i64 2, .int .u32 9, .int .u8 1, .int .i64 3] 41)) hb54
  replace hbw := fresh hbw hb54
  have hrb := hn54
  clear hn54 hb54
  go_wp2_with fail
  refine (plast_any _ _ _ [(1, 0, 2), (9, 1, 3)] _ hrb rfl (by decide) (okR_dec (by decide))).mono ?_
  rw [show lastR [(1, 0, 2), (9, 1, 3)] = (11, 1) from by decide]
  rintro e w55 ⟨rfl, hb55⟩
  replace hrb := RR.below' hrb hb55
  replace hbw := fresh hbw hb55
  clear hb55
  go_wp2_with fail
  go_ret
  exact ⟨rfl, hbw⟩
end Go.Proofs.Ytbjfmkdjnglgbaa
