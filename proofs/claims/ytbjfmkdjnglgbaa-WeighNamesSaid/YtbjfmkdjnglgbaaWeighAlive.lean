/-
  The small functions of octavolaw18; how much one weighs at least, and at most: the walk of WeighBounds. Condition: parts of their types.
-/
import Derived.Test.YtbjfmkdjnglgbaaWeigh
namespace Go.Proofs.Ytbjfmkdjnglgbaa
open Go.RowKit

theorem RO.row (w : World) (L : List OpL) (cs : Array Value) (h : cs.toList = opcs L) (hx : ∀ x ∈ L, RR w w.heap.size x.A x.p) : RO (w.alloc (.cells cs 47)) (w.alloc (.cells cs 47)).heap.size (some ⟨w.heap.size, 0, none⟩) L := by
  refine ⟨⟨opcs_len L, fun _ => ⟨_, _, rfl, by rw [World.size_alloc]; omega, fun j u hu => ?_⟩⟩, fun x h => RR.below' (hx x h) (boxed _ _)⟩
  rw [Nat.zero_add, World.cell?_alloc_new, ← Array.getElem?_toList, h]
  exact hu
/-- The chapter's operation, as it lies. -/
abbrev oneL (A : Option Addr) (c : Nat) : OpL := ⟨1, 3, 0, A, c, [(1, 0, 3)], 97⟩
theorem wone_okR : ∀ x ∈ [((1, 0, 3) : Rn)], okR x := fun x hx => by
  simp only [List.mem_singleton] at hx
  subst hx
  unfold okR
  simp only
  omega
theorem wone_okO (A : Option Addr) (c : Nat) : okO (oneL A c) := ⟨(by decide : (0 : Int) ≤ 1), ⟨(by decide : (0 : Int) ≤ 3), (by decide : (3 : Int) < 4294967296), (by decide : (0 : Int) ≤ 0), (by decide : (0 : Int) < 256)⟩, wone_okR, (by decide : 1 < 1073741824)⟩
theorem wone_may (A : Option Addr) (c : Nat) : mayL (oneL A c) := by show mayO 1 3 0 [(1, 0, 3)] 97; decide
theorem wone_sz (A : Option Addr) (c : Nat) : szO (oneL A c) = 6 := by
  rw [szO_may (wone_may A c)]
  simp [opBL, opB, opNums, runNums, tailNums, nbs, nb_small]

set_option maxHeartbeats 400000 in
set_option maxRecDepth 100000 in
theorem wone_ok (w : World) : Calls Try.prog 65 #[] w fun e w' => ∃ a, e = .returned (opv 1 3 0 (some a) 1 1 97) ∧ w'.ownsRow w.heap.size 41 3 (.slice (some a) 1 1) 1 (rns [(1, 0, 3)]) ∧ Below w.heap.size w w' := by
  obtain ⟨w1, hw1, F1, hs1, hb1⟩ := five_fb w (.int .u8 0) (.int .u32 0) (.int .u8 0) (.slice none 0 0) (.int .i64 0)
  obtain ⟨o0, o1, o2, o3, o4⟩ := (F1.below (boxed w1 (.cells #[.int .u32 1, .int .u8 0, .int .i64 3] 41))).cells
  have f0 := (F1.below (boxed w1 (.cells #[.int .u32 1, .int .u8 0, .int .i64 3] 41))).fr
  obtain ⟨w2, hw2⟩ : ∃ w2, w1.alloc (.cells #[.int .u32 1, .int .u8 0, .int .i64 3] 41) = w2 := ⟨_, rfl⟩
  have h2 : w2.heap[w1.heap.size]? = some (.cells #[.int .u32 1, .int .u8 0, .int .i64 3] 41 (0, 0)) := by rw [← hw2]; exact heap_alloc_new _ _
  have hb2 : Below w.heap.size w w2 := by rw [← hw2]; exact fresh hb1 (boxed _ _)
  have F2 := F1.below (show Below w1.heap.size w1 w2 by rw [← hw2]; exact boxed _ _)
  rw [hw2] at o0 o1 o2 o3 o4 f0
  have g0 := f0 0
  have g1 := f0 1
  have g2 := f0 2
  have g3 := f0 3
  have g4 := f0 4
  have HF := hide F2
  have H2 := hide h2
  obtain ⟨g, hg⟩ : ∃ g, g = w.heap.size := ⟨_, rfl⟩
  have Hg := hide hg
  clear f0 F1 F2 h2
  go_enter Try.func65, Try.ntmps65
  go_wp2_with fail
  change bodyPost _ _ _ _ _ (put5 w2 w.heap.size (.int .u8 1) (.int .u32 3) (.int .u8 0) (.slice (some ⟨w1.heap.size, 0, none⟩) 1 1) (.int .i64 97))
  have F5 := put5_fb HF.out (.int .u8 1) (.int .u32 3) (.int .u8 0) (.slice (some ⟨w1.heap.size, 0, none⟩) 1 1) (.int .i64 97)
  have hb5 : Below w.heap.size w (put5 w2 w.heap.size (.int .u8 1) (.int .u32 3) (.int .u8 0) (.slice (some ⟨w1.heap.size, 0, none⟩) 1 1) (.int .i64 97)) := put5_below hb2 _ _ _ _ _ _ (Nat.le_refl _)
  have h3 := (put5_other (w := w2) (g := w.heap.size) (g' := w1.heap.size) (k := .int .u8 1) (t := .int .u32 3) (r := .int .u8 0) (s := .slice (some ⟨w1.heap.size, 0, none⟩) 1 1) (z := .int .i64 97) (by omega)).trans H2.out
  have hO : (put5 w2 w.heap.size (.int .u8 1) (.int .u32 3) (.int .u8 0) (.slice (some ⟨w1.heap.size, 0, none⟩) 1 1) (.int .i64 97)).ownsRow w.heap.size 41 3 (.slice (some ⟨w1.heap.size, 0, none⟩) 1 1) 1 (rns [(1, 0, 3)]) :=
    ⟨rfl, .inr ⟨w1.heap.size, 1, _, rfl, hb1.size, h3, Nat.le_refl _, by decide, rfl, rfl⟩⟩
  generalize put5 w2 w.heap.size (.int .u8 1) (.int .u32 3) (.int .u8 0) (.slice (some ⟨w1.heap.size, 0, none⟩) 1 1) (.int .i64 97) = W at F5 hb5 hO ⊢
  obtain ⟨v0, v1, v2, v3, v4⟩ := F5.cells
  refine bodyPost_ret (v := opv 1 3 0 (some ⟨w1.heap.size, 0, none⟩) 1 1 97) (by simp [results, Try.results65, go_sem, v0, v1, v2, v3, v4]) rfl ?_
  exact ⟨_, rfl, hO, hb5⟩

theorem wone_bytes (a : Addr) (w : World) (hr : RR w w.heap.size (some a) [(1, 0, 3)]) :
    Calls Try.prog 60 #[opv 1 3 0 (some a) 1 1 97] w fun e w' => e = .returned (.tuple #[.int .i64 6, .int .i64 0]) ∧ Below w.heap.size w w' := by
  have h := wbytes_any (oneL (some a) 1) 1 w hr rfl (wone_okO _ _)
  rw [wone_sz, show chkO (oneL (some a) 1).k (oneL (some a) 1).t (oneL (some a) 1).r (oneL (some a) 1).p (oneL (some a) 1).z = 0 from if_pos (wone_may _ _)] at h
  exact h
theorem two_piece {L L' : List OpL} (h : L'.map OpL.op = (if ∀ x ∈ L, mayL x then L.take (pcs L) else []).map OpL.op) (hm : ∀ x ∈ L, mayL x) {n : Nat} (hp : pcs L = n) (hn : n ≤ L.length) : L'.length = n := by
  have := congrArg List.length h
  rw [if_pos hm, List.length_map, List.length_map, List.length_take, hp, Nat.min_eq_left hn] at this
  exact this

set_option maxHeartbeats 1600000 in
set_option maxRecDepth 100000 in
theorem walive_ok (w : World) : Calls Try.prog 59 #[] w fun e w' => e = .returned (.bool true) ∧ Below w.heap.size w w' := by
  go_enter Try.func59, Try.ntmps59
  go_wp2_with fail
  refine (wone_ok w).mono ?_
  rintro e w1 ⟨a1, rfl, ho1, hb1⟩
  have hr1 := RR.of_own ho1 rfl
  clear ho1
  go_wp2_with fail
  refine (wone_bytes a1 w1 hr1).mono ?_
  rintro e w2 ⟨rfl, hb2⟩
  have hb02 := fresh hb1 hb2
  clear hr1
  go_wp2_with fail
  refine (wone_ok w2).mono ?_
  rintro e w3 ⟨a3, rfl, ho3, hb3⟩
  have Hr3 := hide (RR.of_own ho3 rfl)
  have hb03 := fresh hb02 hb3
  clear ho3
  go_wp2_with fail
  refine (wone_ok w3).mono ?_
  rintro e w4 ⟨a4, rfl, ho4, hb4⟩
  have Hr4 := hide (RR.of_own ho4 rfl)
  have hb04 := fresh hb03 hb4
  have Hr34 := hide (RR.below' Hr3.out hb4)
  clear ho4
  have hm : ∀ x ∈ [oneL (some a3) 1, oneL (some a4) 1], mayL x := fun x hx => by
    simp only [List.mem_cons, List.not_mem_nil, or_false] at hx
    rcases hx with rfl | rfl <;> exact wone_may _ _
  have hok : ∀ x ∈ [oneL (some a3) 1, oneL (some a4) 1], okO x := fun x hx => by
    simp only [List.mem_cons, List.not_mem_nil, or_false] at hx
    rcases hx with rfl | rfl <;> exact wone_okO _ _
  have hpc : pcs [oneL (some a3) 1, oneL (some a4) 1] = 2 := by simp [pcs, cntP, wone_sz]
  have P := hide (wpiece_any (some ⟨w4.heap.size, 0, none⟩) 2 2 [oneL (some a3) 1, oneL (some a4) 1] _ (RO.row w4 [oneL (some a3) 1, oneL (some a4) 1] #[.int .u8 1, .int .u32 3, .int .u8 0, .slice (some a3) 1 1, .int .i64 97, .int .u8 1, .int .u32 3, .int .u8 0, .slice (some a4) 1 1, .int .i64 97] rfl (fun x hx => by
    simp only [List.mem_cons, List.not_mem_nil, or_false] at hx
    rcases hx with rfl | rfl
    · exact Hr34.out
    · exact Hr4.out)) rfl (by decide) (Nat.le_refl _) hok (fun x hx h => by
    simp only [List.mem_cons, List.not_mem_nil, or_false] at hx
    rcases hx with rfl | rfl <;> cases h))
  rw [show allE [oneL (some a3) 1, oneL (some a4) 1] = 0 from if_pos hm] at P
  have Hm := hide (And.intro hm hpc)
  clear hm hpc hok
  go_wp2_with fail
  refine P.out.mono ?_
  rintro e w5 ⟨A5, c5, L5, rfl, hL5, -, hb5⟩
  have hb05 := fresh (fresh hb04 (boxed w4 _)) hb5
  have h2 := two_piece hL5 Hm.out.1 Hm.out.2 (Nat.le_refl _)
  rw [h2]
  clear hL5 h2 P
  go_wp2_with fail
  go_ret
  exact ⟨rfl, hb05⟩

theorem nbs_more (L : List Int) : L.length ≤ (nbs L).length := by
  induction L with
  | nil => simp [nbs]
  | cons z L ih =>
    rw [nbs_cons, List.length_append, List.length_cons]
    have := nb_pos z.toNat
    omega
theorem runs_len : ∀ (p : List Rn) (was : Int), goodR was p → (nbs (runNums was p)).length ≤ 8 * p.length ∧ 3 * p.length ≤ (nbs (runNums was p)).length
  | [], _, _ => by simp [runNums, nbs]
  | x :: p, was, h => by
    obtain ⟨h1, h2, h3, h4, h5, h6, -, h8⟩ := h
    obtain ⟨g1, g2⟩ := runs_len p _ h8
    have a1 := nb_len_le 4 (x.1 - was).toNat (by omega)
    have a2 := nb_len_le 0 x.2.1.toNat (by omega)
    have a3 := nb_len_le 1 x.2.2.toNat (by omega)
    have b1 := nb_pos (x.1 - was).toNat
    have b2 := nb_pos x.2.1.toNat
    have b3 := nb_pos x.2.2.toNat
    simp only [runNums, nbs_cons, List.length_append, List.length_cons]
    omega
theorem opB_bounds {x : OpL} (hm : mayL x) (ho : okO x) : 5 ≤ (opBL x).length ∧ (opBL x).length ≤ 800 := by
  obtain ⟨h0, hi, hr, -⟩ := ho
  have hk : 1 ≤ x.k ∧ x.k ≤ 4 := by
    have := hm.2.2
    unfold rightO at this
    omega
  have hp := hm.2.1
  obtain ⟨r1, r2⟩ := runs_len x.p 0 (may_good hp hr)
  have e : opBL x = nbs [x.k, (x.p.length : Int)] ++ (nbs (runNums 0 x.p) ++ nbs (tailNums x.k x.t x.r (wasR 0 x.p) x.z)) := by
    rw [← nbs_append, ← nbs_append]
    rfl
  have hlw := lastR_was hp 0
  have hpos := mayR_last_pos hp
  obtain ⟨mi1, mi2, mi3⟩ := hm.1
  unfold okI at hi
  simp only at hi
  have h2 : (nbs (tailNums x.k x.t x.r (wasR 0 x.p) x.z)).length ≤ 12 := by
    refine tail_len fun a ha => ?_
    unfold tailNums at ha
    rcases hm.2.2 with ⟨g1, -, g3⟩ | ⟨g1, -, -⟩ | ⟨g1, -, g3⟩
    · rw [if_pos g1] at ha
      simp only [List.mem_singleton] at ha
      subst ha
      have := g3.1
      have := g3.2.1
      omega
    · rw [if_neg (by omega), if_pos g1] at ha
      cases ha
    · rw [if_neg (by omega), if_neg (by omega)] at ha
      simp only [List.mem_cons, List.not_mem_nil, or_false] at ha
      omega
  have l1 := hp.1
  have l2 := hp.2.1
  have c1 := nb_len_le 0 x.k.toNat (by omega)
  have c2 := nb_len_le 0 (x.p.length : Int).toNat (by omega)
  have d1 := nb_pos x.k.toNat
  have d2 := nb_pos (x.p.length : Int).toNat
  rw [e]
  simp only [List.length_append, nbs_cons, nbs_nil, List.length_nil]
  omega
theorem szO_max {x : OpL} (h : okO x) : szO x ≤ 800 := by
  by_cases hm : mayL x
  · rw [szO_may hm]
    exact (opB_bounds hm h).2
  · unfold szO
    rw [show putB x.k x.t x.r x.p x.z = [] from if_neg hm]
    exact Nat.zero_le _

set_option maxHeartbeats 1600000 in
set_option maxRecDepth 100000 in
theorem weighBounds_walk (k t r z : Int) (A0 : Option Addr) (c0 : Nat) (l0 : List Rn) (w : World) (hr0 : RR w w.heap.size A0 l0) (ok0 : ∀ x ∈ l0, okR x) (k0 : 0 ≤ k) (hi : okI (t, r)) :
    Calls Try.prog 13 #[opv k t r A0 l0.length c0 z] w fun e w' => e = .returned (.bool true) ∧ Below w.heap.size w w' := by
  obtain ⟨w1, hw1, F1, hs1, hb1⟩ := five_fb w (.int .u8 k) (.int .u32 t) (.int .u8 r) (.slice A0 l0.length c0) (.int .i64 z)
  have HF1 := hide F1
  have HR0 := hide hr0
  have Ok0 := hide ok0
  have Hi := hide hi
  clear hr0 ok0 hi F1
  go_enter Try.func13, Try.ntmps13
  go_wp2_with fail
  refine (walive_ok w1).mono ?_
  rintro e w2 ⟨rfl, hb2⟩
  have hb02 := fresh hb1 hb2
  have HF2 := hide (HF1.out.below hb2)
  obtain ⟨o0, o1, o2, o3, o4⟩ := HF2.out.cells
  clear hw1
  by_cases hl0 : (100 : Int) < l0.length
  · go_wp2_with fail
    go_ret
    exact ⟨rfl, hb02⟩
  obtain ⟨xo, hxo⟩ : ∃ x : OpL, x = ⟨k, t, r, A0, c0, l0, z⟩ := ⟨_, rfl⟩
  have hok : okO xo := by rw [hxo]; exact ⟨k0, Hi.out, Ok0.out, by simp only; omega⟩
  have B1 := wbytes_any xo l0.length w2 (by rw [hxo]; exact RR.below' HR0.out hb02) (by rw [hxo]) hok
  have B2 : ∀ W, RR W W.heap.size A0 l0 → _ := fun W h => cwrite_any k t r z A0 l0.length c0 l0 W h rfl (by omega) Ok0.out k0 Hi.out
  have hbd := fun hm => opB_bounds (x := xo) hm hok
  have hsz : szO xo = (putB k t r l0 z).length := by rw [hxo]; rfl
  by_cases hm : mayL xo
  · obtain ⟨h5, h8⟩ := hbd hm
    rw [← szO_may hm] at h5 h8
    have hm' : mayO k t r l0 z := by rw [hxo] at hm; exact hm
    rw [show chkO xo.k xo.t xo.r xo.p xo.z = 0 from if_pos hm] at B1
    rw [show chkO k t r l0 z = 0 from if_pos hm'] at B2
    rw [← hsz] at B2
    generalize szO xo = S at B1 B2 h5 h8
    subst hxo
    have HB1 := hide B1
    have HB2 := hide B2
    clear B1 B2 hbd hsz hm hm' hok
    go_wp2_with fail
    refine HB1.out.mono ?_
    rintro e w3 ⟨rfl, hb3⟩
    have hb03 := fresh hb02 hb3
    clear o0 o1 o2 o3 o4
    obtain ⟨o0, o1, o2, o3, o4⟩ := (HF2.out.below hb3).cells
    go_wp2_with fail
    refine (unhide HB2 w3 (RR.below' HR0.out hb03)).mono ?_
    rintro e w4 ⟨v4, rfl, hown, hb4⟩
    have hb04 := fresh hb03 hb4
    obtain ⟨A4, c4, rfl, -, -, -⟩ := own_slice hown
    have z5 : (5 : Int) ≤ S := by omega
    have z8 : (S : Int) ≤ 800 := by omega
    clear hown
    go_wp2_with fail
    go_ret
    exact ⟨rfl, hb04⟩
  · have hm' : ¬ mayO k t r l0 z := by rw [hxo] at hm; exact hm
    rw [show chkO xo.k xo.t xo.r xo.p xo.z = 8 from if_neg hm] at B1
    rw [show chkO k t r l0 z = 8 from if_neg hm'] at B2
    rw [← hsz] at B2
    generalize szO xo = S at B1 B2
    subst hxo
    have HB1 := hide B1
    have HB2 := hide B2
    clear B1 B2 hbd hsz hm hm' hok
    go_wp2_with fail
    refine HB1.out.mono ?_
    rintro e w3 ⟨rfl, hb3⟩
    have hb03 := fresh hb02 hb3
    clear o0 o1 o2 o3 o4
    obtain ⟨o0, o1, o2, o3, o4⟩ := (HF2.out.below hb3).cells
    go_wp2_with fail
    refine (unhide HB2 w3 (RR.below' HR0.out hb03)).mono ?_
    rintro e w4 ⟨v4, rfl, hown, hb4⟩
    have hb04 := fresh hb03 hb4
    obtain ⟨A4, c4, rfl, -, -, -⟩ := own_slice hown
    clear hown
    go_wp2_with fail
    go_ret
    exact ⟨rfl, hb04⟩
end Go.Proofs.Ytbjfmkdjnglgbaa
