/-
  CodeOnes: what is written is read back, no beginning of it is an operation's; what is read is written as just these bytes. Condition: parts of their types.
-/
import Derived.Test.YtbjfmkdjnglgbaaCodeAlive
import Derived.Test.YtbjfmkdjnglgbaaCodeAll
namespace Go.Proofs.Ytbjfmkdjnglgbaa
open Go.RowKit

theorem own_nilC {w : World} {base n c : Nat} {e : TypeId} {size : Nat} {A : Option Addr} {xs : List Value} (h : w.ownsRow base e size (.slice A n c) n xs) : A = none → c = 0 := by
  intro hA
  rcases h.2 with ⟨h1, -⟩ | ⟨g, cap, cur, h1, -⟩
  · simp only [Value.slice.injEq] at h1
    exact h1.2.2
  · simp only [Value.slice.injEq] at h1
    rw [hA] at h1
    cases h1.1
/-- The beginning of a slice of bytes. -/
theorem RB.opening {w : World} {B : Nat} {A : Option Addr} {l : List UInt8} (h : RB w B A l) (j : Nat) (hj : j ≤ l.length) : RB w B A (l.take j) := by
  have := h.take hj
  rw [Nat.mul_one, u8s_take] at this
  unfold RB
  rw [List.length_take, Nat.min_eq_left hj]; exact this
theorem lastR_nn {p : List Rn} (hp : mayR p) (ho : ∀ x ∈ p, okR x) : 0 ≤ (lastR p).2 := by
  have hne : p ≠ [] := fun e => by rw [e] at hp; have := hp.1; simp at this
  obtain ⟨q, x, rfl⟩ : ∃ q x, p = q ++ [x] := ⟨p.dropLast, p.getLast hne, (List.dropLast_concat_getLast hne).symm⟩
  rw [lastR_snoc q x hp]
  have := ho x (by simp)
  unfold okR at this
  simp only
  omega
theorem getP_pos {b : List UInt8} {k t r : Int} {p : List Rn} {z : Int} {n : Nat} (h : getP b = some (k, t, r, p, z, n)) : 0 ≤ r := by
  simp only [getP, Option.bind_eq_some_iff] at h
  obtain ⟨⟨k', a1⟩, hk, ⟨m, a2⟩, hm, ⟨p', w, a3⟩, hr, ⟨k2, t2, r2, p2, z2, n2⟩, ht, h⟩ := h
  simp only at hm hr ht h
  split at h
  · rename_i hmay
    simp only [Option.some.injEq, Prod.mk.injEq] at h
    obtain ⟨rfl, rfl, rfl, rfl, rfl, rfl⟩ := h
    obtain ⟨t1, l1⟩ := nxt_take (L := []) hk (by omega) (by simp [nbs])
    obtain ⟨t2', l2⟩ := nxt_take hm l1 t1
    obtain ⟨-, -, -, -, g5, -, -⟩ := rdRuns_inv m.toNat a2 0 _ p' w a3 (by omega) l2 t2' hr
    unfold rdTail at ht
    split at ht
    · rw [Option.map_eq_some_iff] at ht
      obtain ⟨⟨z', a4⟩, hz, he⟩ := ht
      simp only [Prod.mk.injEq] at he
      obtain ⟨rfl, rfl, rfl, rfl, rfl, rfl⟩ := he
      exact lastR_nn hmay.2.1 g5
    · split at ht
      · simp only [Option.some.injEq, Prod.mk.injEq] at ht
        obtain ⟨rfl, rfl, rfl, rfl, rfl, rfl⟩ := ht
        exact lastR_nn hmay.2.1 g5
      · simp only [Option.bind_eq_some_iff, Option.map_eq_some_iff] at ht
        obtain ⟨⟨d, a4⟩, hd, ⟨r', a5⟩, hr', he⟩ := ht
        simp only [Prod.mk.injEq] at hd hr' he
        obtain ⟨rfl, rfl, rfl, rfl, rfl, rfl⟩ := he
        exact (nxt_inv hr').1
  · cases h
/-- No beginning of an operation's bytes is one's. -/
theorem getP_short {k t r : Int} {p : List Rn} {z : Int} (h : mayO k t r p z) (ho : ∀ x ∈ p, okR x) (hr0 : 0 ≤ r) (m : Nat) (hm : m < (opB k t r p z).length) : getP ((opB k t r p z).take m) = none := by
  cases hg : getP ((opB k t r p z).take m) with
  | none => rfl
  | some o =>
    exfalso
    obtain ⟨k', t', r', p', z', n⟩ := o
    obtain ⟨h1, h2, h3, h4, -, -⟩ := getP_inv hg
    rw [List.length_take, Nat.min_eq_left (by omega)] at h3
    rw [List.take_take, Nat.min_eq_left h3] at h2
    have hr1 : 0 ≤ r' := getP_pos hg
    have e1 := getP_fwd ((opB k t r p z).drop n) h1 h4 hr1
    rw [← h2, List.take_append_drop] at e1
    have e2 := getP_fwd [] h ho hr0
    rw [List.append_nil] at e2
    rw [e1] at e2
    simp only [Option.some.injEq, Prod.mk.injEq] at e2
    have := e2.2.2.2.2.2
    rw [List.length_take, Nat.min_eq_left (by omega)] at this
    omega
theorem str_append (l m : List UInt8) : (⟨l.toArray⟩ : ByteArray) ++ ⟨m.toArray⟩ = ⟨(l ++ m).toArray⟩ := by
  apply ByteArray.ext
  rw [ByteArray.data_append]
  simp
theorem mem_two {α : Type} {x a : α} (h : x ∈ [a, a]) : x = a := by simpa using h
theorem opsRow (w : World) (k t r z : Int) (A : Option Addr) (c : Nat) (p : List Rn) (h : RR w w.heap.size A p) :
    RO (w.alloc (.cells #[.int .u8 k, .int .u32 t, .int .u8 r, .slice A p.length c, .int .i64 z, .int .u8 k, .int .u32 t, .int .u8 r, .slice A p.length c, .int .i64 z] 47)) (w.alloc (.cells #[.int .u8 k, .int .u32 t, .int .u8 r, .slice A p.length c, .int .i64 z, .int .u8 k, .int .u32 t, .int .u8 r, .slice A p.length c, .int .i64 z] 47)).heap.size
      (some ⟨w.heap.size, 0, none⟩) [⟨k, t, r, A, c, p, z⟩, ⟨k, t, r, A, c, p, z⟩] := by
  refine ⟨⟨rfl, fun _ => ⟨_, _, rfl, by rw [World.size_alloc]; omega, fun j u hu => ?_⟩⟩, fun x hx => ?_⟩
  · rw [Nat.zero_add, World.cell?_alloc_new, ← Array.getElem?_toList]
    exact hu
  · have : x = ⟨k, t, r, A, c, p, z⟩ := by simpa using hx
    subst this
    exact RR.below' h (boxed _ _)

set_option maxHeartbeats 12800000 in
set_option maxRecDepth 100000 in
theorem codeOnes_walk (k t r z m : Int) (A0 A1 : Option Addr) (c0 c1 : Nat) (l0 : List Rn) (l1 : List UInt8) (w : World) (hr0 : RR w w.heap.size A0 l0) (hr1 : RB w w.heap.size A1 l1) (hc1 : l1.length ≤ c1) (hn1 : A1 = none → c1 = 0) (ok0 : ∀ x ∈ l0, okR x) (k0 : 0 ≤ k) (hi : okI (t, r)) :
    Calls Try.prog 19 #[opv k t r A0 l0.length c0 z, .slice A1 l1.length c1, .int .i64 m] w fun e w' => e = .returned (.bool true) ∧ Below w.heap.size w w' := by
  obtain ⟨w1, hw1, F1, hs1, hb1⟩ := five_fb w (.int .u8 k) (.int .u32 t) (.int .u8 r) (.slice A0 l0.length c0) (.int .i64 z)
  have HF1 := hide F1
  obtain ⟨i0, hi0, hz0, hz1, hz2⟩ := info_parts u8info
  have HR1 := hide hr1
  have HR0 := hide hr0
  have Hc1 := hide hc1
  have Hn1 := hide hn1
  have Ok0 := hide ok0
  have Hi := hide hi
  clear hr1 hr0 hc1 hn1 ok0 hi F1
  go_enter Try.func19, Try.ntmps19
  go_wp2_with fail
  refine (calive_ok w1).mono ?_
  rintro e w2 ⟨rfl, hb2⟩
  have hb02 := fresh hb1 hb2
  have HF2 := hide (HF1.out.below hb2)
  obtain ⟨o0, o1, o2, o3, o4⟩ := HF2.out.cells
  clear hw1
  by_cases hl0 : (64 : Int) < l0.length
  · go_wp2_with fail
    go_ret
    exact ⟨rfl, hb02⟩
  by_cases hl1 : (10000 : Int) < l1.length
  · go_wp2_with fail
    go_ret
    exact ⟨rfl, hb02⟩
  have GB := hide (fun (W : World) h => cget_any A1 l1 l1.length c1 W h rfl (by omega) Hc1.out Hn1.out)
  have P1 := hide (cwrite_any k t r z A0 l0.length c0 l0 w2 (RR.below' HR0.out hb02) rfl (by omega) Ok0.out k0 Hi.out)
  have Hl0 := hide (show l0.length ≤ 64 by omega)
  have Hl1 := hide (show l1.length ≤ 10000 by omega)
  go_wp2_with fail
  refine P1.out.mono ?_
  rintro e w3 ⟨v3, rfl, hown3, hb3⟩
  have hb03 := fresh hb02 hb3
  have HF3 := hide (HF2.out.below hb3)
  clear o0 o1 o2 o3 o4
  obtain ⟨o0, o1, o2, o3, o4⟩ := HF3.out.cells
  by_cases hm : mayO k t r l0 z
  rotate_left
  · rw [show chkO k t r l0 z = 8 from if_neg hm]
    clear hm P1 hown3
    go_wp2_with fail
    clear o0 o1 o2 o3 o4
    refine (unhide GB w3 ((RD.below HR1.out hb03).more hb03.size)).mono ?_
    rintro e wg ⟨Ag, cg, rfl, hown_g, hbg⟩
    have hb0g := fresh hb03 hbg
    have hrg := RR.of_own hown_g rfl
    have Hrg := hide hrg
    clear hown_g hrg
    obtain ⟨wh, hwh, FH, hsh, hbh⟩ := five_fb wg (.int .u8 (outP (getP l1)).1) (.int .u32 (outP (getP l1)).2.1) (.int .u8 (outP (getP l1)).2.2.1) (.slice Ag (outP (getP l1)).2.2.2.1.length cg) (.int .i64 (outP (getP l1)).2.2.2.2.1)
    have hb0h := fresh hb0g hbh
    have HFH := hide FH
    clear FH
    cases hg : getP l1 with
    | none =>
      rw [hg] at hwh
      simp only [outP] at hwh ⊢
      clear hg Hrg HFH GB hwh
      go_wp2_with fail
      go_ret
      exact ⟨rfl, fresh hb0g (boxed _ _)⟩
    | some q =>
      obtain ⟨k', t', r', p', z', n'⟩ := q
      have Hr2 := hide (RR.below' Hrg.out hbh)
      rw [hg] at hwh HFH Hr2
      simp only [outP] at hwh HFH Hr2 ⊢
      obtain ⟨g1, g2, g3, g4, g5, g6⟩ := getP_inv hg
      have hr0' := getP_pos hg
      have hp64 := g1.2.1.2.1
      have P2 := hide (cwrite_any k' t' r' z' Ag p'.length cg p' wh Hr2.out rfl (by omega) g4 (by omega) ⟨by have := g1.1.1; simp only; omega, by have := g1.1.2.1; simp only; omega, hr0', by have := g1.1.2.2; simp only; omega⟩)
      rw [show chkO k' t' r' p' z' = 0 from if_pos g1, show putB k' t' r' p' z' = l1.take n' from (if_pos g1).trans g2.symm] at P2
      have Hn' := hide g3
      obtain ⟨y0, y1, y2, y3, y4⟩ := HFH.out.cells
      have hlt' : (l1.take n').length = n' := by rw [List.length_take]; omega
      rw [hlt'] at P2
      have z1 : (n' : Int) ≤ l1.length := by omega
      have z2 : (0 : Int) ≤ n' := by omega
      have z3 : (n' : Int) ≤ c1 := by have := Hc1.out; omega
      clear hg g1 g2 g4 g5 g6 hr0' hp64 Hrg hlt' GB g3
      go_wp2_with fail
      refine P2.out.mono ?_
      rintro e wi ⟨vi, rfl, hown_i, hbi⟩
      have hb0i := fresh hb0h hbi
      obtain ⟨Ai, ci, rfl, -, -, -⟩ := own_slice hown_i
      have Ri : RB wi wi.heap.size Ai (l1.take n') := by
        have := RD.of_own hown_i
        unfold RB
        rw [List.length_take, Nat.min_eq_left Hn'.out]
        exact this
      have Rb : RB wi wi.heap.size A1 (l1.take n') := RB.opening (show RB wi wi.heap.size A1 l1 from (RD.below HR1.out hb0i).more hb0i.size) n' Hn'.out
      have s1 := fun u => conv_bytes (P := Try.prog) (show RB (past wi u) (past wi u).heap.size Ai (l1.take n') from (RD.below Ri (below_past wi u)).more (below_past wi u).size) Try.underlying67 Try.underlying5 Try.underlying9 ci
      have s2 := fun u => conv_bytes (P := Try.prog) (show RB (past wi u) (past wi u).heap.size A1 (l1.take n') from (RD.below Rb (below_past wi u)).more (below_past wi u).size) Try.underlying67 Try.underlying5 Try.underlying9 c1
      rw [List.length_take, Nat.min_eq_left Hn'.out] at s1 s2
      clear hown_i Ri Rb y0 y1 y2 y3 y4 HFH Hr2
      go_wp2_with fail
      refine wp_region_wq (by kernel_rfl) (by kernel_rfl) ?_
      repeat (
        refine WQ.step (fun K hK => ?_)
        go_simp
        refine hK _ ?_
        clear hK K)
      refine WQ.nil ?_
      intro u
      go_wp2_with fail
      go_ret
      exact ⟨rfl, fresh hb0i (below_past _ u)⟩
  rw [show chkO k t r l0 z = 0 from if_pos hm]
  rw [show putB k t r l0 z = opB k t r l0 z from if_pos hm] at hown3
  have hr00 : 0 ≤ r := by have := Hi.out; unfold okI at this; exact this.2.2.1
  obtain ⟨xo, hxo⟩ : ∃ x : OpL, x = ⟨k, t, r, A0, c0, l0, z⟩ := ⟨_, rfl⟩
  have hoxo : okO xo := by rw [hxo]; exact ⟨k0, Hi.out, Ok0.out, by have := Hl0.out; simp only; omega⟩
  have hmxo : mayL xo := by rw [hxo]; exact hm
  have hbxo : opBL xo = opB k t r l0 z := by rw [hxo]; rfl
  have hlen := opB_len hmxo hoxo
  rw [hbxo] at hlen
  have hG1 := getP_fwd l1 hm Ok0.out hr00
  have hG2 := getP_short hm Ok0.out hr00
  have hall : ∀ x ∈ [xo, xo], mayL x := fun x hx => by rw [mem_two hx]; exact hmxo
  have hE : allE [xo, xo] = 0 := if_pos hall
  have hY : allY [xo, xo] = 2 :: (opB k t r l0 z ++ opB k t r l0 z) := by
    have h1 : allY [xo, xo] = allB [xo, xo] := if_pos hall
    rw [h1]
    simp [allB, nbs, nb_small, hbxo]
  obtain ⟨X, hX⟩ : ∃ l, l = opB k t r l0 z := ⟨_, rfl⟩
  rw [← hX] at hlen hG1 hG2 hY hown3
  have Hlen := hide hlen
  have HG1 := hide hG1
  have HG2 := hide hG2
  have HEY := hide (And.intro hE hY)
  have Hxo := hide hxo
  have Hoxo := hide hoxo
  clear hlen hG1 hG2 hE hY hX hall hbxo hmxo hoxo hxo hm P1
  obtain ⟨A3, c3, rfl, hc3, -, -⟩ := own_slice hown3
  have Hn3 := hide (own_nilC hown3)
  have Hc3 := hide hc3
  have R3 : RB w3 w3.heap.size A3 X := RD.of_own hown3
  have HR3 := hide R3
  have hsz1 : 0 + X.length ≤ 1073741824 := by have := Hlen.out; omega
  have hsz2 : X.length + l1.length ≤ 1073741824 := by have := Hlen.out; have := Hl1.out; omega
  clear hown3 hc3 R3 o0 o1 o2 o3 o4
  go_wp2_with (first
    | (at_builtin; refine wpList_append_src _ rfl (.tmp 46) (.tmp 47) 67 rfl w3.heap.size 5 i0 (.int .u8 0) 1 1 Try.underlying67 hi0 hz0 hz1 hz2 rfl (by decide) _ 0 [] rfl (own_empty w3 _ _ _ (Nat.le_refl _)) w3.heap.size A3 X.length c3 (u8s X) rfl (RD.alloc HR3.out (Nat.le_refl _) _) (u8s_one _) hsz1 (by decide) (by simp) ?_; intro v4 w4 hown4 hb4; simp only [Nat.zero_add, List.nil_append] at hown4; replace hb4 : Below w3.heap.size w3 w4 := ((Below.refl w3.heap.size w3).alloc (Nat.le_refl _) _).trans hb4; have hb04 := fresh hb03 hb4)
    | (at_builtin; refine wpList_append_src _ rfl (.tmp 48) (.tmp 49) 67 rfl w3.heap.size 5 i0 (.int .u8 0) 1 1 Try.underlying67 hi0 hz0 hz1 hz2 rfl (by decide) _ _ _ rfl hown4 w4.heap.size A1 l1.length c1 (u8s l1) rfl ((RD.below HR1.out hb04).more hb04.size) (u8s_one _) hsz2 (by decide) hb4.size ?_; intro v5 w5 hown5 hb5; obtain ⟨A5, c5, rfl, hc5, -, -⟩ := own_slice hown5))
  have hb35 := hb4.trans hb5
  have hb05 := fresh hb03 hb35
  have Hn5 := hide (own_nilC hown5)
  rw [← u8s_append] at hown5
  have R5 : RB w5 w5.heap.size A5 (X ++ l1) := by
    have := RD.of_own hown5
    unfold RB
    rw [List.length_append]
    exact this
  have G5 := hide (cget_any A5 (X ++ l1) (X.length + l1.length) c5 w5 R5 (by rw [List.length_append]) (by have := Hlen.out; have := Hl1.out; omega) hc5 Hn5.out)
  rw [HG1.out] at G5
  simp only [outP] at G5
  clear hown4 hown5 R5 hb4 hb5 hb04 hc5
  refine G5.out.mono ?_
  rintro e w6 ⟨A6, c6, rfl, hown6, hb6⟩
  have hb06 := fresh hb05 hb6
  have hr6 := RR.of_own hown6 rfl
  have hb36 := fresh hb35 hb6
  obtain ⟨w7, hw7, F7, hs7, hb7⟩ := five_fb w6 (.int .u8 k) (.int .u32 t) (.int .u8 r) (.slice A6 l0.length c6) (.int .i64 z)
  have hb07 := fresh hb06 hb7
  have hb37 := fresh hb36 hb7
  have HF7 := hide (HF3.out.below hb37)
  have HP7 := hide F7
  have HR6 := hide (RR.below' hr6 hb7)
  obtain ⟨o0, o1, o2, o3, o4⟩ := HF7.out.cells
  clear hown6 hr6 F7 G5
  go_wp2_with fail
  refine (call_any (some ⟨w7.heap.size, 0, none⟩) 2 2 [xo, xo] _ (by rw [Hxo.out]; exact opsRow w7 k t r z A0 c0 l0 (RR.below' HR0.out hb07)) rfl (by decide) (fun x hx => by rw [mem_two hx]; exact Hoxo.out)).mono ?_
  rw [HEY.out.1, HEY.out.2]
  rintro e w8 ⟨v8, rfl, hown8, hb8'⟩
  have hb8 : Below w7.heap.size w7 w8 := fresh (boxed w7 _) hb8'
  have hb08 := fresh hb07 hb8
  have hb38 := fresh hb37 hb8
  have HF8 := hide (HF7.out.below hb8)
  have HP8 := hide (HP7.out.below hb8)
  have HR68 := hide (RR.below' HR6.out hb8)
  have S8 := hide (opsame_any k t r z k t r z A6 A0 l0.length l0.length c6 c0 l0 l0 w8 HR68.out (RR.below' HR0.out hb08) rfl rfl (by have := Hl0.out; omega) (by have := Hl0.out; omega))
  rw [decide_eq_true ⟨rfl, rfl, rfl, rfl, rfl⟩] at S8
  obtain ⟨A8, c8, rfl, -, -, -⟩ := own_slice hown8
  have R8 : RB w8 w8.heap.size A8 (2 :: (X ++ X)) := RD.of_own hown8
  have HR8 := hide R8
  clear o0 o1 o2 o3 o4 hb8' hown8 R8 hw7
  obtain ⟨o0, o1, o2, o3, o4⟩ := HF8.out.cells
  obtain ⟨p0, p1, p2, p3, p4⟩ := HP8.out.cells
  go_wp2_with fail
  refine S8.out.mono ?_
  rintro e w9 ⟨rfl, hb9⟩
  have hb09 := fresh hb08 hb9
  have hb39 := fresh hb38 hb9
  have Q8 : RB w9 w9.heap.size A8 (2 :: (X ++ X)) := (RD.below HR8.out hb9).more hb9.size
  have Q3 : RB w9 w9.heap.size A3 X := (RD.below HR3.out hb39).more hb39.size
  have HQ3 := hide Q3
  have s8 := conv_bytes (P := Try.prog) Q8 Try.underlying67 Try.underlying5 Try.underlying9 c8
  have s3 := conv_bytes (P := Try.prog) Q3 Try.underlying67 Try.underlying5 Try.underlying9 c3
  simp only [List.length_cons, List.length_append] at s8
  clear Q8 Q3 o0 o1 o2 o3 o4 p0 p1 p2 p3 p4
  have hst : (2 :: (X ++ X) == (({ data := #[2] } : ByteArray) ++ { data := X.toArray } ++ { data := X.toArray }).toList) = true := by
    rw [show ({ data := #[2] } : ByteArray) = ⟨[2].toArray⟩ from rfl, str_append, str_append, ByteArray.toList_eq]
    simp
  have hways : m < 0 ∨ (0 ≤ m ∧ ¬ m < X.length) ∨ (0 ≤ m ∧ m < X.length) := by omega
  rcases hways with hm0 | ⟨hm0, hmx⟩ | ⟨hm0, hmx⟩
  · go_wp2_with fail
    clear s8 s3 hst
    refine (unhide GB w9 ((RD.below HR1.out hb09).more hb09.size)).mono ?_
    rintro e wg ⟨Ag, cg, rfl, hown_g, hbg⟩
    have hb0g := fresh hb09 hbg
    have hrg := RR.of_own hown_g rfl
    have Hrg := hide hrg
    clear hown_g hrg
    obtain ⟨wh, hwh, FH, hsh, hbh⟩ := five_fb wg (.int .u8 (outP (getP l1)).1) (.int .u32 (outP (getP l1)).2.1) (.int .u8 (outP (getP l1)).2.2.1) (.slice Ag (outP (getP l1)).2.2.2.1.length cg) (.int .i64 (outP (getP l1)).2.2.2.2.1)
    have hb0h := fresh hb0g hbh
    have HFH := hide FH
    clear FH
    cases hg : getP l1 with
    | none =>
      rw [hg] at hwh
      simp only [outP] at hwh ⊢
      clear hg Hrg HFH GB hwh
      go_wp2_with fail
      go_ret
      exact ⟨rfl, fresh hb0g (boxed _ _)⟩
    | some q =>
      obtain ⟨k', t', r', p', z', n'⟩ := q
      have Hr2 := hide (RR.below' Hrg.out hbh)
      rw [hg] at hwh HFH Hr2
      simp only [outP] at hwh HFH Hr2 ⊢
      obtain ⟨g1, g2, g3, g4, g5, g6⟩ := getP_inv hg
      have hr0' := getP_pos hg
      have hp64 := g1.2.1.2.1
      have P2 := hide (cwrite_any k' t' r' z' Ag p'.length cg p' wh Hr2.out rfl (by omega) g4 (by omega) ⟨by have := g1.1.1; simp only; omega, by have := g1.1.2.1; simp only; omega, hr0', by have := g1.1.2.2; simp only; omega⟩)
      rw [show chkO k' t' r' p' z' = 0 from if_pos g1, show putB k' t' r' p' z' = l1.take n' from (if_pos g1).trans g2.symm] at P2
      have Hn' := hide g3
      obtain ⟨y0, y1, y2, y3, y4⟩ := HFH.out.cells
      have hlt' : (l1.take n').length = n' := by rw [List.length_take]; omega
      rw [hlt'] at P2
      have z1 : (n' : Int) ≤ l1.length := by omega
      have z2 : (0 : Int) ≤ n' := by omega
      have z3 : (n' : Int) ≤ c1 := by have := Hc1.out; omega
      clear hg g1 g2 g4 g5 g6 hr0' hp64 Hrg hlt' GB g3
      go_wp2_with fail
      refine P2.out.mono ?_
      rintro e wi ⟨vi, rfl, hown_i, hbi⟩
      have hb0i := fresh hb0h hbi
      obtain ⟨Ai, ci, rfl, -, -, -⟩ := own_slice hown_i
      have Ri : RB wi wi.heap.size Ai (l1.take n') := by
        have := RD.of_own hown_i
        unfold RB
        rw [List.length_take, Nat.min_eq_left Hn'.out]
        exact this
      have Rb : RB wi wi.heap.size A1 (l1.take n') := RB.opening (show RB wi wi.heap.size A1 l1 from (RD.below HR1.out hb0i).more hb0i.size) n' Hn'.out
      have s1 := fun u => conv_bytes (P := Try.prog) (show RB (past wi u) (past wi u).heap.size Ai (l1.take n') from (RD.below Ri (below_past wi u)).more (below_past wi u).size) Try.underlying67 Try.underlying5 Try.underlying9 ci
      have s2 := fun u => conv_bytes (P := Try.prog) (show RB (past wi u) (past wi u).heap.size A1 (l1.take n') from (RD.below Rb (below_past wi u)).more (below_past wi u).size) Try.underlying67 Try.underlying5 Try.underlying9 c1
      rw [List.length_take, Nat.min_eq_left Hn'.out] at s1 s2
      clear hown_i Ri Rb y0 y1 y2 y3 y4 HFH Hr2
      go_wp2_with fail
      refine wp_region_wq (by kernel_rfl) (by kernel_rfl) ?_
      repeat (
        refine WQ.step (fun K hK => ?_)
        go_simp
        refine hK _ ?_
        clear hK K)
      refine WQ.nil ?_
      intro u
      go_wp2_with fail
      go_ret
      exact ⟨rfl, fresh hb0i (below_past _ u)⟩
  · go_wp2_with fail
    clear s8 s3 hst
    refine (unhide GB w9 ((RD.below HR1.out hb09).more hb09.size)).mono ?_
    rintro e wg ⟨Ag, cg, rfl, hown_g, hbg⟩
    have hb0g := fresh hb09 hbg
    have hrg := RR.of_own hown_g rfl
    have Hrg := hide hrg
    clear hown_g hrg
    obtain ⟨wh, hwh, FH, hsh, hbh⟩ := five_fb wg (.int .u8 (outP (getP l1)).1) (.int .u32 (outP (getP l1)).2.1) (.int .u8 (outP (getP l1)).2.2.1) (.slice Ag (outP (getP l1)).2.2.2.1.length cg) (.int .i64 (outP (getP l1)).2.2.2.2.1)
    have hb0h := fresh hb0g hbh
    have HFH := hide FH
    clear FH
    cases hg : getP l1 with
    | none =>
      rw [hg] at hwh
      simp only [outP] at hwh ⊢
      clear hg Hrg HFH GB hwh
      go_wp2_with fail
      go_ret
      exact ⟨rfl, fresh hb0g (boxed _ _)⟩
    | some q =>
      obtain ⟨k', t', r', p', z', n'⟩ := q
      have Hr2 := hide (RR.below' Hrg.out hbh)
      rw [hg] at hwh HFH Hr2
      simp only [outP] at hwh HFH Hr2 ⊢
      obtain ⟨g1, g2, g3, g4, g5, g6⟩ := getP_inv hg
      have hr0' := getP_pos hg
      have hp64 := g1.2.1.2.1
      have P2 := hide (cwrite_any k' t' r' z' Ag p'.length cg p' wh Hr2.out rfl (by omega) g4 (by omega) ⟨by have := g1.1.1; simp only; omega, by have := g1.1.2.1; simp only; omega, hr0', by have := g1.1.2.2; simp only; omega⟩)
      rw [show chkO k' t' r' p' z' = 0 from if_pos g1, show putB k' t' r' p' z' = l1.take n' from (if_pos g1).trans g2.symm] at P2
      have Hn' := hide g3
      obtain ⟨y0, y1, y2, y3, y4⟩ := HFH.out.cells
      have hlt' : (l1.take n').length = n' := by rw [List.length_take]; omega
      rw [hlt'] at P2
      have z1 : (n' : Int) ≤ l1.length := by omega
      have z2 : (0 : Int) ≤ n' := by omega
      have z3 : (n' : Int) ≤ c1 := by have := Hc1.out; omega
      clear hg g1 g2 g4 g5 g6 hr0' hp64 Hrg hlt' GB g3
      go_wp2_with fail
      refine P2.out.mono ?_
      rintro e wi ⟨vi, rfl, hown_i, hbi⟩
      have hb0i := fresh hb0h hbi
      obtain ⟨Ai, ci, rfl, -, -, -⟩ := own_slice hown_i
      have Ri : RB wi wi.heap.size Ai (l1.take n') := by
        have := RD.of_own hown_i
        unfold RB
        rw [List.length_take, Nat.min_eq_left Hn'.out]
        exact this
      have Rb : RB wi wi.heap.size A1 (l1.take n') := RB.opening (show RB wi wi.heap.size A1 l1 from (RD.below HR1.out hb0i).more hb0i.size) n' Hn'.out
      have s1 := fun u => conv_bytes (P := Try.prog) (show RB (past wi u) (past wi u).heap.size Ai (l1.take n') from (RD.below Ri (below_past wi u)).more (below_past wi u).size) Try.underlying67 Try.underlying5 Try.underlying9 ci
      have s2 := fun u => conv_bytes (P := Try.prog) (show RB (past wi u) (past wi u).heap.size A1 (l1.take n') from (RD.below Rb (below_past wi u)).more (below_past wi u).size) Try.underlying67 Try.underlying5 Try.underlying9 c1
      rw [List.length_take, Nat.min_eq_left Hn'.out] at s1 s2
      clear hown_i Ri Rb y0 y1 y2 y3 y4 HFH Hr2
      go_wp2_with fail
      refine wp_region_wq (by kernel_rfl) (by kernel_rfl) ?_
      repeat (
        refine WQ.step (fun K hK => ?_)
        go_simp
        refine hK _ ?_
        clear hK K)
      refine WQ.nil ?_
      intro u
      go_wp2_with fail
      go_ret
      exact ⟨rfl, fresh hb0i (below_past _ u)⟩
  · obtain ⟨M, rfl⟩ : ∃ M : Nat, m = M := ⟨m.toNat, by omega⟩
    have zc : (M : Int) ≤ c3 := by have := Hc3.out; omega
    have hMX : M < X.length := by omega
    have Gq := hide (cget_any A3 (X.take M) M c3 w9 (RB.opening HQ3.out M (by omega)) (by rw [List.length_take]; omega) (by have := Hlen.out; omega) (by omega) Hn3.out)
    rw [HG2.out M hMX] at Gq
    simp only [outP, List.length_nil] at Gq
    clear hMX
    go_wp2_with fail
    refine Gq.out.mono ?_
    rintro e w10 ⟨Aq, cq, rfl, -, hb10⟩
    have hb010 := fresh hb09 hb10
    clear s8 s3 hst Gq hb10
    go_wp2_with fail
    have hb11 := boxed w10 (.cells #[.int .u8 0, .int .u32 0, .int .u8 0, .slice Aq 0 cq, .int .i64 0] 47)
    generalize w10.alloc (.cells #[.int .u8 0, .int .u32 0, .int .u8 0, .slice Aq 0 cq, .int .i64 0] 47) = w11 at hb11 ⊢
    have hb011 := fresh hb010 hb11
    refine (unhide GB w11 ((RD.below HR1.out hb011).more hb011.size)).mono ?_
    rintro e wg ⟨Ag, cg, rfl, hown_g, hbg⟩
    have hb0g := fresh hb011 hbg
    have hrg := RR.of_own hown_g rfl
    have Hrg := hide hrg
    clear hown_g hrg
    obtain ⟨wh, hwh, FH, hsh, hbh⟩ := five_fb wg (.int .u8 (outP (getP l1)).1) (.int .u32 (outP (getP l1)).2.1) (.int .u8 (outP (getP l1)).2.2.1) (.slice Ag (outP (getP l1)).2.2.2.1.length cg) (.int .i64 (outP (getP l1)).2.2.2.2.1)
    have hb0h := fresh hb0g hbh
    have HFH := hide FH
    clear FH
    cases hg : getP l1 with
    | none =>
      rw [hg] at hwh
      simp only [outP] at hwh ⊢
      clear hg Hrg HFH GB hwh
      go_wp2_with fail
      go_ret
      exact ⟨rfl, fresh hb0g (boxed _ _)⟩
    | some q =>
      obtain ⟨k', t', r', p', z', n'⟩ := q
      have Hr2 := hide (RR.below' Hrg.out hbh)
      rw [hg] at hwh HFH Hr2
      simp only [outP] at hwh HFH Hr2 ⊢
      obtain ⟨g1, g2, g3, g4, g5, g6⟩ := getP_inv hg
      have hr0' := getP_pos hg
      have hp64 := g1.2.1.2.1
      have P2 := hide (cwrite_any k' t' r' z' Ag p'.length cg p' wh Hr2.out rfl (by omega) g4 (by omega) ⟨by have := g1.1.1; simp only; omega, by have := g1.1.2.1; simp only; omega, hr0', by have := g1.1.2.2; simp only; omega⟩)
      rw [show chkO k' t' r' p' z' = 0 from if_pos g1, show putB k' t' r' p' z' = l1.take n' from (if_pos g1).trans g2.symm] at P2
      have Hn' := hide g3
      obtain ⟨y0, y1, y2, y3, y4⟩ := HFH.out.cells
      have hlt' : (l1.take n').length = n' := by rw [List.length_take]; omega
      rw [hlt'] at P2
      have z1 : (n' : Int) ≤ l1.length := by omega
      have z2 : (0 : Int) ≤ n' := by omega
      have z3 : (n' : Int) ≤ c1 := by have := Hc1.out; omega
      clear hg g1 g2 g4 g5 g6 hr0' hp64 Hrg hlt' GB g3
      go_wp2_with fail
      refine P2.out.mono ?_
      rintro e wi ⟨vi, rfl, hown_i, hbi⟩
      have hb0i := fresh hb0h hbi
      obtain ⟨Ai, ci, rfl, -, -, -⟩ := own_slice hown_i
      have Ri : RB wi wi.heap.size Ai (l1.take n') := by
        have := RD.of_own hown_i
        unfold RB
        rw [List.length_take, Nat.min_eq_left Hn'.out]
        exact this
      have Rb : RB wi wi.heap.size A1 (l1.take n') := RB.opening (show RB wi wi.heap.size A1 l1 from (RD.below HR1.out hb0i).more hb0i.size) n' Hn'.out
      have s1 := fun u => conv_bytes (P := Try.prog) (show RB (past wi u) (past wi u).heap.size Ai (l1.take n') from (RD.below Ri (below_past wi u)).more (below_past wi u).size) Try.underlying67 Try.underlying5 Try.underlying9 ci
      have s2 := fun u => conv_bytes (P := Try.prog) (show RB (past wi u) (past wi u).heap.size A1 (l1.take n') from (RD.below Rb (below_past wi u)).more (below_past wi u).size) Try.underlying67 Try.underlying5 Try.underlying9 c1
      rw [List.length_take, Nat.min_eq_left Hn'.out] at s1 s2
      clear hown_i Ri Rb y0 y1 y2 y3 y4 HFH Hr2
      go_wp2_with fail
      refine wp_region_wq (by kernel_rfl) (by kernel_rfl) ?_
      repeat (
        refine WQ.step (fun K hK => ?_)
        go_simp
        refine hK _ ?_
        clear hK K)
      refine WQ.nil ?_
      intro u
      go_wp2_with fail
      go_ret
      exact ⟨rfl, fresh hb0i (below_past _ u)⟩
end Go.Proofs.Ytbjfmkdjnglgbaa
