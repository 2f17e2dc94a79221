/-
  StampNext: true for every replica and stamps. No condition.
-/
import Derived.Test.YtllmlnbgfikeaaaStampNames
import Derived.Test.YtllmlnbgfikeaaaStampRegion
import Derived.Test.YtllmlnbgfikeaaaPastQ
namespace Go.Proofs.Ytllmlnbgfikeaaa
open Go.RowKit

theorem arr_fn (T : Array Value) (n : Nat) (h : T.size = n) : T = ((List.range n).map fun i => T.getD i undef).toArray := by
  refine Array.ext (by simp [h]) fun i h1 h2 => ?_
  simp [Array.getD, h1]

theorem topI_le {l : List (Int × Int)} {a : Int × Int} (h : a ∈ l) : a.1 ≤ topI l := by
  have key : ∀ (l : List (Int × Int)) (m : Int), m ≤ l.foldl (fun m a => max m a.1) m ∧ ∀ a ∈ l, a.1 ≤ l.foldl (fun m a => max m a.1) m := by
    intro l
    induction l with
    | nil => intro m; exact ⟨Int.le_refl _, fun a ha => by cases ha⟩
    | cons b l ih =>
      intro m
      obtain ⟨h1, h2⟩ := ih (max m b.1)
      refine ⟨by simp only [List.foldl_cons]; omega, fun a ha => ?_⟩
      simp only [List.foldl_cons]
      rcases List.mem_cons.1 ha with rfl | h
      · omega
      · exact h2 a h
  exact (key l 0).2 a h
theorem topI_mem (l : List (Int × Int)) : topI l = 0 ∨ ∃ a ∈ l, a.1 = topI l := by
  have key : ∀ (l : List (Int × Int)) (m : Int), l.foldl (fun m a => max m a.1) m = m ∨ ∃ a ∈ l, a.1 = l.foldl (fun m a => max m a.1) m := by
    intro l
    induction l with
    | nil => intro m; exact .inl rfl
    | cons b l ih =>
      intro m
      simp only [List.foldl_cons]
      rcases ih (max m b.1) with h | ⟨a, ha, h⟩
      · rw [h]
        by_cases hm : m ≤ b.1
        · exact .inr ⟨b, List.mem_cons_self, by omega⟩
        · exact .inl (by omega)
      · exact .inr ⟨a, List.mem_cons_of_mem _ ha, h⟩
  exact key l 0
theorem topI_nn (l : List (Int × Int)) : 0 ≤ topI l := by
  rcases topI_mem l with h | ⟨a, ha, h⟩
  · omega
  · have key : ∀ (l : List (Int × Int)) (m : Int), m ≤ l.foldl (fun m a => max m a.1) m := by
      intro l
      induction l with
      | nil => intro m; exact Int.le_refl _
      | cons b l ih => intro m; simp only [List.foldl_cons]; have := ih (max m b.1); omega
    exact key l 0
/-- What is known where Next answers a stamp. -/
theorem nextI_ok {r t s : Int} {l : List (Int × Int)} (h : nextI r l = ((t, s), 0)) : l.length ≤ 1024 ∧ ¬ 8 ≤ r ∧ (∀ a ∈ l, inI a) ∧ topI l ≠ 1073741824 ∧ t = topI l + 1 ∧ s = r := by
  unfold nextI at h
  split at h
  · simp at h
  split at h
  · simp at h
  split at h
  · simp at h
  split at h
  · simp at h
  · rename_i h1 h2 h3 h4
    simp only [Prod.mk.injEq, and_true] at h
    refine ⟨by omega, h2, fun a ha => ?_, h4, h.1.symm, h.2.symm⟩
    exact Classical.not_not.1 (fun hn => h3 ⟨a, ha, hn⟩)
theorem ids_one (l : List (Int × Int)) : ∀ u ∈ ids l, u.oneCell' = true := by
  intro u hu
  simp only [ids, List.mem_flatMap] at hu
  obtain ⟨a, _, h⟩ := hu
  simp at h
  rcases h with rfl | rfl <;> rfl
theorem nextI_err {r t s k : Int} {l : List (Int × Int)} (h : nextI r l = ((t, s), k)) (hk : k ≠ 0) : t = 0 ∧ s = 0 := by
  unfold nextI at h
  split at h
  · simp at h; omega
  split at h
  · simp at h; omega
  split at h
  · simp at h; omega
  split at h
  · simp at h; omega
  · simp at h; omega

theorem ri_own {w : World} {base c : Nat} {A : Option Addr} {l : List (Int × Int)} {t s : Int} (h : w.ownsRow base 31 2 (.slice A (0 + l.length + 1) c) (0 + l.length + 1) (([] ++ ids l) ++ (#[Value.int .u32 t, Value.int .u8 s] : Array Value).toList)) : RI w w.heap.size A (l ++ [(t, s)]) := by
  have e : ids (l ++ [(t, s)]) = ([] ++ ids l) ++ (#[Value.int .u32 t, Value.int .u8 s] : Array Value).toList := by simp [ids]
  unfold RI
  rw [e, List.length_append, ← Nat.zero_add l.length]
  exact RD.of_own h
theorem below_box {B : Nat} {w W : World} (h : Below B w W) (hB : B ≤ w.heap.size) (o : Obj) : Below B w (W.alloc o) := h.alloc (Nat.le_trans hB h.size) _
theorem below_next {B : Nat} {w W W' : World} (h : Below B w W) (hB : B ≤ w.heap.size) (h8 : Below W.heap.size W W') : Below B w W' := h.trans (h8.mono (Nat.le_trans hB h.size))
theorem nextI_again {t s : Int} {l : List (Int × Int)} (hl : l.length ≤ 1000) (hs : ¬ 8 ≤ s) (hin : ∀ a ∈ l, inI a) (ht : t = topI l + 1) (h1 : 1 ≤ t) (h2 : t ≤ 1073741824) :
    nextI s (l ++ [(t, s)]) = if t = 1073741824 then ((0, 0), 50) else ((t + 1, s), 0) := by
  have htop : topI (l ++ [(t, s)]) = t := by rw [topI_snoc]; simp only; omega
  unfold nextI
  rw [if_neg (by simp; omega), if_neg hs, if_neg, htop]
  rintro ⟨a, ha, hn⟩
  rcases List.mem_append.1 ha with h | h
  · exact hn (hin a h)
  · simp at h
    subst h
    exact hn (.inr ⟨h1, h2, by omega⟩)

set_option maxHeartbeats 12800000 in
set_option maxRecDepth 100000 in
theorem stampNext_walk (r : Int) (A : Option Addr) (c : Nat) (l : List (Int × Int)) (w : World) (wr0 : (Lit.int .u8 r).wf = true) (hr : RI w w.heap.size A l) (hok : ∀ a ∈ l, okI a) :
    Calls Try.prog 7 #[.int .u8 r, .slice A l.length c] w fun e w' => e = .returned (.bool true) ∧ Below w.heap.size w w' := by
  by_cases h1 : (1000 : Int) < (l.length : Int)
  · go_enter Try.func7, Try.ntmps7
    go_wp2_with fail
    refine (salive_ok _).mono ?_
    rintro e w1 ⟨rfl, hb1⟩
    go_wp2_with fail
    go_ret
    exact ⟨rfl, hb1⟩
  have r0 : 0 ≤ r ∧ r < 256 := by
    simp [Lit.wf, IntKind.min, IntKind.max, IntKind.signed, IntKind.bits] at wr0
    omega
  clear wr0
  obtain ⟨⟨⟨t, s⟩, k⟩, hnx⟩ : ∃ q, nextI r l = q := ⟨_, rfl⟩
  have Hnx := hide hnx
  have Hok := hide hok
  clear hok
  by_cases hk : k = 0
  · subst hk
    obtain ⟨hl, hr8, hin, htop, ht, hs⟩ := nextI_ok hnx
    subst hs
    have hnn := topI_nn l
    have htm : topI l ≤ 1073741824 := by
      rcases topI_mem l with h | ⟨a, ha, h⟩
      · omega
      · rcases hin a ha with h2 | h2
        · rw [h2] at h; simp at h; omega
        · have := h2.2.1; omega
    have t1 : 1 ≤ t := by omega
    have t2 : t ≤ 1073741824 := by omega
    clear hnx
    have Hin := hide hin
    have Ht := hide ht
    clear hin ht htop hnn htm
    obtain ⟨r1, r2⟩ := r0
    go_enter Try.func7, Try.ntmps7
    go_wp2_with fail
    refine (salive_ok _).mono ?_
    rintro e w1 ⟨rfl, hb1⟩
    have hr1 : RI w1 w1.heap.size A l := (RD.below hr hb1).more hb1.size
    go_wp2_with fail
    refine (next_is s A l.length c l t s 0 w1 hr1 rfl (by omega) Hok.out Hnx.out).mono ?_
    rintro e w2 ⟨rfl, hb2⟩
    have hr2 : RI w2 w2.heap.size A l := (RD.below hr1 hb2).more hb2.size
    have hbw2 := fresh hb1 hb2
    obtain ⟨w3, hw3, k0, k1, hs3, hb3⟩ := one_box w2 (.int .u32 t) (.int .u8 s) 31
    have hr3 : RI w3 w3.heap.size A l := (RD.below hr2 hb3).more hb3.size
    have hbw3 := fresh hbw2 hb3
    have Hw3 := hide hw3
    have K0 := hide k0
    have K1 := hide k1
    clear hw3 hr hr1 hr2 k0 k1
    go_wp2_with fail
    rw [Hw3.out]
    have hL := hide (fun (x y : Int) (w : World) (hx : okI (x, y)) (hxt : x < t) => less_yes x y t s w hx.1 hx.2.1 hx.2.2.1 hx.2.2.2 (by omega) (by omega) r1 r2 (decide_eq_true (.inl hxt)))
    go_loopw [8, 9] (fun nr i wr => ∃ (k : Nat) (nb : Bool), k ≤ l.length ∧ i = .int .i64 (k : Int) ∧ nr = .bool nb ∧ Hid (nb = (t == 1 || (l.take k).any fun a => a.1 == t - 1)) ∧ Below w3.heap.size w3 wr) (fun _ i _ => l.length - (intOf i).toNat)
    case atStart => exact ⟨0, t == 1, by omega, rfl, rfl, hide (by simp), Below.refl _ _⟩
    case round =>
      obtain ⟨k, nb, hk, rfl, rfl, hnb, hb⟩ := hrel
      have k0 := keep_cell hb hs3 K0.out
      have k1 := keep_cell hb hs3 K1.out
      have hsr := Nat.lt_of_lt_of_le hs3 hb.size
      by_cases hlt : k < l.length
      · obtain ⟨b0, o0, rfl, hB0, hC0⟩ := RI.cell (RD.below hr3 hb) (by omega)
        obtain ⟨d0, d1⟩ := hC0 k hlt
        clear hC0
        have z0 : (k : Int) < l.length := by omega
        have z1 : (0 : Int) ≤ k := by omega
        obtain ⟨x, hx⟩ : ∃ x, x = l[k].1 := ⟨_, rfl⟩
        obtain ⟨y, hy⟩ : ∃ y, y = l[k].2 := ⟨_, rfl⟩
        rw [← hx] at d0
        rw [← hy] at d1
        have hel : l[k] = (x, y) := by rw [hx, hy]
        have hokk := Hok.out l[k] (List.getElem_mem hlt)
        have hxt : x < t := by have := topI_le (List.getElem_mem hlt); rw [← hx] at this; have := Ht.out; omega
        rw [hel] at hokk
        have hLL := hide (fun w => hL.out x y w hokk hxt)
        have Hel := hide hel
        have hb0r : b0 < wr.heap.size := Nat.lt_of_lt_of_le hB0 hb.size
        have hnb' := hide (show (nb || x == t - 1) = (t == 1 || (l.take (k + 1)).any fun a => a.1 == t - 1) by
          rw [hnb.out, List.take_succ_eq_append_getElem hlt, Hel.out, List.any_append, Bool.or_assoc]
          simp)
        clear hx hy hel hokk hxt hnb
        generalize w2.heap.size = g at k0 k1 hsr hs3 ⊢
        go_wp2_with fail
        refine wp_region_past (by kernel_rfl) (by kernel_rfl) ?_
        repeat (quiet_step ((first
              | (go_at_call 21; with_reducible exact past_call (unhide hLL _)))))
        refine wpQuiet_nil ?_
        intro w5 hw5
        obtain ⟨u, rfl⟩ := hw5
        have hbp := below_past wr u
        replace k0 := keep_cell hbp hsr k0
        replace k1 := keep_cell hbp hsr k1
        replace d0 := keep_cell hbp hb0r d0
        replace d1 := keep_cell hbp hb0r d1
        replace hsr := Nat.lt_of_lt_of_le hsr hbp.size
        replace hb0r := Nat.lt_of_lt_of_le hb0r hbp.size
        have hb5 := fresh hb hbp
        generalize past wr u = W at k0 k1 d0 d1 hsr hb0r hb5 ⊢
        clear hbp
        cases nb with
        | true =>
          clear d0 d1 k0 k1 hLL hL
          go_wp2_with fail
          go_quiet (fail)
          go_wp2_with fail
          go_roundw
          case rel => exact ⟨k + 1, true, by omega, by go_num, rfl, hide (by rw [← hnb'.out]; rfl), below_drewN hb5 _⟩
          case measure => simp [intOf]; omega
        | false =>
          have ht1 : IntKind.u32.wrap (t - 1) = t - 1 := by simp [IntKind.wrap, IntKind.bits, IntKind.signed]; omega
          clear hLL hL
          go_wp2_with fail
          go_quiet (fail)
          clear ht1 d0 d1 k0 k1
          go_wp2_with fail
          go_roundw
          case rel => exact ⟨k + 1, x == t - 1, by omega, by go_num, rfl, hide (by rw [← hnb'.out]; rfl), below_drewN hb5 _⟩
          case measure => simp [intOf]; omega
      · have hkl : ¬ (k : Int) < l.length := by omega
        have hnt : nb = true := by
          rw [hnb.out, List.take_of_length_le (by omega)]
          rcases topI_mem l with h | ⟨a, ha, h⟩
          · have : t = 1 := by have := Ht.out; omega
            simp [this]
          · have : l.any (fun a => a.1 == t - 1) = true := List.any_eq_true.2 ⟨a, ha, by have := Ht.out; simp; omega⟩
            rw [this, Bool.or_true]
        subst hnt
        obtain ⟨i0, hi, hz0, hz1, hz2⟩ := info_parts idinfo
        have hrr : RI wr wr.heap.size A l := (RD.below hr3 hb).more hb.size
        have hbr := fresh hbw3 hb
        clear hnb hL
        generalize w2.heap.size = g at k0 k1 hsr ⊢
        have hag := hide (nextI_again (t := t) (s := s) (l := l) (by omega) (by omega) Hin.out Ht.out t1 t2)
        have hok2 : ∀ a ∈ l ++ [(t, s)], okI a := by
          intro a ha
          rcases List.mem_append.1 ha with h | h
          · exact Hok.out a h
          · simp at h
            subst h
            exact ⟨by simp only; omega, by simp only; omega, r1, r2⟩
        have Hok2 := hide hok2
        clear hok2
        obtain ⟨⟨⟨t', s'⟩, k'⟩, hnx2⟩ : ∃ q, nextI s (l ++ [(t, s)]) = q := ⟨_, rfl⟩
        have Hnx2 := hide hnx2
        clear hnx2
        have hrr' := hide hrr
        go_wp2_with fail
        obtain ⟨nl, hnl⟩ : ∃ m, m = l.length := ⟨_, rfl⟩
        have Hnl := hide hnl
        rw [← hnl]
        clear hnl
        refine wp_region_inv (SI wr nl l t s t' s' (.int .u8 s) (.slice A nl c) (.agg #[.int .u32 t, .int .u8 s]) (.tuple #[.agg #[.int .u32 t', .int .u8 s'], .int .i64 k']) (.agg #[.int .u32 t', .int .u8 s']) (.int .i64 k')) (by kernel_rfl) 105 (by rfl) (by kernel_rfl) ?_ ?_ ?_
        · exact { b := (Below.refl _ _).drew, p0 := fun h => (by cases h), p2 := fun h => (by cases h), p4 := fun h => (by cases h), p7 := fun h => (by cases h), p8 := fun h => (by cases h), p9 := fun h => (by cases h), p10 := fun h => (by cases h), p13 := fun h => (by cases h), m1 := fun h => (by cases h), m5 := fun h => (by cases h), m3 := fun h => (by cases h), m6 := fun h => (by cases h), mB := fun h => (by cases h), mS := fun h => (by cases h), z6 := fun h => (by cases h), z7 := fun h => (by cases h), z8 := fun h => (by cases h), z9 := fun h => (by cases h), z12 := fun h => (by cases h) }
        · refine ⟨?_, ?_, ?_, ?_, ?_, ?_, ?_, ?_, ?_, ?_, ?_, ?_, ?_, ?_, trivial⟩
          · intro done ρ w' hn hf hd h
            have q0 := hf 0 (by kernel_rfl)
            change ρ 0 = .int .u8 s at q0
            clear hf
            refine .inl ⟨rfl, opOK_step fun R hR => ?_⟩
            unfold opOK
            go_simp
            exact hR _ _ (si_step0 h)
          · intro done ρ w' hn hf hd h
            clear hf
            refine .inl ⟨rfl, opOK_step fun R hR => ?_⟩
            unfold opOK
            go_simp
            exact hR _ _ (si_step1 (h.keep (boxed _ _)) w'.heap.size h.b.size (heap_alloc_new _ _))
          · intro done ρ w' hn hf hd h
            have q1 := hf 1 (by kernel_rfl)
            change ρ 1 = .slice A nl c at q1
            clear hf
            refine .inl ⟨rfl, opOK_step fun R hR => ?_⟩
            unfold opOK
            go_simp
            exact hR _ _ (si_step2 h)
          · intro done ρ w' hn hf hd h
            clear hf
            refine .inl ⟨rfl, opOK_step fun R hR => ?_⟩
            obtain ⟨g1, h62, hgb, hc⟩ := h.m1 (hd 1 (by kernel_rfl)) hn
            have h63 := h.p2 (hd 2 (by kernel_rfl))
            have hown : w'.ownsRow wr.heap.size 31 2 (.slice (some ⟨g1, 0, none⟩) 0 0) 0 [] := ⟨by simp, .inr ⟨g1, 0, #[], rfl, hgb, hc, Nat.le_refl _, Nat.zero_le _, by simp, by simp⟩⟩
            have hrl : RD w' wr.heap.size 2 A nl (ids l) := by rw [Hnl.out]; exact RD.below hrr'.out h.b
            obtain ⟨v', w2, hrun, hown2, hgr, hblk⟩ := run_append_src2 (P := Try.prog) w' wr.heap.size 35 35 31 i0 (.agg #[.int .u32 0, .int .u8 0]) 2 8 Try.underlying35 hi hz0 hz1 hz2 rfl (by decide) _ 0 [] hown wr.heap.size A nl c (ids l) hrl (ids_one l) (by have := Hnl.out; unfold maxLen; omega) (by have := Hnl.out; omega) h.b.size
            simp only [Nat.zero_add, List.nil_append] at hown2
            obtain ⟨A', c', rfl, -, -, -⟩ := own_slice hown2
            refine opOK_append (.tmp 62) (.tmp 63) 35 rfl _ _ h62 h63 _ w2 hrun ?_
            exact hR _ _ (si_step3 h g1 hc hgr (h.b.trans (grown_below hown hgr h.b.size)) hn A' c' hown2 hblk)
          · intro done ρ w' hn hf hd h
            have q6 := hf 6 (by kernel_rfl)
            change ρ 6 = .pointer (some ⟨g, 0, none⟩) at q6
            clear hf
            have y0 := keep_cell h.b hsr k0
            have y1 := keep_cell h.b hsr k1
            refine .inl ⟨rfl, opOK_step fun R hR => ?_⟩
            unfold opOK
            go_simp
            exact hR _ _ (si_step4 h)
          · intro done ρ w' hn hf hd h
            have q65 := h.p4 (hd 4 (by kernel_rfl))
            clear hf
            refine .inl ⟨rfl, opOK_step fun R hR => ?_⟩
            unfold opOK
            go_simp
            exact hR _ _ (si_step5 (h.keep (boxed _ _)) w'.heap.size h.b.size (heap_alloc_new _ _))
          · intro done ρ w' hn hf hd h
            clear hf
            refine .inl ⟨rfl, opOK_step fun R hR => ?_⟩
            have d5 := hd 5 (by kernel_rfl)
            have d3 := hd 3 (by kernel_rfl)
            obtain ⟨A2, c2, h64, hown⟩ := h.m3 d3 hn
            obtain ⟨g5, h66, hg5, hc5⟩ := h.m5 d5 hn
            have hrl : RD w' w'.heap.size 2 (some ⟨g5, 0, none⟩) 1 (ids [(t, s)]) := ⟨rfl, fun _ => ⟨g5, 0, rfl, (Array.getElem?_eq_some_iff.1 hc5).1, fun j u hu => by
              rw [Nat.zero_add, cell_of_row _ _ _ _ _ _ hc5, ← Array.getElem?_toList]
              exact hu⟩⟩
            obtain ⟨v', w2, hrun, hown2, hgr, -⟩ := run_append_src2 (P := Try.prog) w' wr.heap.size 35 35 31 i0 (.agg #[.int .u32 0, .int .u8 0]) 2 8 Try.underlying35 hi hz0 hz1 hz2 rfl (by decide) _ nl (ids l) hown w'.heap.size (some ⟨g5, 0, none⟩) 1 1 (ids [(t, s)]) hrl (ids_one [(t, s)]) (by have := Hnl.out; unfold maxLen; omega) (by have := Hnl.out; omega) h.b.size
            have hids : ids (l ++ [(t, s)]) = ids l ++ ids [(t, s)] := by simp [ids]
            rw [← hids] at hown2
            obtain ⟨A', c', rfl, -, -, -⟩ := own_slice hown2
            refine opOK_append (.tmp 64) (.tmp 66) 35 rfl _ _ h64 h66 _ w2 hrun ?_
            exact hR _ _ (si_step6 h _ (by rw [h64]) hgr (h.b.trans (grown_below hown hgr h.b.size)) hn d3 d5 A' c' hown2)
          · intro done ρ w' hn hf hd h
            clear hf
            refine .inl ⟨rfl, opOK_step fun R hR => ?_⟩
            have d6 := hd 6 (by kernel_rfl)
            have h61 := h.p0 (hd 0 (by kernel_rfl))
            obtain ⟨A6, c6, h67, hown⟩ := h.m6 d6 hn
            have hri : RI w' w'.heap.size A6 (l ++ [(t, s)]) := by
              unfold RI
              rw [List.length_append, List.length_singleton, ← Hnl.out]
              exact RD.of_own hown
            unfold opOK
            go_simp
            exact (next_is s A6 (nl + 1) c6 (l ++ [(t, s)]) t' s' k' w' hri (by rw [Hnl.out]; simp) (by have := Hnl.out; omega) Hok2.out Hnx2.out).mono fun e w3 ⟨he, hb3⟩ => ⟨_, he, hR _ _ (si_step7 (h.keep hb3) d6)⟩
          · intro done ρ w' hn hf hd h
            have q := h.p7 (hd 7 (by kernel_rfl))
            clear hf
            refine .inl ⟨rfl, opOK_step fun R hR => ?_⟩
            have d7 := hd 7 (by kernel_rfl)
            unfold opOK
            go_simp
            exact hR _ _ (si_step8 h d7)
          · intro done ρ w' hn hf hd h
            have q := h.p8 (hd 8 (by kernel_rfl))
            clear hf
            refine .inl ⟨rfl, opOK_step fun R hR => ?_⟩
            have d8 := hd 8 (by kernel_rfl)
            unfold opOK
            go_simp
            exact hR _ _ (si_step9 h d8)
          · intro done ρ w' hn hf hd h
            have q := h.p8 (hd 8 (by kernel_rfl))
            clear hf
            refine .inl ⟨rfl, opOK_step fun R hR => ?_⟩
            unfold opOK
            go_simp
            exact hR _ _ (si_step10 h)
          · intro done ρ w' hn hf hd h
            clear hf
            refine .inl ⟨rfl, opOK_step fun R hR => ?_⟩
            unfold opOK
            go_simp
            refine hR _ _ (si_step11 (h.keep (boxed _ _)) w'.heap.size h.b.size ⟨_, _, heap_alloc_new _ _⟩ (fun a b e => ?_) hn)
            obtain ⟨A2, c2, h64, hown⟩ := h.m3 a b
            rw [h64] at e
            have := (hown.lt _ e).2
            omega
          · intro done ρ w' hn hf hd h
            clear hf
            refine .inl ⟨rfl, opOK_step fun R hR => ?_⟩
            have d9 := hd 9 (by kernel_rfl)
            have d11 := hd 11 (by kernel_rfl)
            obtain ⟨g5, h10, hg5, ⟨x, y, hc⟩, -⟩ := h.mB d11 hn
            have h69 := h.p9 d9
            have y0 : w'.cell? ⟨g5, 0, none⟩ = some x := by rw [cell_of_row _ _ _ _ _ _ hc]; rfl
            have y1 : w'.cell? ⟨g5, 1, none⟩ = some y := by rw [cell_of_row _ _ _ _ _ _ hc]; rfl
            have f0 := frozen_of_row w' g5 0 _ _ hc
            have f1 := frozen_of_row w' g5 1 _ _ hc
            unfold opOK
            go_simp
            exact hR _ _ (si_step12 h g5 h10 hg5 x y hc d9 d11 _)
          · intro done ρ w' hn hf hd h
            have q := h.p10 (hd 10 (by kernel_rfl))
            clear hf
            refine .inl ⟨rfl, opOK_step fun R hR => ?_⟩
            unfold opOK
            go_simp
            exact hR _ _ (si_step13 h)
        · intro a' w9 hdf hsz hf h
          obtain ⟨gb, h10, hgb, hcb⟩ := h.mS (by kernel_rfl)
          have h11 := h.p13 (by kernel_rfl)
          have h0 : slotsOf a' 0 = .int .u8 s := hf 0 (by kernel_rfl)
          have h6 : slotsOf a' 6 = .pointer (some ⟨g, 0, none⟩) := hf 6 (by kernel_rfl)
          have h8 : slotsOf a' 8 = .bool true := hf 8 (by kernel_rfl)
          have hb9 := h.b
          have hb09 := fresh hbr hb9
          have y0 := keep_cell hb9 hsr k0
          have y1 := keep_cell hb9 hsr k1
          have hs9 := Nat.lt_of_lt_of_le hsr hb9.size
          have x0 : w9.cell? ⟨gb, 0, none⟩ = some (.int .u32 t') := by rw [cell_of_row _ _ _ _ _ _ hcb]; rfl
          have x1 : w9.cell? ⟨gb, 1, none⟩ = some (.int .u8 s') := by rw [cell_of_row _ _ _ _ _ _ hcb]; rfl
          have hsb := (Array.getElem?_eq_some_iff.1 hcb).1
          obtain ⟨T, D⟩ := a'
          have hD : D = [] := hdf
          subst hD
          obtain ⟨f, hT, hff⟩ : ∃ f : Nat → Value, T = ((List.range 105).map f).toArray ∧ slotsOf ⟨T, []⟩ = f := ⟨_, arr_fn T 105 hsz, rfl⟩
          rw [hff] at h0 h6 h8 h10 h11
          clear hff hsz hf h hdf hb9
          have hT' : T = #[f 0, f 1, f 2, f 3, f 4, f 5, f 6, f 7, f 8, f 9, f 10, f 11, f 12, f 13, f 14, f 15, f 16, f 17, f 18, f 19, f 20, f 21, f 22, f 23, f 24, f 25, f 26, f 27, f 28, f 29, f 30, f 31, f 32, f 33, f 34, f 35, f 36, f 37, f 38, f 39, f 40, f 41, f 42, f 43, f 44, f 45, f 46, f 47, f 48, f 49, f 50, f 51, f 52, f 53, f 54, f 55, f 56, f 57, f 58, f 59, f 60, f 61, f 62, f 63, f 64, f 65, f 66, f 67, f 68, f 69, f 70, f 71, f 72, f 73, f 74, f 75, f 76, f 77, f 78, f 79, f 80, f 81, f 82, f 83, f 84, f 85, f 86, f 87, f 88, f 89, f 90, f 91, f 92, f 93, f 94, f 95, f 96, f 97, f 98, f 99, f 100, f 101, f 102, f 103, f 104] := hT.trans (by kernel_rfl)
          clear hT
          subst hT'
          rw [h0, h6, h8, h10, h11]
          clear h0 h6 h8 h10 h11 k0 k1 hcb hgb
          have C18 := hide (fun W => scheck_yes t s W ⟨t1, t2, by omega⟩)
          have hag' := hag.out
          rw [Hnx2.out] at hag'
          have hways : (t = 1073741824 ∧ k' = 50) ∨ (¬ t = 1073741824 ∧ t' = t + 1 ∧ s' = s ∧ k' = 0) := by
            by_cases h : t = 1073741824
            · rw [if_pos h] at hag'
              simp only [Prod.mk.injEq] at hag'
              exact .inl ⟨h, hag'.2⟩
            · rw [if_neg h] at hag'
              simp only [Prod.mk.injEq] at hag'
              exact .inr ⟨h, hag'.1.1, hag'.1.2, hag'.2⟩
          clear hag' Hnx2 hag
          rcases hways with ⟨ht9, rfl⟩ | ⟨ht9, rfl, rfl, rfl⟩
          · subst ht9
            go_wp2_with fail
            refine wp_region_wq (by kernel_rfl) (by kernel_rfl) ?_
            repeat (
              refine WQ.step (fun K hK => ?_)
              go_simp
              first
                | (refine hK _ ?_; clear hK K)
                | (apply Exists.intro
                   refine ⟨fun _ => ?_, hK _ ?_⟩
                   first
                     | (go_at_call 18; with_reducible exact past_call (unhide C18 _))
                     | (go_at_call 16; exact past_call (by_ok _ _ _))
                   clear hK K))
            refine WQ.nil ?_
            intro u
            go_wp2_with fail
            go_ret
            exact ⟨rfl, fresh hb09 (below_past _ u)⟩
          · have zt : IntKind.u32.wrap (t + 1) = t + 1 := by simp [IntKind.wrap, IntKind.bits, IntKind.signed]; omega
            go_wp2_with fail
            refine wp_region_wq (by kernel_rfl) (by kernel_rfl) ?_
            repeat (
              refine WQ.step (fun K hK => ?_)
              go_simp
              first
                | (refine hK _ ?_; clear hK K)
                | (apply Exists.intro
                   refine ⟨fun _ => ?_, hK _ ?_⟩
                   first
                     | (go_at_call 18; with_reducible exact past_call (unhide C18 _))
                     | (go_at_call 16; exact past_call (by_ok _ _ _))
                   clear hK K))
            refine WQ.nil ?_
            intro u
            go_wp2_with fail
            go_ret
            exact ⟨rfl, fresh hb09 (below_past _ u)⟩
  · have hkk : k ≠ 0 := hk
    obtain ⟨rfl, rfl⟩ := nextI_err hnx hkk
    have hkb : (k == 0) = false := beq_false_of_ne hk
    have hkn : (k != 0) = true := by simpa using hk
    clear hnx hk hkk
    go_enter Try.func7, Try.ntmps7
    go_wp2_with fail
    refine (salive_ok _).mono ?_
    rintro e w1 ⟨rfl, hb1⟩
    have hr1 : RI w1 w1.heap.size A l := (RD.below hr hb1).more hb1.size
    go_wp2_with fail
    refine (next_is r A l.length c l 0 0 k w1 hr1 rfl (by omega) Hok.out Hnx.out).mono ?_
    rintro e w2 ⟨rfl, hb2⟩
    have hbw2 := fresh hb1 hb2
    clear hb1 hb2
    go_wp2_with fail
    go_ret
    exact ⟨rfl, fresh hbw2 (boxed _ _)⟩
end Go.Proofs.Ytllmlnbgfikeaaa
