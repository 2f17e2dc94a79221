/-
  Texts of this claim, put together: MailMay, MailShelf. What each theorem asks stands in its statement.
-/
import Derived.Test.YtmkpfdcnikgokaaMc23
set_option linter.unusedVariables false
set_option linter.unusedSimpArgs false
namespace Go.Proofs.Ytmkpfdcnikgokaa
open Go.RowKit
/-- May a stamp be a section's? -/
def secI (t r : Int) : Prop := (t = 0 ∧ r = 0) ∨ mayI t r
instance (t r : Int) : Decidable (secI t r) := by unfold secI; infer_instance
/-- May an entry be? -/
def oneP (e : EnP) : Prop := secI e.1.1 e.1.2 ∧ (if e.2.1.2 = true then e.2.1.1 = false ∧ mayT e.2.2.1 ∧ cntT e.2.2.1 ≤ 1024 ∧ (e.2.2.2.length : Int) = (cntT e.2.2.1 + 7) / 8 else e.2.2.1.length = 0 ∧ e.2.2.2.length = 0)
instance (e : EnP) : Decidable (oneP e) := by unfold oneP; infer_instance
/-- May a clock be mail's? -/
def idsP (P : List PT) : Prop := mayT P ∧ cntT P ≤ 1024
instance (P : List PT) : Decidable (idsP P) := by unfold idsP; infer_instance
set_option maxHeartbeats 800000 in
set_option maxRecDepth 100000 in
theorem section_any (t r : Int) (w : World) :
    Calls Try.prog 68 #[.agg #[.int .u32 t, .int .u8 r]] w fun e w' => e = .returned (.bool (decide (secI t r))) ∧ Below w.heap.size w w' := by
  obtain ⟨w1, hw1, F1, hs1, hb1⟩ := two_pb w (.int .u32 t) (.int .u8 r) 36
  obtain ⟨a0, a1⟩ := F1.cells
  by_cases hz : t = 0 ∧ r = 0
  · have hE := hide (show decide (secI t r) = true from decide_eq_true (.inl hz))
    rw [hE.out]
    obtain ⟨rfl, rfl⟩ := hz
    clear hE F1
    go_enter Try.func68, Try.ntmps68
    go_wp2_with fail
    go_ret
    exact ⟨rfl, hb1⟩
  · have hE : decide (secI t r) = decide (mayI t r) := by
      simp only [secI, hz, false_or]
    rw [hE]
    have P := hide (scheck_any t r w1)
    have hcs : (¬ t = 0) ∨ (t = 0 ∧ ¬ r = 0) := by
      by_cases h0 : t = 0
      · exact .inr ⟨h0, fun h => hz ⟨h0, h⟩⟩
      · exact .inl h0
    clear hz hE F1
    by_cases hm : mayI t r
    · rw [show chkI t r = 0 from if_pos hm] at P
      rw [show decide (mayI t r) = true from decide_eq_true hm]
      clear hm
      rcases hcs with h | ⟨rfl, h⟩
      all_goals
        go_enter Try.func68, Try.ntmps68
        go_wp2_with fail
        refine P.out.mono ?_
        rintro e w2 ⟨rfl, hb2⟩
        clear a0 a1
        go_wp2_with fail
        go_ret
        exact ⟨rfl, fresh hb1 hb2⟩
    · rw [show chkI t r = 8 from if_neg hm] at P
      rw [show decide (mayI t r) = false from decide_eq_false hm]
      clear hm
      rcases hcs with h | ⟨rfl, h⟩
      all_goals
        go_enter Try.func68, Try.ntmps68
        go_wp2_with fail
        refine P.out.mono ?_
        rintro e w2 ⟨rfl, hb2⟩
        clear a0 a1
        go_wp2_with fail
        go_ret
        exact ⟨rfl, fresh hb1 hb2⟩
set_option maxHeartbeats 800000 in
set_option maxRecDepth 100000 in
theorem ids_any (A : Option Addr) (n c : Nat) (L : List TmL) (w : World) (hr : RT w w.heap.size A L) (hn : L.length = n) (hok : ∀ x ∈ L, okT x) (hn9 : n < 1073741824) :
    Calls Try.prog 66 #[.slice A n c] w fun e w' => e = .returned (.bool (decide (idsP (L.map TmL.pt)))) ∧ Below w.heap.size w w' := by
  have P := hide (tmcheck_any A n c L w hr hn hok hn9)
  have Q := hide (fun W (h : Below w.heap.size w W) => tmcount_any A n c L W ((hr.below h).more h.size) hn hok hn9)
  by_cases hm : mayT (L.map TmL.pt)
  · rw [show chkT (L.map TmL.pt) = 0 from if_pos hm] at P
    have hE := hide (show decide (idsP (L.map TmL.pt)) = decide (cntT (L.map TmL.pt) ≤ 1024) by simp only [idsP, hm, true_and])
    rw [hE.out]
    obtain ⟨k, hk⟩ : ∃ q, q = cntT (L.map TmL.pt) := ⟨_, rfl⟩
    rw [← hk] at Q ⊢
    clear hm hE hk hr hn hok
    go_enter Try.func66, Try.ntmps66
    go_wp2_with fail
    refine P.out.mono ?_
    rintro e w2 ⟨rfl, hb2⟩
    go_wp2_with fail
    refine (Q.out w2 hb2).mono ?_
    rintro e w3 ⟨rfl, hb3⟩
    go_wp2_with fail
    go_ret
    exact ⟨rfl, fresh hb2 hb3⟩
  · rw [show chkT (L.map TmL.pt) = 8 from if_neg hm] at P
    have hE := hide (show decide (idsP (L.map TmL.pt)) = false from decide_eq_false fun h => hm h.1)
    rw [hE.out]
    clear hm hE hr hn hok
    go_enter Try.func66, Try.ntmps66
    go_wp2_with fail
    refine P.out.mono ?_
    rintro e w2 ⟨rfl, hb2⟩
    go_wp2_with fail
    go_ret
    exact ⟨rfl, hb2⟩
theorem cntT_bound (P : List PT) : 0 ≤ cntT P ∧ cntT P ≤ 9663676425 := by
  unfold cntT
  split
  · rename_i h
    have h1 := chainT_len _ _ (by omega) h
    have h2 := sumT_le P fun y hy => (chainT_all _ _ h y hy).1
    rcases h1 with h1 | rfl
    · omega
    · simp [sumT]
  · omega
set_option maxHeartbeats 3200000 in
set_option maxRecDepth 100000 in
theorem one_any (t r : Int) (rd kn : Bool) (sA gA : Option Addr) (sn sc gn gc : Nat) (s : List TmL) (g : List Bool) (w : World) (hr : RT w w.heap.size sA s) (ho : ∀ y ∈ s, okT y) (hs9 : sn < 1073741824) (hsn : s.length = sn) (hgn : g.length = gn) :
    Calls Try.prog 108 #[Go.Proofs.Ytmkpfdcnikgokaa.env t r rd kn (.slice sA sn sc) (.slice gA gn gc)] w fun e w' => e = .returned (.bool (decide (oneP ((t, r), (rd, kn), (s.map TmL.pt, g))))) ∧ Below w.heap.size w w' := by
  obtain ⟨w1, hw1, F1, hs1, hb1⟩ := entry_box w (.int .u32 t) (.int .u8 r) (.bool rd) (.bool false) (.int .i64 0) (.bool kn) (.slice sA sn sc) (.slice gA gn gc)
  obtain ⟨a0, a1, a2, a3, a4, a5, a6, a7⟩ := F1.cells
  have HF1 := hide F1
  by_cases hsec : secI t r
  rotate_left
  · have hE := hide (show decide (oneP ((t, r), (rd, kn), (s.map TmL.pt, g))) = false from decide_eq_false fun h => hsec h.1)
    rw [hE.out]
    have hz : ¬ (t = 0 ∧ r = 0) := fun h => hsec (.inl h)
    have hm : ¬ mayI t r := fun h => hsec (.inr h)
    have P := hide (scheck_any t r w1)
    rw [show chkI t r = 8 from if_neg hm] at P
    have hcs : (¬ t = 0) ∨ (t = 0 ∧ ¬ r = 0) := by
      by_cases h0 : t = 0
      · exact .inr ⟨h0, fun h => hz ⟨h0, h⟩⟩
      · exact .inl h0
    clear hz hE F1 hm hsec hr ho
    rcases hcs with h | ⟨rfl, h⟩
    all_goals
      go_enter Try.func108, Try.ntmps108
      go_wp2_with fail
      refine P.out.mono ?_
      rintro e w2 ⟨rfl, hb2⟩
      clear a0 a1 a2 a3 a4 a5 a6 a7
      go_wp2_with fail
      go_ret
      exact ⟨rfl, fresh hb1 hb2⟩
  have hcs : (t = 0 ∧ r = 0) ∨ ((¬ t = 0) ∨ (t = 0 ∧ ¬ r = 0)) ∧ mayI t r := by
    by_cases h0 : t = 0
    · by_cases h1 : r = 0
      · exact .inl ⟨h0, h1⟩
      · exact .inr ⟨.inr ⟨h0, h1⟩, hsec.resolve_left fun h => h1 h.2⟩
    · exact .inr ⟨.inl h0, hsec.resolve_left fun h => h0 h.1⟩
  cases kn with
  | false =>
    have hE := hide (show decide (oneP ((t, r), (rd, false), (s.map TmL.pt, g))) = (decide (sn = 0) && decide (gn = 0)) by
      simp only [oneP, hsec, true_and, Bool.false_eq_true, if_false, List.length_map, hsn, hgn, Bool.decide_and])
    rw [hE.out]
    have P := hide (fun h : mayI t r => by
      have := scheck_any t r w1
      rwa [show chkI t r = 0 from if_pos h] at this)
    clear hE hsec F1 hr ho
    by_cases h1 : sn = 0
    · subst h1
      by_cases h2 : gn = 0
      · subst h2
        rcases hcs with ⟨rfl, rfl⟩ | ⟨h | ⟨rfl, h⟩, hm⟩
        · clear P
          go_enter Try.func108, Try.ntmps108
          go_wp2_with fail
          go_ret
          exact ⟨rfl, hb1⟩
        all_goals
          have P2 := hide (P.out hm)
          clear hm P
          go_enter Try.func108, Try.ntmps108
          go_wp2_with fail
          refine P2.out.mono ?_
          rintro e w2 ⟨rfl, hb2⟩
          clear a0 a1 a2 a3 a4 a5 a6 a7
          obtain ⟨a0, a1, a2, a3, a4, a5, a6, a7⟩ := (HF1.out.below hb2).cells
          go_wp2_with fail
          go_ret
          exact ⟨rfl, fresh hb1 hb2⟩
      · have z : ¬ (gn : Int) = 0 := by omega
        have zb : ((gn : Int) == 0) = false := beq_eq_false_iff_ne.2 z
        rw [decide_eq_false h2]
        rcases hcs with ⟨rfl, rfl⟩ | ⟨h | ⟨rfl, h⟩, hm⟩
        · clear P
          go_enter Try.func108, Try.ntmps108
          go_wp2_with fail
          go_ret
          exact ⟨rfl, hb1⟩
        all_goals
          have P2 := hide (P.out hm)
          clear hm P
          go_enter Try.func108, Try.ntmps108
          go_wp2_with fail
          refine P2.out.mono ?_
          rintro e w2 ⟨rfl, hb2⟩
          clear a0 a1 a2 a3 a4 a5 a6 a7
          obtain ⟨a0, a1, a2, a3, a4, a5, a6, a7⟩ := (HF1.out.below hb2).cells
          go_wp2_with fail
          go_ret
          exact ⟨rfl, fresh hb1 hb2⟩
    · have z : ¬ (sn : Int) = 0 := by omega
      have zb : ((sn : Int) == 0) = false := beq_eq_false_iff_ne.2 z
      rw [decide_eq_false h1]
      rcases hcs with ⟨rfl, rfl⟩ | ⟨h | ⟨rfl, h⟩, hm⟩
      · clear P
        go_enter Try.func108, Try.ntmps108
        go_wp2_with fail
        go_ret
        exact ⟨rfl, hb1⟩
      all_goals
        have P2 := hide (P.out hm)
        clear hm P
        go_enter Try.func108, Try.ntmps108
        go_wp2_with fail
        refine P2.out.mono ?_
        rintro e w2 ⟨rfl, hb2⟩
        clear a0 a1 a2 a3 a4 a5 a6 a7
        obtain ⟨a0, a1, a2, a3, a4, a5, a6, a7⟩ := (HF1.out.below hb2).cells
        go_wp2_with fail
        go_ret
        exact ⟨rfl, fresh hb1 hb2⟩
  | true =>
    have P := hide (fun h : mayI t r => by
      have := scheck_any t r w1
      rwa [show chkI t r = 0 from if_pos h] at this)
    have Q := hide (fun W (h : Below w1.heap.size w1 W) => tmcount_any sA sn sc s W ((hr.below (fresh hb1 h)).more (fresh hb1 h).size) hsn ho hs9)
    have R := hide (fun W (h : Below w1.heap.size w1 W) => tmcheck_any sA sn sc s W ((hr.below (fresh hb1 h)).more (fresh hb1 h).size) hsn ho hs9)
    obtain ⟨k0, k9⟩ := cntT_bound (s.map TmL.pt)
    obtain ⟨DM, hDM⟩ : ∃ q, q = decide (mayT (s.map TmL.pt)) := ⟨_, rfl⟩
    have hchk : chkT (s.map TmL.pt) = if DM = true then 0 else 8 := by
      unfold chkT
      rw [hDM]
      by_cases h : mayT (s.map TmL.pt) <;> simp [h]
    have hE := hide (show decide (oneP ((t, r), (rd, true), (s.map TmL.pt, g))) = (!rd && DM && decide (cntT (s.map TmL.pt) ≤ 1024) && decide ((gn : Int) = (cntT (s.map TmL.pt) + 7) / 8)) by
      simp only [oneP, hsec, true_and, if_true, hgn, Bool.decide_and, hDM]
      cases rd <;> simp [Bool.and_assoc])
    rw [hE.out]
    rw [hchk] at R
    obtain ⟨k, hk⟩ : ∃ q, q = cntT (s.map TmL.pt) := ⟨_, rfl⟩
    rw [← hk] at Q k0 k9 ⊢
    have q1 : IntKind.i64.wrap (k + 8) = k + 8 := IntWalk.i64_in _ (by omega)
    have q2 : IntKind.i64.wrap (k + 8 - 1) = k + 8 - 1 := IntWalk.i64_in _ (by omega)
    clear hE hsec F1 hr ho hk hDM hchk
    rcases hcs with ⟨rfl, rfl⟩ | ⟨h | ⟨rfl, h⟩, hm⟩
    rotate_left
    all_goals
      try have P2 := hide (P.out hm)
      try clear hm
      go_enter Try.func108, Try.ntmps108
      go_wp2_with fail
      first
        | (refine P2.out.mono ?_
           rintro e w2 ⟨rfl, hb2⟩
           clear a0 a1 a2 a3 a4 a5 a6 a7
           obtain ⟨a0, a1, a2, a3, a4, a5, a6, a7⟩ := (HF1.out.below hb2).cells
           go_wp2_with fail)
        | (have hb2 : Below w1.heap.size w1 w1 := Below.refl _ _)
      refine (Q.out _ hb2).mono ?_
      rintro e w3 ⟨rfl, hb3⟩
      have hb03 := fresh hb2 hb3
      clear a0 a1 a2 a3 a4 a5 a6 a7
      obtain ⟨a0, a1, a2, a3, a4, a5, a6, a7⟩ := (HF1.out.below hb03).cells
      cases rd with
      | true =>
        go_wp2_with fail
        go_ret
        exact ⟨rfl, fresh hb1 hb03⟩
      | false =>
        go_wp2_with fail
        refine (R.out w3 hb03).mono ?_
        rintro e w4 ⟨rfl, hb4⟩
        have hb04 := fresh hb03 hb4
        clear a0 a1 a2 a3 a4 a5 a6 a7
        obtain ⟨a0, a1, a2, a3, a4, a5, a6, a7⟩ := (HF1.out.below hb04).cells
        cases DM with
        | false =>
          go_wp2_with fail
          go_ret
          exact ⟨rfl, fresh hb1 hb04⟩
        | true =>
          by_cases hk9 : k ≤ 1024
          · have HV := hide (show decide (k ≤ 1024) = true ∧ ((gn : Int) == (k + 8 - 1) / 8) = decide ((gn : Int) = (k + 7) / 8) from ⟨decide_eq_true hk9, by
              rw [show k + 8 - 1 = k + 7 by omega]
              rfl⟩)
            go_wp2_with fail
            go_ret
            exact ⟨by rw [HV.out.1, ← HV.out.2]; rfl, fresh hb1 hb04⟩
          · have hdec := hide (decide_eq_false hk9)
            go_wp2_with fail
            go_ret
            exact ⟨by rw [hdec.out]; rfl, fresh hb1 hb04⟩
end Go.Proofs.Ytmkpfdcnikgokaa
namespace Go.Proofs.Ytmkpfdcnikgokaa
open Go.RowKit
/-- May entries be, behind one? -/
def chainE : Option (Int × Int) → List EnP → Prop
  | _, [] => True
  | none, x :: l => oneP x ∧ chainE (some x.1) l
  | some p, x :: l => oneP x ∧ lessB p.1 p.2 x.1.1 x.1.2 = true ∧ chainE (some x.1) l
instance decChainE : ∀ (p : Option (Int × Int)) (l : List EnP), Decidable (chainE p l)
  | p, [] => by unfold chainE; infer_instance
  | none, x :: l => by
    have := decChainE (some x.1) l
    unfold chainE
    infer_instance
  | some p, x :: l => by
    have := decChainE (some x.1) l
    unfold chainE
    infer_instance
def mayE (E : List EnP) : Prop := E.length ≤ 65 ∧ chainE none E
instance (E : List EnP) : Decidable (mayE E) := by unfold mayE; infer_instance
def chkE (E : List EnP) : Int := if mayE E then 0 else 8
set_option maxHeartbeats 6400000 in
set_option maxRecDepth 100000 in
theorem encheck_any (A : Option Addr) (n c : Nat) (L : List WsL) (w : World) (hr : RE w w.heap.size A L) (hn : L.length = n) (hok : ∀ x ∈ L, okW x) :
    Calls Try.prog 89 #[.slice A n c] w fun e w' => e = .returned (.int .i64 (chkE (L.map WsL.en))) ∧ Below w.heap.size w w' := by
  by_cases hbig : (65 : Int) < n
  · have HC := hide (show chkE (L.map WsL.en) = 8 from if_neg (fun h => by have := h.1; rw [List.length_map] at this; omega))
    clear hr hn hok
    go_enter Try.func89, Try.ntmps89
    go_wp2_with fail
    go_ret
    exact ⟨by rw [HC.out]; rfl, Below.refl _ _⟩
  have HM := hide (show mayE (L.map WsL.en) ↔ chainE none (L.map WsL.en) from ⟨fun h => h.2, fun h => ⟨by rw [List.length_map]; omega, h⟩⟩)
  have Hok := hide hok
  have Hn := hide hn
  have HR := hide hr
  clear hr hn hok
  go_enter Try.func89, Try.ntmps89
  go_wp2_with fail
  go_loopw [10] (fun i wr => ∃ (j : Nat) (p : Option (Int × Int)), j ≤ n ∧ i = .int .i64 (j : Int) ∧ Hid (p = if j = 0 then none else (L[j - 1]?).map fun x => (x.t, x.r)) ∧ Hid (chainE none (L.map WsL.en) ↔ chainE p ((L.drop j).map WsL.en)) ∧ Below w.heap.size w wr) (fun i _ => n - (intOf i).toNat)
  case atStart => exact ⟨0, none, by omega, rfl, hide rfl, hide Iff.rfl, Below.refl _ _⟩
  case round =>
    obtain ⟨j, p, hj, rfl, Hp, HC, hb⟩ := hrel
    by_cases hlt : j < n
    · have hltL : j < L.length := by rw [Hn.out]; exact hlt
      have z0 : (j : Int) < n := by omega
      have zj : (0 : Int) ≤ j := by omega
      obtain ⟨bb, bo, rfl, hB, hCc⟩ := RE.cell (HR.out.below hb) (by omega)
      obtain ⟨d0, d1, d2, d3, d4, d5, d6, d7⟩ := hCc j hltL
      obtain ⟨x, hx⟩ : ∃ x, L[j] = x := ⟨_, rfl⟩
      rw [hx] at d0 d1 d2 d5 d6 d7
      have hxm : x ∈ L := by rw [← hx]; exact List.getElem_mem hltL
      have hox := Hok.out x hxm
      have hdr : (L.drop j).map WsL.en = x.en :: (L.drop (j + 1)).map WsL.en := by rw [List.drop_eq_getElem_cons hltL, hx]; rfl
      have HC1 := HC
      rw [hdr] at HC1
      obtain ⟨w1, hw1, F1, hs1, hb1⟩ := entry_box wr (.int .u32 x.t) (.int .u8 x.r) (.bool x.rd) (.bool false) (.int .i64 0) (.bool x.kn) (.slice x.sA x.s.length x.sc) (.slice x.gA x.g.length x.gc)
      obtain ⟨a0, a1, a2, a3, a4, a5, a6, a7⟩ := F1.cells
      have hb01 := fresh hb hb1
      obtain ⟨o, ho⟩ : ∃ q, decide (oneP x.en) = q := ⟨_, rfl⟩
      have P := hide (fun u => by
        have h1 := (((HR.out.below hb01).more hb01.size).2 x hxm)
        have h2 := one_any x.t x.r x.rd x.kn x.sA x.gA x.s.length x.sc x.g.length x.gc x.s x.g (past w1 u) ((h1.1.below (below_past w1 u)).more (below_past w1 u).size) hox.2.2.2.2.2.1 hox.2.2.2.2.2.2.2.1 rfl rfl
        rw [show decide (oneP ((x.t, x.r), (x.rd, x.kn), (x.s.map TmL.pt, x.g))) = o from ho] at h2
        exact h2)
      have Hpx := hide (And.intro hx (And.intro hdr hox))
      cases o with
      | false =>
        have HE := hide (show chkE (L.map WsL.en) = 8 from if_neg (fun h => by
          have h1 := HC1.out.1 (HM.out.1 h)
          cases p with
          | none => exact (decide_eq_false_iff_not.1 ho) h1.1
          | some p => exact (decide_eq_false_iff_not.1 ho) h1.1))
        clear hCc hx hxm hox hdr HC HC1 F1 ho Hpx Hp
        go_wp2_with fail
        refine wp_region_wq (by kernel_rfl) (by kernel_rfl) ?_
        repeat (
          refine WQ.step (fun K hK => ?_)
          go_simp
          first
            | (refine hK _ ?_; clear hK K)
            | (apply Exists.intro
               refine ⟨fun _ => ?_, hK _ ?_⟩
               (go_at_call 108; with_reducible exact past_call (unhide P _))
               clear hK K))
        refine WQ.nil ?_
        intro u
        go_wp2_with fail
        go_ret
        exact ⟨by rw [HE.out]; rfl, fresh hb01 (below_past w1 u)⟩
      | true =>
        have hone : oneP x.en := decide_eq_true_iff.1 ho
        rcases Nat.eq_zero_or_pos j with hj0 | hj0
        · have zg : decide (0 < j) = false := decide_eq_false (by omega)
          have Hp0 : p = none := by rw [Hp.out, if_pos hj0]
          subst Hp0
          have Hnext := hide (show some (x.t, x.r) = if j + 1 = 0 then none else (L[j + 1 - 1]?).map fun x => (x.t, x.r) by rw [if_neg (Nat.succ_ne_zero j), Nat.add_sub_cancel, List.getElem?_eq_getElem hltL, hx]; rfl)
          have HCn := hide (HC1.out.trans (show chainE none (x.en :: (L.drop (j + 1)).map WsL.en) ↔ chainE (some (x.t, x.r)) ((L.drop (j + 1)).map WsL.en) from ⟨fun h => h.2, fun h => ⟨hone, h⟩⟩))
          clear hCc hx hxm hox hdr HC HC1 F1 ho Hpx Hp hone hj0
          go_wp2_with fail
          refine wp_region_wq (by kernel_rfl) (by kernel_rfl) ?_
          repeat (
            refine WQ.step (fun K hK => ?_)
            go_simp
            first
              | (refine hK _ ?_; clear hK K)
              | (apply Exists.intro
                 refine ⟨fun _ => ?_, hK _ ?_⟩
                 (go_at_call 108; with_reducible exact past_call (unhide P _))
                 clear hK K))
          refine WQ.nil ?_
          intro u
          go_wp2_with fail
          go_roundw
          case rel => exact ⟨j + 1, some (x.t, x.r), by omega, by go_num, Hnext, HCn, fresh hb01 (below_past w1 u)⟩
          case measure => simp [intOf]; omega
        · have zg : decide (0 < j) = true := decide_eq_true (by omega)
          have zs : (j : Int) - 1 = ((j - 1 : Nat) : Int) := by omega
          have zk : ((j - 1 : Nat) : Int) < n := by omega
          have zk0 : (0 : Int) ≤ ((j - 1 : Nat) : Int) := by omega
          obtain ⟨k, hk⟩ : ∃ k, j - 1 = k := ⟨_, rfl⟩
          rw [hk] at zs zk zk0
          have zw : IntKind.i64.wrap (k : Int) = k := IntWalk.i64_in _ (by omega)
          have hkL : k < L.length := by omega
          obtain ⟨e0, e1, -, -, -, -, -, -⟩ := hCc k hkL
          obtain ⟨y, hy⟩ : ∃ y, L[k] = y := ⟨_, rfl⟩
          rw [hy] at e0 e1
          have hoy := Hok.out y (by rw [← hy]; exact List.getElem_mem hkL)
          have hbw : bb < wr.heap.size := Nat.lt_of_lt_of_le hB hb.size
          have f0 := keep_cell hb1 hbw e0
          have f1 := keep_cell hb1 hbw e1
          have hbw1 : bb < w1.heap.size := Nat.lt_of_lt_of_le hbw hb1.size
          have Hp1 : p = some (y.t, y.r) := by rw [Hp.out, if_neg (by omega), hk, List.getElem?_eq_getElem hkL, hy]; rfl
          subst Hp1
          have Q := hide (fun u => less_any y.t y.r x.t x.r (past w1 u) hoy.1 hoy.2.1 hoy.2.2.1 (by have := hoy.2.2.2.1; omega) hox.1 hox.2.1 hox.2.2.1 (by have := hox.2.2.2.1; omega))
          cases hle : lessB y.t y.r x.t x.r with
          | false =>
            rw [hle] at Q
            have HE := hide (show chkE (L.map WsL.en) = 8 from if_neg (fun h => by
              have h1 := HC1.out.1 (HM.out.1 h)
              have h2 : lessB y.t y.r x.t x.r = true := h1.2.1
              rw [hle] at h2
              cases h2))
            clear hCc hx hxm hox hdr HC HC1 ho Hpx Hp hone hj0 hk hy hoy hle e0 e1 F1
            go_wp2_with fail
            refine wp_region_wq (by kernel_rfl) (by kernel_rfl) ?_
            repeat (
              refine WQ.step (fun K hK => ?_)
              go_simp
              first
                | (refine hK _ ?_; clear hK K)
                | (apply Exists.intro
                   refine ⟨fun _ => ?_, hK _ ?_⟩
                   (first
                     | (go_at_call 108; with_reducible exact past_call (unhide P _))
                     | (go_at_call 109; with_reducible exact past_call (unhide Q _)))
                   clear hK K))
            refine WQ.nil ?_
            intro u
            go_wp2_with fail
            go_ret
            exact ⟨by rw [HE.out]; rfl, fresh hb01 (below_past w1 u)⟩
          | true =>
            rw [hle] at Q
            have Hnext := hide (show some (x.t, x.r) = if j + 1 = 0 then none else (L[j + 1 - 1]?).map fun x => (x.t, x.r) by rw [if_neg (Nat.succ_ne_zero j), Nat.add_sub_cancel, List.getElem?_eq_getElem hltL, hx]; rfl)
            have HCn := hide (HC1.out.trans (show chainE (some (y.t, y.r)) (x.en :: (L.drop (j + 1)).map WsL.en) ↔ chainE (some (x.t, x.r)) ((L.drop (j + 1)).map WsL.en) from ⟨fun h => h.2.2, fun h => ⟨hone, hle, h⟩⟩))
            clear hCc hx hxm hox hdr HC HC1 ho Hpx Hp hone hj0 hk hy hoy hle e0 e1 F1
            go_wp2_with fail
            refine wp_region_wq (by kernel_rfl) (by kernel_rfl) ?_
            repeat (
              refine WQ.step (fun K hK => ?_)
              go_simp
              first
                | (refine hK _ ?_; clear hK K)
                | (apply Exists.intro
                   refine ⟨fun _ => ?_, hK _ ?_⟩
                   (first
                     | (go_at_call 108; with_reducible exact past_call (unhide P _))
                     | (go_at_call 109; with_reducible exact past_call (unhide Q _)))
                   clear hK K))
            refine WQ.nil ?_
            intro u
            go_wp2_with fail
            go_roundw
            case rel => exact ⟨j + 1, some (x.t, x.r), by omega, by go_num, Hnext, HCn, fresh hb01 (below_past w1 u)⟩
            case measure => simp [intOf]; omega
    · have z0 : ¬ (j : Int) < n := by omega
      have HE := hide (show chkE (L.map WsL.en) = 0 from if_pos (HM.out.2 (HC.out.2 (by
        rw [List.drop_eq_nil_of_le (by rw [Hn.out]; omega)]
        cases p <;> trivial))))
      go_wp2_with fail
      go_ret
      exact ⟨by rw [HE.out]; rfl, hb⟩
end Go.Proofs.Ytmkpfdcnikgokaa
