/-
  Texts of this claim, put together: MailSome. What each theorem asks stands in its statement.
-/
import Derived.Test.YtmkpfdcnikgokaaMc24
set_option linter.unusedVariables false
set_option linter.unusedSimpArgs false
namespace Go.Proofs.Ytmkpfdcnikgokaa
open Go.RowKit
/-- May operations be mail's? -/
def someP (P : List OpP) (m : Int) : Prop := 1 ≤ (P.length : Int) ∧ (P.length : Int) ≤ m ∧ ∀ o ∈ P, mayP o
instance decMayP (o : OpP) : Decidable (mayP o) := by unfold mayP; infer_instance
instance decSomeP (P : List OpP) (m : Int) : Decidable (someP P m) := by
  have : Decidable (∀ o ∈ P, mayP o) := List.decidableBAll mayP P
  unfold someP
  infer_instance
set_option maxHeartbeats 800000 in
set_option maxRecDepth 100000 in
theorem some1 (k t r z : Int) (A : Option Addr) (n c : Nat) (p : List Rn) (w : World) (hr : RR w w.heap.size A p) (hn : p.length = n) (hl : n < 1073741824) (hok : ∀ x ∈ p, okR x) (k0 : 0 ≤ k) :
    Calls Try.prog 85 #[opv k t r A n c z] w fun e w' => e = .returned (.bool (decide (¬ mayO k t r p z))) ∧ Below w.heap.size w w' := by
  obtain ⟨w1, hw1, c0, c1, c2, c3, c4, hs1, hb1⟩ := five_box w (.int .u8 k) (.int .u32 t) (.int .u8 r) (.slice A n c) (.int .i64 z) 115
  have P := hide (opcheck_any k t r z A n c p w1 ((RD.below hr hb1).more hb1.size) hn hl hok k0)
  clear hr hok
  by_cases hm : mayO k t r p z
  · rw [show chkO k t r p z = 0 from if_pos hm] at P
    have hE := hide (show decide (¬ mayO k t r p z) = false from decide_eq_false fun h => h hm)
    rw [hE.out]
    clear hm hE
    go_enter Try.func85, Try.ntmps85
    go_wp2_with fail
    refine P.out.mono ?_
    rintro e w2 ⟨rfl, hb2⟩
    clear c0 c1 c2 c3 c4
    go_wp2_with fail
    go_ret
    exact ⟨rfl, fresh hb1 hb2⟩
  · rw [show chkO k t r p z = 8 from if_neg hm] at P
    have hE := hide (show decide (¬ mayO k t r p z) = true from decide_eq_true hm)
    rw [hE.out]
    clear hm hE
    go_enter Try.func85, Try.ntmps85
    go_wp2_with fail
    refine P.out.mono ?_
    rintro e w2 ⟨rfl, hb2⟩
    clear c0 c1 c2 c3 c4
    go_wp2_with fail
    go_ret
    exact ⟨rfl, fresh hb1 hb2⟩
set_option maxHeartbeats 1600000 in
set_option maxRecDepth 100000 in
theorem oindex (A : Option Addr) (n c : Nat) (L : List OpL) (w : World) (hr : RO w w.heap.size A L) (hn : L.length = n) (hl : n < 1073741824) (hok : ∀ x ∈ L, okO x) :
    Calls Try.prog 103 #[.slice A n c, .func (.func 85) #[] #[]] w fun e w' => ∃ m : Int, e = .returned (.int .i64 m) ∧ (m = -1 ∧ (∀ x ∈ L, mayL x) ∨ 0 ≤ m ∧ ¬ ∀ x ∈ L, mayL x) ∧ Below w.heap.size w w' := by
  have HR := hide hr
  have Hn := hide hn
  have Hok := hide hok
  clear hr hn hok
  go_enter Try.func103, Try.ntmps103
  go_wp2_with fail
  go_loopw [8] (fun i wr => ∃ j : Nat, j ≤ n ∧ i = .int .i64 (j : Int) ∧ Hid (∀ x ∈ L.take j, mayL x) ∧ Below w.heap.size w wr) (fun i _ => n - (intOf i).toNat)
  case atStart => exact ⟨0, by omega, rfl, hide (fun x hx => by cases hx), Below.refl _ _⟩
  case round =>
    obtain ⟨j, hj, rfl, HM, hb⟩ := hrel
    by_cases hlt : j < n
    · have hltL : j < L.length := by rw [Hn.out]; exact hlt
      have z0 : (j : Int) < n := by omega
      have zj : (0 : Int) ≤ j := by omega
      have HRr := (HR.out.below hb).more hb.size
      obtain ⟨bb, bo, rfl, hB, hC⟩ := RO.cell HRr (by omega)
      obtain ⟨d0, d1, d2, d3, d4⟩ := hC j hltL
      obtain ⟨x, hx⟩ : ∃ x, L[j] = x := ⟨_, rfl⟩
      rw [hx] at d0 d1 d2 d3 d4
      have hxm : x ∈ L := by rw [← hx]; exact List.getElem_mem hltL
      have Hx := hide hxm
      have Htake := hide (show L.take (j + 1) = L.take j ++ [x] by rw [List.take_succ_eq_append_getElem hltL, hx])
      have hox := Hok.out x hxm
      have hP := hide (some1 x.k x.t x.r x.z x.A x.p.length x.c x.p wr (HRr.2 x hxm) rfl hox.2.2.2 hox.2.2.1 hox.1)
      clear hC hx hxm hox HRr
      by_cases hm : mayO x.k x.t x.r x.p x.z
      rotate_left
      · rw [decide_eq_true hm] at hP
        have Hm := hide hm
        clear hm
        go_wp2_with fail
        refine hP.out.mono ?_
        rintro e w2 ⟨rfl, hb2⟩
        go_wp2_with fail
        go_ret
        exact ⟨(j : Int), rfl, .inr ⟨by omega, fun h => Hm.out (h x Hx.out)⟩, fresh hb hb2⟩
      · rw [decide_eq_false (not_not_intro hm)] at hP
        have Hm := hide hm
        clear hm
        go_wp2_with fail
        refine hP.out.mono ?_
        rintro e w2 ⟨rfl, hb2⟩
        go_wp2_with fail
        go_roundw
        case rel =>
          refine ⟨j + 1, by omega, by go_num, hide fun q hq => ?_, fresh hb hb2⟩
          rw [Htake.out] at hq
          rcases List.mem_append.1 hq with h | h
          · exact HM.out q h
          · simp only [List.mem_singleton] at h
            subst h
            exact Hm.out
        case measure => simp [intOf]; omega
    · have z0 : ¬ (j : Int) < n := by omega
      have Ha := hide (show ∀ x ∈ L, mayL x by have := HM.out; rwa [List.take_of_length_le (by rw [Hn.out]; omega)] at this)
      go_wp2_with fail
      go_ret
      exact ⟨-1, rfl, .inl ⟨rfl, Ha.out⟩, hb⟩
set_option maxHeartbeats 400000 in
set_option maxRecDepth 100000 in
theorem ocontains (A : Option Addr) (n c : Nat) (L : List OpL) (w : World) (hr : RO w w.heap.size A L) (hn : L.length = n) (hl : n < 1073741824) (hok : ∀ x ∈ L, okO x) :
    Calls Try.prog 84 #[.slice A n c, .func (.func 85) #[] #[]] w fun e w' => e = .returned (.bool (decide (¬ ∀ x ∈ L, mayL x))) ∧ Below w.heap.size w w' := by
  have hP := hide (oindex A n c L w hr hn hl hok)
  clear hr hn hok
  go_enter Try.func84, Try.ntmps84
  go_wp2_with fail
  refine hP.out.mono ?_
  rintro e w2 ⟨m, rfl, hm, hb⟩
  rcases hm with ⟨rfl, hm⟩ | ⟨h0, hm⟩
  · have Hd := hide (show decide (¬ ∀ x ∈ L, mayL x) = false from decide_eq_false (fun h => h hm))
    clear hm
    go_wp2_with fail
    go_ret
    exact ⟨by rw [Hd.out]; rfl, hb⟩
  · have Hd := hide (show decide (¬ ∀ x ∈ L, mayL x) = true from decide_eq_true hm)
    clear hm
    go_wp2_with fail
    go_ret
    exact ⟨by rw [Hd.out]; exact ret_bool (by first | (simp; done) | simpa using h0), hb⟩
set_option maxHeartbeats 400000 in
set_option maxRecDepth 100000 in
theorem some_any (A : Option Addr) (n c : Nat) (L : List OpL) (m : Int) (w : World) (hr : RO w w.heap.size A L) (hn : L.length = n) (hl : n < 1073741824) (hok : ∀ x ∈ L, okO x) :
    Calls Try.prog 65 #[.slice A n c, .int .i64 m] w fun e w' => e = .returned (.bool (decide (someP (L.map OpL.op) m))) ∧ Below w.heap.size w w' := by
  have hP := hide (ocontains A n c L w hr hn hl hok)
  have hall : (∀ o ∈ L.map OpL.op, mayP o) ↔ ∀ x ∈ L, mayL x := by
    constructor
    · intro h x hx
      exact h _ (List.mem_map_of_mem hx)
    · intro h o ho
      obtain ⟨x, hx, rfl⟩ := List.mem_map.1 ho
      exact h x hx
  by_cases h1 : (1 : Int) ≤ n
  rotate_left
  · have hE := hide (show decide (someP (L.map OpL.op) m) = false from decide_eq_false fun h => h1 (by have := h.1; rw [List.length_map, hn] at this; exact this))
    rw [hE.out]
    clear hr hn hok hall hP hE
    go_enter Try.func65, Try.ntmps65
    go_wp2_with fail
    go_ret
    exact ⟨rfl, Below.refl _ _⟩
  by_cases h2 : (n : Int) ≤ m
  rotate_left
  · have hE := hide (show decide (someP (L.map OpL.op) m) = false from decide_eq_false fun h => h2 (by have := h.2.1; rw [List.length_map, hn] at this; exact this))
    rw [hE.out]
    clear hr hn hok hall hP hE
    go_enter Try.func65, Try.ntmps65
    go_wp2_with fail
    go_ret
    exact ⟨rfl, Below.refl _ _⟩
  have hE := hide (show decide (someP (L.map OpL.op) m) = !(decide (¬ ∀ x ∈ L, mayL x)) by
    by_cases h : ∀ x ∈ L, mayL x
    · rw [decide_eq_true (show someP (L.map OpL.op) m from ⟨by rw [List.length_map, hn]; exact h1, by rw [List.length_map, hn]; exact h2, hall.2 h⟩), decide_eq_false (not_not_intro h)]; rfl
    · rw [decide_eq_false (fun h' : someP (L.map OpL.op) m => h (hall.1 h'.2.2)), decide_eq_true h]; rfl)
  rw [hE.out]
  obtain ⟨q, hq⟩ : ∃ q, q = decide (¬ ∀ x ∈ L, mayL x) := ⟨_, rfl⟩
  rw [← hq] at hP ⊢
  clear hr hn hok hall hE hq
  go_enter Try.func65, Try.ntmps65
  go_wp2_with fail
  refine hP.out.mono ?_
  rintro e w2 ⟨rfl, hb⟩
  go_wp2_with fail
  go_ret
  exact ⟨rfl, hb⟩
def WP.en (x : WP) : EnP := ((x.t, x.r), (x.rd, x.kn), (x.S, x.G))
/-- May wishes be? -/
def wantsP (E : List WP) : Prop := mayE (E.map WP.en) ∧ ∀ x ∈ E, idsP x.H
instance decWantsP (E : List WP) : Decidable (wantsP E) := by
  have : Decidable (∀ x ∈ E, idsP x.H) := List.decidableBAll (fun x : WP => idsP x.H) E
  unfold wantsP
  infer_instance
abbrev hpL (x : WsL) : Prop := idsP (x.h.map TmL.pt)
set_option maxHeartbeats 800000 in
set_option maxRecDepth 100000 in
theorem wants1 (t r : Int) (rd kn : Bool) (hA : Option Addr) (hn hc : Nat) (h : List TmL) (sv gv : Value) (w : World) (hr : RT w w.heap.size hA h) (hh : h.length = hn) (hok : ∀ x ∈ h, okT x) (hn9 : hn < 1073741824) :
    Calls Try.prog 91 #[wsv t r rd kn (.slice hA hn hc) sv gv] w fun e w' => e = .returned (.bool (decide (¬ idsP (h.map TmL.pt)))) ∧ Below w.heap.size w w' := by
  obtain ⟨w1, hw1, F1, hs1, hb1⟩ := wish_box w (.int .u32 t) (.int .u8 r) (.bool rd) (.slice hA hn hc) (.bool kn) sv gv
  obtain ⟨c0, c1, c2, c3, c4, c5, c6⟩ := F1.cells
  have P := hide (ids_any hA hn hc h w1 ((hr.below hb1).more hb1.size) hh hok hn9)
  have hE := hide (show decide (¬ idsP (h.map TmL.pt)) = !(decide (idsP (h.map TmL.pt))) by
    by_cases hx : idsP (h.map TmL.pt)
    · rw [decide_eq_false (not_not_intro hx), decide_eq_true hx]; rfl
    · rw [decide_eq_true hx, decide_eq_false hx]; rfl)
  rw [hE.out]
  obtain ⟨q, hq⟩ : ∃ q, q = decide (idsP (h.map TmL.pt)) := ⟨_, rfl⟩
  rw [← hq] at P ⊢
  clear hr hok hE hq F1
  go_enter Try.func91, Try.ntmps91
  go_wp2_with fail
  refine P.out.mono ?_
  rintro e w2 ⟨rfl, hb2⟩
  clear c0 c1 c2 c3 c4 c5 c6
  go_wp2_with fail
  go_ret
  exact ⟨rfl, fresh hb1 hb2⟩
set_option maxHeartbeats 1600000 in
set_option maxRecDepth 100000 in
theorem windex (A : Option Addr) (n c : Nat) (L : List WsL) (w : World) (hr : RW w w.heap.size A L) (hn : L.length = n) (hl : n < 1073741824) (hok : ∀ x ∈ L, okW x) :
    Calls Try.prog 110 #[.slice A n c, .func (.func 91) #[] #[]] w fun e w' => ∃ m : Int, e = .returned (.int .i64 m) ∧ (m = -1 ∧ (∀ x ∈ L, hpL x) ∨ 0 ≤ m ∧ ¬ ∀ x ∈ L, hpL x) ∧ Below w.heap.size w w' := by
  have HR := hide hr
  have Hn := hide hn
  have Hok := hide hok
  clear hr hn hok
  go_enter Try.func110, Try.ntmps110
  go_wp2_with fail
  go_loopw [8] (fun i wr => ∃ j : Nat, j ≤ n ∧ i = .int .i64 (j : Int) ∧ Hid (∀ x ∈ L.take j, hpL x) ∧ Below w.heap.size w wr) (fun i _ => n - (intOf i).toNat)
  case atStart => exact ⟨0, by omega, rfl, hide (fun x hx => by cases hx), Below.refl _ _⟩
  case round =>
    obtain ⟨j, hj, rfl, HM, hb⟩ := hrel
    by_cases hlt : j < n
    · have hltL : j < L.length := by rw [Hn.out]; exact hlt
      have z0 : (j : Int) < n := by omega
      have zj : (0 : Int) ≤ j := by omega
      have HRr := (HR.out.below hb).more hb.size
      obtain ⟨bb, bo, rfl, hB, hC⟩ := RW.cell HRr (by omega)
      obtain ⟨d0, d1, d2, d3, d4, d5, d6⟩ := hC j hltL
      obtain ⟨x, hx⟩ : ∃ x, L[j] = x := ⟨_, rfl⟩
      rw [hx] at d0 d1 d2 d3 d4 d5 d6
      have hxm : x ∈ L := by rw [← hx]; exact List.getElem_mem hltL
      have Hx := hide hxm
      have Htake := hide (show L.take (j + 1) = L.take j ++ [x] by rw [List.take_succ_eq_append_getElem hltL, hx])
      have hox := Hok.out x hxm
      have hP := hide (wants1 x.t x.r x.rd x.kn x.hA x.h.length x.hc x.h (.slice x.sA x.s.length x.sc) (.slice x.gA x.g.length x.gc) wr (HRr.2 x hxm).1 rfl hox.2.2.2.2.1 hox.2.2.2.2.2.2.1)
      clear hC hx hxm hox HRr
      by_cases hm : hpL x
      rotate_left
      · rw [decide_eq_true hm] at hP
        have Hm := hide hm
        clear hm
        go_wp2_with fail
        refine hP.out.mono ?_
        rintro e w2 ⟨rfl, hb2⟩
        go_wp2_with fail
        go_ret
        exact ⟨(j : Int), rfl, .inr ⟨by omega, fun h => Hm.out (h x Hx.out)⟩, fresh hb hb2⟩
      · rw [decide_eq_false (not_not_intro hm)] at hP
        have Hm := hide hm
        clear hm
        go_wp2_with fail
        refine hP.out.mono ?_
        rintro e w2 ⟨rfl, hb2⟩
        go_wp2_with fail
        go_roundw
        case rel =>
          refine ⟨j + 1, by omega, by go_num, hide fun q hq => ?_, fresh hb hb2⟩
          rw [Htake.out] at hq
          rcases List.mem_append.1 hq with h | h
          · exact HM.out q h
          · simp only [List.mem_singleton] at h
            subst h
            exact Hm.out
        case measure => simp [intOf]; omega
    · have z0 : ¬ (j : Int) < n := by omega
      have Ha := hide (show ∀ x ∈ L, hpL x by have := HM.out; rwa [List.take_of_length_le (by rw [Hn.out]; omega)] at this)
      go_wp2_with fail
      go_ret
      exact ⟨-1, rfl, .inl ⟨rfl, Ha.out⟩, hb⟩
set_option maxHeartbeats 400000 in
set_option maxRecDepth 100000 in
theorem wcontains (A : Option Addr) (n c : Nat) (L : List WsL) (w : World) (hr : RW w w.heap.size A L) (hn : L.length = n) (hl : n < 1073741824) (hok : ∀ x ∈ L, okW x) :
    Calls Try.prog 90 #[.slice A n c, .func (.func 91) #[] #[]] w fun e w' => e = .returned (.bool (decide (¬ ∀ x ∈ L, hpL x))) ∧ Below w.heap.size w w' := by
  have hP := hide (windex A n c L w hr hn hl hok)
  clear hr hn hok
  go_enter Try.func90, Try.ntmps90
  go_wp2_with fail
  refine hP.out.mono ?_
  rintro e w2 ⟨m, rfl, hm, hb⟩
  rcases hm with ⟨rfl, hm⟩ | ⟨h0, hm⟩
  · have Hd := hide (show decide (¬ ∀ x ∈ L, hpL x) = false from decide_eq_false (fun h => h hm))
    clear hm
    go_wp2_with fail
    go_ret
    exact ⟨by rw [Hd.out]; rfl, hb⟩
  · have Hd := hide (show decide (¬ ∀ x ∈ L, hpL x) = true from decide_eq_true hm)
    clear hm
    go_wp2_with fail
    go_ret
    exact ⟨by rw [Hd.out]; exact ret_bool (by first | (simp; done) | simpa using h0), hb⟩
set_option maxHeartbeats 400000 in
set_option maxRecDepth 100000 in
theorem wants_any (A : Option Addr) (n c : Nat) (L : List WsL) (w : World) (hr : RW w w.heap.size A L) (hn : L.length = n) (hl : n < 1073741824) (hok : ∀ x ∈ L, okW x) :
    Calls Try.prog 67 #[.slice A n c] w fun e w' => e = .returned (.bool (decide (wantsP (L.map WsL.wp)))) ∧ Below w.heap.size w w' := by
  have hen : (L.map WsL.wp).map WP.en = L.map WsL.en := by rw [List.map_map]; rfl
  have hall : (∀ o ∈ L.map WsL.wp, idsP o.H) ↔ ∀ x ∈ L, hpL x := by
    constructor
    · intro h x hx
      exact h _ (List.mem_map_of_mem hx)
    · intro h o ho
      obtain ⟨x, hx, rfl⟩ := List.mem_map.1 ho
      exact h x hx
  have hP := hide (entries_any A n c L w hr hn hl)
  have hQ := hide (fun (A' : Option Addr) (c' : Nat) (w1 : World) (h1 : RE w1 w1.heap.size A' L) => encheck_any A' n c' L w1 h1 hn hok)
  have hU := hide (fun w2 (hb : Below w.heap.size w w2) => wcontains A n c L w2 ((hr.below hb).more hb.size) hn hl hok)
  by_cases h1 : mayE (L.map WsL.en)
  rotate_left
  · rw [show chkE (L.map WsL.en) = 8 from if_neg h1] at hQ
    have hE := hide (show decide (wantsP (L.map WsL.wp)) = false from decide_eq_false fun h => h1 (by have := h.1; rwa [hen] at this))
    rw [hE.out]
    clear hr hn hok hall hE hen h1 hU
    go_enter Try.func67, Try.ntmps67
    go_wp2_with fail
    refine hP.out.mono ?_
    rintro e w2 ⟨A', c', rfl, hre, hb⟩
    have hQ2 := hide (hQ.out A' c' w2 hre)
    clear hre
    go_wp2_with fail
    refine hQ2.out.mono ?_
    rintro e w3 ⟨rfl, hb3⟩
    go_wp2_with fail
    go_ret
    exact ⟨rfl, fresh hb hb3⟩
  rw [show chkE (L.map WsL.en) = 0 from if_pos h1] at hQ
  have hE := hide (show decide (wantsP (L.map WsL.wp)) = !(decide (¬ ∀ x ∈ L, hpL x)) by
    by_cases h : ∀ x ∈ L, hpL x
    · rw [decide_eq_true (show wantsP (L.map WsL.wp) from ⟨by rw [hen]; exact h1, hall.2 h⟩), decide_eq_false (not_not_intro h)]; rfl
    · rw [decide_eq_false (fun h' : wantsP (L.map WsL.wp) => h (hall.1 h'.2)), decide_eq_true h]; rfl)
  rw [hE.out]
  obtain ⟨q, hq⟩ : ∃ q, q = decide (¬ ∀ x ∈ L, hpL x) := ⟨_, rfl⟩
  rw [← hq] at hU ⊢
  clear hr hn hok hall hE hen h1 hq
  go_enter Try.func67, Try.ntmps67
  go_wp2_with fail
  refine hP.out.mono ?_
  rintro e w2 ⟨A', c', rfl, hre, hb⟩
  have hQ2 := hide (hQ.out A' c' w2 hre)
  clear hre
  go_wp2_with fail
  refine hQ2.out.mono ?_
  rintro e w3 ⟨rfl, hb3⟩
  have hbb := fresh hb hb3
  go_wp2_with fail
  refine (hU.out w3 hbb).mono ?_
  rintro e w4 ⟨rfl, hb4⟩
  go_wp2_with fail
  go_ret
  exact ⟨rfl, fresh hbb hb4⟩
end Go.Proofs.Ytmkpfdcnikgokaa
