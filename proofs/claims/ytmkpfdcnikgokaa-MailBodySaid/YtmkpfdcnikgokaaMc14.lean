/-
  Texts of this claim, put together: EyeClock. What each theorem asks stands in its statement.
-/
import Derived.Test.YtmkpfdcnikgokaaMc12
import Derived.Test.YtmkpfdcnikgokaaMc13
set_option linter.unusedVariables false
set_option linter.unusedSimpArgs false
namespace Go.Proofs.Ytmkpfdcnikgokaa
open Go.RowKit
/-- A clock in memory of the call's own. -/
def OTm (w : World) (base : Nat) (A : Option Addr) (c : Nat) (L : List TmL) : Prop :=
  w.ownsRow base 79 2 (.slice A L.length c) L.length (tms L) ∧ ∀ x ∈ L, w.ownsRow base 76 2 (.slice x.A x.s.length x.c) x.s.length (sps x.s)
theorem OTm.below {w w' : World} {base c : Nat} {A : Option Addr} {L : List TmL} (h : OTm w base A c L) (hb : Below w.heap.size w w') : OTm w' base A c L :=
  ⟨own_below h.1 hb (Nat.le_refl _), fun x hx => own_below (h.2 x hx) hb (Nat.le_refl _)⟩
theorem OTm.at {w w' : World} {base c g : Nat} {A : Option Addr} {L : List TmL} (h : OTm w base A c L) (hg : g < base) (ho : OnlyAt g w w') : OTm w' base A c L :=
  ⟨own_at h.1 hg ho, fun x hx => own_at (h.2 x hx) hg ho⟩
theorem OTm.nil (w : World) (base : Nat) : OTm w base none 0 [] := ⟨World.ownsRow_nil _ _ _ _, fun x hx => by cases hx⟩
theorem OTm.less {w : World} {base B c : Nat} {A : Option Addr} {L : List TmL} (h : OTm w base A c L) (hB : B ≤ base) : OTm w B A c L := ⟨own_less h.1 hB, fun x hx => own_less (h.2 x hx) hB⟩
theorem OTm.rt {w : World} {base c : Nat} {A : Option Addr} {L : List TmL} (h : OTm w base A c L) : RT w w.heap.size A L := ⟨RD.of_own h.1, fun x hx => RD.of_own (h.2 x hx)⟩
theorem tminfo : (Try.prog.info? 79).map (fun i => (i.zero, i.size, i.bytes)) = some (some (.agg #[.int .u8 0, .slice none 0 0]), 2, 32) := by kernel_rfl
theorem spinfo : (Try.prog.info? 76).map (fun i => (i.zero, i.size, i.bytes)) = some (some (.agg #[.int .u32 0, .int .u32 0]), 2, 8) := by kernel_rfl
theorem tms_snoc (L : List TmL) (y : TmL) : tms L ++ y.cells = tms (L ++ [y]) := by rw [tms_append]; simp [tms]
theorem sps_snoc (l : List Sp) (y : Sp) : sps l ++ [.int .u32 y.1, .int .u32 y.2] = sps (l ++ [y]) := by rw [sps_append]; simp [sps]
theorem pb_row (w : World) (a b : Value) (T : TypeId) : RD (w.alloc (.cells #[a, b] T)) (w.alloc (.cells #[a, b] T)).heap.size 2 (some ⟨w.heap.size, 0, none⟩) 1 [a, b] := by
  refine ⟨rfl, fun _ => ⟨_, _, rfl, by rw [World.size_alloc]; omega, fun j u hu => ?_⟩⟩
  rw [Nat.zero_add, World.cell?_alloc_new, ← Array.getElem?_toList]
  exact hu
theorem own_setT {w : World} {base g size n : Nat} {e T : TypeId} {v : Value} {L : List Value} {a b : Value} (h : w.ownsRow base e size v n L) (hF : PB w g a b T) (hT : e ≠ T) (off : Nat) (u : Value) : (w.setCell ⟨g, off, none⟩ u).ownsRow base e size v n L := by
  refine ⟨h.1, ?_⟩
  rcases h.2 with h0 | ⟨q, cap, cur, h1, h2, h3, h4⟩
  · exact .inl h0
  · have hne : q ≠ g := by
      intro e
      unfold PB at hF
      rw [← e, h3] at hF
      simp only [Option.some.injEq, Obj.cells.injEq] at hF
      exact hT hF.2.1
    exact .inr ⟨q, cap, cur, h1, h2, (heap_setCell_other _ _ _ _ hne).trans h3, h4⟩
theorem EY.belowB {w w' : World} {g B : Nat} {st : ES} (h : EY w g st) (hb : Below B w w') (hg : g < B) : EY w' g st := by
  obtain ⟨A, c, h1, h2, h3⟩ := h
  exact ⟨A, c, (hb.block g hg).trans h1, RBT.below h2 (hb.mono (Nat.le_of_lt hg)), h3⟩
/-- append of one to a clock of the call's own. -/
theorem wpList_append_tm (w : World) {ops : Array Oper} {rest : List Oper} {o : Oper} {a : Act} {Q : Exit → Act → World → Prop} (hgd : o.guard = none) (s x : Operand)
    (ho : o.op = .call { callee := .builtin .append, args := #[s, x], argTypes := #[37, 37] })
    (base : Nat) (A : Option Addr) (c n : Nat) (L : List TmL) (hn : L.length = n) (hs : a.eval s = .slice A n c) (hO : OTm w base A c L)
    (y : TmL) (hy : w.ownsRow base 76 2 (.slice y.A y.s.length y.c) y.s.length (sps y.s)) (B : Option Addr) (hx : a.eval x = .slice B 1 1) (hr : RD w w.heap.size 2 B 1 y.cells)
    (h63 : n + 1 ≤ 1073741824) (hbase : base ≤ w.heap.size)
    (h : ∀ A' c' w', OTm w' base A' c' (L ++ [y]) → Below base w w' → wpList Try.prog ops Q rest (a.put o.dst (.slice A' (n + 1) c')) w') : wpList Try.prog ops Q (o :: rest) a w := by
  obtain ⟨i0, hi0, hz0, hz1, hz2⟩ := info_parts tminfo
  subst hn
  refine wpList_append_held w hgd s x 37 ho base 79 i0 (.agg #[.int .u8 0, .slice none 0 0]) 2 32 Try.underlying37 hi0 hz0 hz1 hz2 rfl (by decide) _ L.length (tms L) hs hO.1 w.heap.size B 1 1 y.cells hx hr (fun u hu => tms_one [y] u (by simpa [tms] using hu)) h63 (by decide) hbase fun v' w' h1 h2 h3 => ?_
  obtain ⟨A', c', rfl, -, -, -⟩ := own_slice h1
  refine h A' c' w' ⟨?_, fun q hq => ?_⟩ h2
  · rw [← tms_snoc, List.length_append, List.length_singleton]
    exact h1
  · rcases List.mem_append.1 hq with hq | hq
    · exact own_kept (hO.2 q hq) (by decide) h3
    · simp only [List.mem_singleton] at hq
      subst hq
      exact own_kept hy (by decide) h3
/-- The spans of a replica, as they are read: none where something is wrong. -/
def eyeSp (acc : List Sp) : Nat → Int → ES → Option (List Sp) × ES
  | 0, _, st => (some acc, st)
  | k + 1, was, st =>
    if 1073741824 < was + (eyeN 1073741824 st).1 + (eyeN 1073741824 (eyeN 1073741824 st).2).1 ∨ (eyeN 1073741824 (eyeN 1073741824 st).2).2.2 = true then (none, ((eyeN 1073741824 (eyeN 1073741824 st).2).2.1, true))
    else eyeSp (acc ++ [(was + (eyeN 1073741824 st).1, was + (eyeN 1073741824 st).1 + (eyeN 1073741824 (eyeN 1073741824 st).2).1)]) k (was + (eyeN 1073741824 st).1 + (eyeN 1073741824 (eyeN 1073741824 st).2).1) (eyeN 1073741824 (eyeN 1073741824 st).2).2
/-- The rest of a clock behind a replica's spans. -/
def eyeTmK (K : List PT → ES → List PT × ES) (acc : List PT) (R : Int) : Option (List Sp) × ES → List PT × ES
  | (none, st) => ([], st)
  | (some s, st) => K (acc ++ [(R, s)]) st
/-- A clock's replicas, as they are read. -/
def eyeTm : Nat → List PT → ES → List PT × ES
  | 0, acc, st => (acc, st)
  | k + 1, acc, st => eyeTmK (eyeTm k) acc (eyeN 7 st).1 (eyeSp [] (eyeN 1024 (eyeN 7 st).2).1.toNat 0 (eyeN 1024 (eyeN 7 st).2).2)
theorem eyeSp_step {acc : List Sp} {k : Nat} {was a b : Int} {st t1 t2 : ES} (ha : eyeN 1073741824 st = (a, t1)) (hb : eyeN 1073741824 t1 = (b, t2)) :
    eyeSp acc (k + 1) was st = if 1073741824 < was + a + b ∨ t2.2 = true then (none, (t2.1, true)) else eyeSp (acc ++ [(was + a, was + a + b)]) k (was + a + b) t2 := by
  simp only [eyeSp, ha, hb]
theorem eyeTm_step {acc : List PT} {k : Nat} {R m : Int} {st r1 r2 : ES} (ha : eyeN 7 st = (R, r1)) (hb : eyeN 1024 r1 = (m, r2)) :
    eyeTm (k + 1) acc st = eyeTmK (eyeTm k) acc R (eyeSp [] m.toNat 0 r2) := by
  simp only [eyeTm, ha, hb]
/-- The next clock. -/
def eyeC (st : ES) : List PT × ES := eyeTm (eyeN 8 st).1.toNat [] (eyeN 8 st).2
set_option maxHeartbeats 12800000 in
set_option maxRecDepth 100000 in
theorem eyeclock (g : Nat) (st : ES) (w : World) (h : EY w g st) (P : List PT) (s9 : ES) (hx : eyeC st = (P, s9)) :
    Calls Try.prog 36 #[.pointer (some ⟨g, 0, none⟩)] w fun e w' => ∃ A c L, e = .returned (.slice A (List.length (α := TmL) L) c) ∧ L.map TmL.pt = P ∧ OTm w' w.heap.size A c L ∧ (∀ x ∈ L, okT x) ∧ L.length ≤ 8 ∧ EY w' g s9 ∧ OnlyAt g w w' := by
  obtain ⟨i0, hi0, hz0, hz1, hz2⟩ := info_parts spinfo
  have hlt := h.lt
  have Hlt := hide hlt
  have Hle := hide (Nat.le_of_lt hlt)
  unfold eyeC at hx
  obtain ⟨n, s1, h1⟩ : ∃ x s, eyeN 8 st = (x, s) := ⟨_, _, rfl⟩
  rw [h1] at hx
  simp only at hx
  have H1 := hide h1
  have HX := hide hx
  have HE := hide h
  clear h1 hx h hlt
  go_enter Try.func36, Try.ntmps36
  have hmf : ∀ (fn : Fn) (first cap : Array Value) (W : World), (Instr.makeFunc fn first cap).run Try.prog W = .ok (.func fn first cap) W := fun _ _ _ _ => rfl
  go_wp2_with fail
  refine (eye_at g 8 st w HE.out n s1 H1.out (by decide)).mono ?_
  rintro e w2 ⟨rfl, hE2, ho2, x0, x1⟩
  have HE2 := hide hE2
  have HO2 := hide ho2
  obtain ⟨N, rfl⟩ : ∃ N : Nat, n = N := ⟨n.toNat, by omega⟩
  have HX2 := HX
  rw [Int.toNat_natCast] at HX2
  clear hE2 ho2 HX HE
  go_wp2_with fail
  go_loopw [2, 11] (fun v i wr => ∃ (j : Nat) (A : Option Addr) (c : Nat) (L : List TmL) (sj : ES), j ≤ N ∧ i = .int .i64 (j : Int) ∧ v = .slice A j c ∧ Hid (L.length = j) ∧ Hid (eyeTm (N - j) (L.map TmL.pt) sj = (P, s9)) ∧ Hid (OTm wr w.heap.size A c L) ∧ Hid (∀ x ∈ L, okT x) ∧ Hid (EY wr g sj) ∧ Hid (OnlyAt g w wr)) (fun _ i _ => N - (intOf i).toNat)
  case atStart => exact ⟨0, none, 0, [], s1, by omega, rfl, rfl, hide rfl, HX2, hide (OTm.nil _ _), hide (fun x hx => by cases hx), HE2, HO2⟩
  case round =>
    obtain ⟨j, A, c, L, sj, hj, rfl, rfl, HLl, HP, HT, HK, HEj, HOj⟩ := hrel
    clear HX2 HE2 HO2
    by_cases hlt : j < N
    · have z0 : (j : Int) < N := by omega
      have HP1 := HP
      rw [show N - j = (N - (j + 1)) + 1 by omega] at HP1
      obtain ⟨R, r1, hR⟩ : ∃ x s, eyeN 7 sj = (x, s) := ⟨_, _, rfl⟩
      obtain ⟨m, r2, hm⟩ : ∃ x s, eyeN 1024 r1 = (x, s) := ⟨_, _, rfl⟩
      rw [eyeTm_step hR hm] at HP1
      have HP2 := hide HP1.out
      have HR := hide hR
      have Hm := hide hm
      clear HP HP1 hR hm
      go_wp2_with fail
      refine (eye_at g 7 sj wr HEj.out R r1 HR.out (by decide)).mono ?_
      rintro e w3 ⟨rfl, hE3, ho3, R0, R1⟩
      have HE3 := hide hE3
      have HO3 := hide (HOj.out.trans ho3)
      have HT3 := hide (HT.out.at Hlt.out ho3)
      have hRu : IntKind.u8.wrap R = R := by simp [IntKind.wrap, IntKind.bits, IntKind.signed]; omega
      obtain ⟨w4, hw4, F4, hs4, hb4⟩ := two_pb w3 (.int .u8 R) (.slice none 0 0) 79
      have hlt3 := HE3.out.lt
      obtain ⟨gx, hgx⟩ : ∃ q, q = w3.heap.size := ⟨_, rfl⟩
      have Hgx := hide hgx
      have Hg := hide (show g < gx by rw [hgx]; exact hlt3)
      have Hwx := hide (show w.heap.size ≤ gx by rw [hgx]; exact HO3.out.1.size)
      have HE4 := hide (HE3.out.below hb4)
      have HO4 := hide (OnlyAt.below hb4 (Nat.le_of_lt hlt3))
      obtain ⟨y0, y1⟩ := F4.cells
      have g0 := F4.fr 0
      have g1 := F4.fr 1
      have HF4 : Hid (PB w4 gx (.int .u8 R) (.slice none 0 0) 79) := hide (by rw [hgx]; exact F4)
      have Hw4 := hide hw4
      clear HT HOj HEj hE3 ho3 F4 hb4 hlt3 hgx hw4 y0 y1 g0 g1
      go_wp2_with fail
      rw [Hw4.out, ← Hgx.out]
      clear Hw4
      refine (eye_at g 1024 r1 w4 HE4.out m r2 Hm.out (by decide)).mono ?_
      rintro e w5 ⟨rfl, hE5, ho5, m0, m1⟩
      have HE5 := hide hE5
      have HO5 := hide (HO4.out.trans ho5)
      have HF5 := hide (HF4.out.only ho5 (by have := Hg.out; omega))
      obtain ⟨M, rfl⟩ : ∃ M : Nat, m = M := ⟨m.toNat, by omega⟩
      rw [Int.toNat_natCast] at HP2
      clear hE5 ho5 HE4 HO4 HF4
      go_wp2_with fail
      go_loopw [2, 5, 19] (fun q v i wr => ∃ (k : Nat) (was : Int) (A2 : Option Addr) (c2 : Nat) (l : List Sp) (sk : ES), q = .slice A j c ∧ k ≤ M ∧ i = .int .i64 (k : Int) ∧ v = .int .i64 was ∧ 0 ≤ was ∧ was ≤ 1073741824 ∧ Hid (l.length = k) ∧ Hid (eyeSp l (M - k) was sk = eyeSp [] M 0 r2) ∧ Hid (PB wr gx (.int .u8 R) (.slice A2 (List.length (α := Sp) l) c2) 79) ∧ Hid (wr.ownsRow gx 76 2 (.slice A2 (List.length (α := Sp) l) c2) l.length (sps l)) ∧ Hid (∀ x ∈ l, okS x) ∧ Hid (EY wr g sk) ∧ Hid (OnlyAt g w3 wr)) (fun _ _ i _ => M - (intOf i).toNat)
      case atStart => exact ⟨0, 0, none, 0, [], r2, rfl, by omega, rfl, rfl, by decide, by decide, hide rfl, hide rfl, HF5, hide (World.ownsRow_nil _ _ _ _), hide (fun x hx => by cases hx), HE5, HO5⟩
      case round =>
        obtain ⟨k, was, A2, c2, l, sk, rfl, hk, rfl, rfl, hw0, hw9, Hll, HS, HF, HR2, HKs, HEk, HOk⟩ := hrel
        clear HE5 HO5 HF5
        by_cases hlk : k < M
        · have z1 : (k : Int) < M := by omega
          have HS1 := HS
          rw [show M - k = (M - (k + 1)) + 1 by omega] at HS1
          obtain ⟨a, t1, ha⟩ : ∃ x s, eyeN 1073741824 sk = (x, s) := ⟨_, _, rfl⟩
          obtain ⟨b, t2, hb⟩ : ∃ x s, eyeN 1073741824 t1 = (x, s) := ⟨_, _, rfl⟩
          rw [eyeSp_step ha hb] at HS1
          have HS2 := hide HS1.out
          have Ha := hide ha
          have Hb := hide hb
          clear HS HS1 ha hb
          go_wp2_with fail
          refine (eye_at g 1073741824 sk _ HEk.out a t1 Ha.out (by decide)).mono ?_
          rintro e w6 ⟨rfl, hE6, ho6, a0, a1⟩
          have HE6 := hide hE6
          have HO6 := hide (HOk.out.trans ho6)
          have HF6 := hide (HF.out.only ho6 (by have := Hg.out; omega))
          have HR6 := hide (own_at HR2.out Hg.out ho6)
          have ha64 : IntKind.i64.wrap (was + a) = was + a := IntWalk.i64_in _ (by omega)
          clear hE6 ho6 HEk HOk HF HR2
          go_wp2_with fail
          refine (eye_at g 1073741824 t1 w6 HE6.out b t2 Hb.out (by decide)).mono ?_
          rintro e w7 ⟨rfl, hE7, ho7, b0, b1⟩
          have HE7 := hide hE7
          have HO7 := hide (HO6.out.trans ho7)
          have HO7x := HO7
          have HF7 := hide (HF6.out.only ho7 (by have := Hg.out; omega))
          have HR7 := hide (own_at HR6.out Hg.out ho7)
          have hb64 : IntKind.i64.wrap (was + a + b) = was + a + b := IntWalk.i64_in _ (by omega)
          clear hE7 ho7 HE6 HO6 HF6 HR6
          by_cases hbig : (1073741824 : Int) < was + a + b ∨ t2.2 = true
          · have HQ := hide (show eyeSp [] M 0 r2 = (none, (t2.1, true)) by rw [← HS2.out, if_pos hbig])
            have HQ2 := hide (show P = [] ∧ s9 = (t2.1, true) by
              have := HP2.out
              rw [HQ.out] at this
              simp only [eyeTmK, Prod.mk.injEq] at this
              exact ⟨this.1.symm, this.2.symm⟩)
            have HE8 := hide (HE7.out.setBad true)
            have HO8 := hide ((HO3.out.trans HO7x.out).trans (OnlyAt.set g 1 w7 (.bool true)))
            have f1 := HE7.out.fr1
            have c1 := HE7.out.cell1
            obtain ⟨bb, hbb⟩ : ∃ q, q = t2.2 := ⟨_, rfl⟩
            rw [← hbb] at c1
            have hcs : (1073741824 : Int) < was + a + b ∨ ¬ (1073741824 : Int) < was + a + b ∧ bb = true := by
              by_cases h : (1073741824 : Int) < was + a + b
              · exact .inl h
              · exact .inr ⟨h, by rw [hbb]; exact hbig.resolve_left h⟩
            clear HS2 HP2 HQ HT3 HKs HE3 hbig hbb
            rcases hcs with hcs | ⟨hcs, rfl⟩
            all_goals
              go_wp2_with fail
              go_ret
              exact ⟨none, 0, [], rfl, HQ2.out.1.symm, OTm.nil _ _, fun x hx => (by cases hx), Nat.zero_le _, by rw [HQ2.out.2]; exact HE8.out, HO8.out⟩
          · obtain ⟨hbg, hbad⟩ : ¬ (1073741824 : Int) < was + a + b ∧ t2.2 = false := by
              refine ⟨fun h => hbig (.inl h), ?_⟩
              cases h : t2.2
              · rfl
              · exact absurd (.inr h) hbig
            have HS3 := hide (show eyeSp (l ++ [(was + a, was + a + b)]) (M - (k + 1)) (was + a + b) t2 = eyeSp [] M 0 r2 by rw [← HS2.out, if_neg hbig])
            obtain ⟨w8, hw8, F8, hs8, hb8⟩ := two_pb w7 (.int .u32 (was + a)) (.int .u32 (was + a + b)) 76
            have hrow : RD w8 w8.heap.size 2 (some ⟨w7.heap.size, 0, none⟩) 1 [.int .u32 (was + a), .int .u32 (was + a + b)] := by rw [← hw8]; exact pb_row _ _ _ _
            have HF8 := hide (HF7.out.below hb8)
            have hownY := own_below HR7.out hb8 (Nat.le_refl _)
            have HE8 := hide (HE7.out.below hb8)
            have HO8 := hide (HO7.out.trans (OnlyAt.below hb8 (Nat.le_of_lt HE7.out.lt)))
            have c1 := HE7.out.cell1
            rw [hbad] at c1
            obtain ⟨y0, y1⟩ := HF7.out.cells
            have hau : IntKind.u32.wrap (was + a) = was + a := IntWalk.u32_in _ (by omega)
            have hbu : IntKind.u32.wrap (was + a + b) = was + a + b := IntWalk.u32_in _ (by omega)
            have hgx8 : gx ≤ w8.heap.size := by
              have := HO8.out.1.size
              have := (Array.getElem?_eq_some_iff.1 HF8.out).1
              omega
            have hsz : l.length + 1 ≤ 1073741824 := by have := Hll.out; omega
            have Hw8 := hide hw8
            clear HS2 hbig hbad F8 hw8 hs8 hb8
            go_wp2_with (at_builtin; refine wpList_append_held _ rfl (.tmp 41) (.tmp 47) 77 rfl gx 76 i0 (.agg #[.int .u32 0, .int .u32 0]) 2 8 Try.underlying77 hi0 hz0 hz1 hz2 rfl (by decide) _ l.length (sps l) rfl (by rw [Hw8.out]; exact hownY) w8.heap.size (some ⟨w7.heap.size, 0, none⟩) 1 1 [.int .u32 (was + a), .int .u32 (was + a + b)] rfl (by rw [Hw8.out]; exact hrow) (sps_one [(was + a, was + a + b)]) hsz (by decide) (by rw [Hw8.out]; exact hgx8) ?_; rw [Hw8.out]; intro v9 w9 hown9 hb9 hk9; obtain ⟨A9, c9, rfl, -, -, -⟩ := own_slice hown9; have HF9 := hide (hk9 gx _ HF8.out (fun cur e => by simp at e)); clear y0 y1 c1; obtain ⟨y0, y1⟩ := PB.cells HF9.out; have q1 := PB.fr HF9.out 1)
            go_roundw
            case rel =>
              refine ⟨k + 1, was + a + b, A9, c9, l ++ [(was + a, was + a + b)], t2, rfl, by omega, by go_num, rfl, by omega, by omega, hide ?_, HS3, hide ?_, hide ?_, hide ?_, hide ?_, hide ?_⟩
              · rw [List.length_append, Hll.out]; rfl
              · rw [List.length_append, List.length_singleton]
                exact PB.set1 HF9.out _
              · rw [List.length_append, List.length_singleton, ← sps_snoc]
                exact own_setT hown9 HF9.out (by decide) 1 _
              · intro x hx
                rcases List.mem_append.1 hx with h | h
                · exact HKs.out x h
                · simp only [List.mem_singleton] at h
                  subst h
                  exact ⟨by simp only; omega, by simp only; omega, by simp only; omega, by simp only; omega⟩
              · exact (HE8.out.belowB hb9 Hg.out).other Hg.out 1 _
              · exact (HO8.out.more (by rw [← Hgx.out]; exact hb9) (by have := Hg.out; rw [← Hgx.out]; omega)).setNew (Nat.le_of_eq Hgx.out.symm) (by have := Hg.out; rw [← Hgx.out]; omega) 1 _
            case measure => simp [intOf]; omega
        · have z1 : ¬ (k : Int) < M := by omega
          obtain rfl : k = M := by omega
          have HP3 := hide (show eyeTm (N - (j + 1)) ((L ++ [(⟨R, A2, c2, l⟩ : TmL)]).map TmL.pt) sk = (P, s9) by
            have := HP2.out
            rw [← HS.out, Nat.sub_self] at this
            rw [List.map_append]
            exact this)
          obtain ⟨y0, y1⟩ := HF.out.cells
          have HTr := hide (HT3.out.at Hlt.out HOk.out)
          have HO8 := hide (HO3.out.trans HOk.out)
          have HR8 := hide (own_less HR2.out Hwx.out)
          clear HS HP2 HT3 HO3 HOk HR2
          have hbx : w.heap.size ≤ wr.heap.size := HO8.out.1.size
          have hrow := pb_row wr (.int .u8 R) (.slice A2 l.length c2) 79
          have HEx := hide (HEk.out.below (boxed wr (.cells #[.int .u8 R, .slice A2 l.length c2] 79)))
          have HOx := hide (HO8.out.trans (OnlyAt.below (boxed wr (.cells #[.int .u8 R, .slice A2 l.length c2] 79)) (Nat.le_of_lt HEk.out.lt)))
          have Hokx := hide (show okT ⟨R, A2, c2, l⟩ from ⟨R0, by show R < 256; omega, HKs.out, by have := Hll.out; show l.length < _; omega⟩)
          go_wp2_with (at_builtin; refine wpList_append_tm _ rfl (.tmp 51) (.tmp 53) rfl w.heap.size A c j L HLl.out rfl (HTr.out.below (boxed _ _)) ⟨R, A2, c2, l⟩ (own_below HR8.out (boxed _ _) (Nat.le_refl _)) (some ⟨wr.heap.size, 0, none⟩) rfl hrow (by omega) (Nat.le_trans hbx (boxed wr _).size) ?_; intro A3 c3 w9 hT9 hb9)
          go_roundw
          case rel =>
            refine ⟨j + 1, A3, c3, L ++ [⟨R, A2, c2, l⟩], sk, by omega, by go_num, rfl, hide ?_, HP3, hide hT9, hide ?_, hide (HEx.out.belowB hb9 Hlt.out), hide (HOx.out.more hb9 Hle.out)⟩
            · rw [List.length_append, HLl.out]; rfl
            · intro x hx
              rcases List.mem_append.1 hx with h | h
              · exact HK.out x h
              · simp only [List.mem_singleton] at h
                subst h
                exact Hokx.out
          case measure => simp [intOf]; omega
    · have z0 : ¬ (j : Int) < N := by omega
      obtain rfl : j = N := by omega
      have HP9 := hide (show L.map TmL.pt = P ∧ sj = s9 by
        have := HP.out
        rw [Nat.sub_self] at this
        simp only [eyeTm, Prod.mk.injEq] at this
        exact this)
      clear HP
      go_wp2_with fail
      go_ret
      exact ⟨A, c, L, by rw [HLl.out]; rfl, HP9.out.1, HT.out, HK.out, by rw [HLl.out]; omega, by rw [← HP9.out.2]; exact HEj.out, HOj.out⟩
end Go.Proofs.Ytmkpfdcnikgokaa
