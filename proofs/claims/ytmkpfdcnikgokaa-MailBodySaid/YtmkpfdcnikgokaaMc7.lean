/-
  Texts of this claim, put together: NumGet, CodePut, Pen. What each theorem asks stands in its statement.
-/
import Derived.Test.YtmkpfdcnikgokaaMc1
import Derived.Test.YtmkpfdcnikgokaaMc6
set_option linter.unusedVariables false
set_option linter.unusedSimpArgs false
namespace Go.Proofs.Ytmkpfdcnikgokaa
open Go.RowKit
/-- Get's three results. -/
def gval : Option (Nat × Nat) → Value
  | some (n, s) => .tuple #[.int .i64 (n : Int), .int .i64 (s : Int), .int .i64 0]
  | none => .tuple #[.int .i64 0, .int .i64 0, .int .i64 8]
theorem fv_one : fv 1 = 4607182418800017408 := by decide +kernel
theorem fv_128 : fv 128 = 4638707616191610880 := by decide +kernel
theorem get_facts (n k : Nat) (x : UInt8) (hn : n < 128 ^ k) (hk : k < 6) : ∃ m v n' u', m = x.toNat % 128 ∧ v = 128 ^ k ∧ n' = n + m * v ∧ u' = 128 ^ (k + 1) ∧ n' < 128 ^ (k + 1) ∧ n' < 4398046511104 ∧
    bits .and .u8 (x.toNat : Int) 127 = (m : Int) ∧ floatBits .mul .f64 (fv m) (fv v) = some (fv (m * v)) ∧ floatBits .add .f64 (fv n) (fv (m * v)) = some (fv n') ∧
    floatBits .mul .f64 4638707616191610880 (fv v) = some (fv u') ∧ floatToIntVal .f64 (fv n') .i64 = some (n' : Int) := by
  have hx := x.toNat_lt
  have hp : 128 ^ k ≤ 34359738368 := by
    have : 128 ^ k ≤ 128 ^ 5 := Nat.pow_le_pow_right (by omega) (by omega)
    omega
  have hm : x.toNat % 128 < 128 := Nat.mod_lt _ (by omega)
  have hmv : x.toNat % 128 * 128 ^ k ≤ 127 * 128 ^ k := Nat.mul_le_mul_right _ (by omega)
  have hs : 128 ^ (k + 1) = 128 ^ k * 128 := Nat.pow_succ _ _
  refine ⟨x.toNat % 128, 128 ^ k, _, _, rfl, rfl, rfl, rfl, by omega, by omega, ?_, mul_fv _ _ (by omega) (by omega) (by omega), add_fv _ _ (by omega) (by omega) (by omega), ?_, int_fv _ (by omega)⟩
  · have := u8_and_nat x.toNat 127 (by omega) (by omega)
    refine this.trans ?_
    rw [show (127 : Nat) = 2 ^ 7 - 1 from rfl, Nat.and_two_pow_sub_one_eq_mod]
  · rw [← fv_128, mul_fv _ _ (by omega) (by omega) (by omega), hs, Nat.mul_comm]
set_option maxHeartbeats 1000000 in
set_option maxRecDepth 100000 in
theorem get_any (A : Option Addr) (c : Nat) (l : List UInt8) (w : World) (hr : RB w w.heap.size A l) (hl : l.length < 1073741824) :
    Calls Try.prog 55 #[.slice A l.length c] w fun e w' => e = .returned (gval (gget l)) ∧ w = w' := by
  go_enter Try.func55, Try.ntmps55
  go_wp2_with fail
  refine wp_scope_goto 0 (fun a' w' => w' = w ∧ ∃ (k n u : Nat) (u6 u7 u8 u9 u10 u11 u12 u13 u14 u15 u16 u17 u18 u19 u20 u21 u22 u23 u24 u25 u26 u27 u28 u29 u30 u31 u32 u33 u34 u35 u36 u37 u38 u39 u40 u41 u42 u43 u44 u45 u46 u47 u48 u49 u50 : Value), a' = { tmps := #[.slice A l.length c, undef, .int .i64 0, .int .i64 (k : Int), .int .i64 0, .complex .f64 (fv n) (fv u), u6, u7, u8, u9, u10, u11, u12, u13, u14, u15, u16, u17, u18, u19, u20, u21, u22, u23, u24, u25, u26, u27, u28, u29, u30, u31, u32, u33, u34, u35, u36, u37, u38, u39, u40, u41, u42, u43, u44, u45, u46, u47, u48, u49, u50], defers := [] } ∧ gget l = gg k n (l.drop k) ∧ n < 128 ^ k ∧ u = 128 ^ k ∧ k ≤ 6 ∧ k ≤ l.length) (fun a' _ => (6 - (intOf (a'.tmps.getD 3 undef)).toNat)) rfl ?_ ?_
  · intro K hK
    go_wp2_with fail
    go_step3
    go_step
    go_step
    refine hK _ _ ⟨rfl, 0, 0, 1, undef, undef, undef, undef, undef, undef, undef, undef, undef, undef, undef, undef, undef, undef, undef, undef, undef, undef, undef, undef, undef, undef, undef, undef, undef, undef, undef, undef, undef, undef, undef, undef, undef, undef, undef, undef, undef, undef, undef, undef, undef, undef, undef, undef, undef, ?_, rfl, by omega, rfl, by omega, by omega⟩
    rw [fv_zero, fv_one]
    rfl
  · rintro a' w' ⟨rfl, k, n, u, u6, u7, u8, u9, u10, u11, u12, u13, u14, u15, u16, u17, u18, u19, u20, u21, u22, u23, u24, u25, u26, u27, u28, u29, u30, u31, u32, u33, u34, u35, u36, u37, u38, u39, u40, u41, u42, u43, u44, u45, u46, u47, u48, u49, u50, rfl, hg, hn, hu, hk6, hkl⟩
    have hu' := hide hu
    clear hu
    by_cases hend : k = l.length
    · subst hend
      rw [List.drop_length, gg_nil] at hg
      have hg' := hide hg
      clear hg
      go_wp2_with fail
      simp only [Exit.jump]
      go_ret3
      exact ⟨by rw [hg'.out]; rfl, rfl⟩
    have hne : ((k : Int) == (l.length : Int)) = false := by simp; omega
    by_cases h6 : k = 6
    · subst h6
      rw [gg_six] at hg
      have hg' := hide hg
      clear hg
      go_wp2_with fail
      simp only [Exit.jump]
      go_ret3
      exact ⟨by rw [hg'.out]; rfl, rfl⟩
    have hn6 : ((k : Int) == 6) = false := by simp; omega
    have hlt : k < l.length := by omega
    obtain ⟨b, off, rfl, hbb, hc⟩ := RB.cell hr (by omega)
    have hck := hc k hlt
    clear hc hr hbb
    rw [List.drop_eq_getElem_cons hlt] at hg
    have hx := l[k].toNat_lt
    obtain ⟨m, v, n', u', hm, hv, hn', hu2, hlt', hbig, e1, e2, e3, e4, e5⟩ := get_facts n k l[k] hn (by omega)
    obtain rfl : u = v := hu'.out.trans hv.symm
    clear hu'
    have E2 := fun w : World => run_float_arith (P := Try.prog) w .mul 129 .f64 _ _ _ e2
    have E3 := fun w : World => run_float_arith (P := Try.prog) w .add 129 .f64 _ _ _ e3
    have E4 := fun w : World => run_float_arith (P := Try.prog) w .mul 129 .f64 _ _ _ e4
    have E5 := fun w : World => run_convert_float_int (P := Try.prog) w 129 3 .f64 .i64 _ _ (by kernel_rfl) Try.underlying3 e5
    have E1 : floatOfInt .f64 (m : Int) = fv m := rfl
    have hm' := hide hm
    have hv' := hide hv
    have hn2 := hide hn'
    have hu3 := hide hu2
    clear e2 e3 e4 e5 hm hv hn' hu2
    generalize hxv : l[k].toNat = x at *
    have hxv' := hide hxv
    clear hxv
    have hval := hide (show n + l[k].toNat % 128 * 128 ^ k = n' by rw [hxv'.out, hn2.out, hm'.out, hv'.out])
    by_cases h128 : 128 ≤ x
    · have hgm := hide (gg_more (n := n) (r := l.drop (k + 1)) h6 (show 128 ≤ l[k].toNat by rw [hxv'.out]; exact h128))
      have hg' := hide hg
      clear hg
      have h128' : (128 : Int) ≤ x := by omega
      go_wp2_with fail
      go_step3
      have ek : (k : Int) + 1 = ((k + 1 : Nat) : Int) := by omega
      rw [ek]
      refine ⟨rfl, ⟨rfl, k + 1, n', u', _, _, _, _, _, _, _, _, _, _, _, _, _, _, _, _, _, _, _, _, _, _, _, _, _, _, _, _, _, _, _, _, _, _, _, _, _, _, _, _, _, _, _, _, _, rfl, ?_, hlt', hu3.out, by omega, by omega⟩, ?_⟩
      · rw [hg'.out, hgm.out, hval.out]
      · simp [intOf]; omega
    · have hsmall : (x : Int) < 128 := by omega
      have hlk : l[k].toNat < 128 := by rw [hxv'.out]; omega
      by_cases hbad : 1099511627776 < n'
      · have hgm := hide (gg_bad (k := k) (n := n) (r := l.drop (k + 1)) hlk (.inl (by rw [hval.out]; exact hbad)))
        have hg' := hide hg
        clear hg hlk
        have hb' : (1099511627776 : Int) < n' := by omega
        go_wp2_with fail
        simp only [Exit.jump]
        go_ret3
        exact ⟨by rw [hg'.out, hgm.out]; rfl, rfl⟩
      · have hb' : (n' : Int) ≤ 1099511627776 := by omega
        by_cases hz : x = 0 ∧ 0 < k
        · have hgm := hide (gg_bad (k := k) (n := n) (r := l.drop (k + 1)) hlk (.inr (by rw [hxv'.out]; exact hz)))
          have hg' := hide hg
          clear hg hlk
          have z1 : ((x : Int) == 0) = true := by simp [hz.1]
          have z2 : (1 : Int) < (k : Int) + 1 := by omega
          clear hz
          go_wp2_with fail
          simp only [Exit.jump]
          go_ret3
          exact ⟨by rw [hg'.out, hgm.out]; rfl, rfl⟩
        · have hgm := hide (gg_good (k := k) (n := n) (r := l.drop (k + 1)) h6 hlk (by rw [hval.out, hxv'.out]; omega))
          have hg' := hide hg
          clear hg hlk
          have fin : gval (gget l) = .tuple #[.int .i64 (n' : Int), .int .i64 ((k : Int) + 1), .int .i64 0] := by
            rw [hg'.out, hgm.out, hval.out]; rfl
          have fin' := hide fin
          clear fin
          by_cases hx0 : x = 0
          · have z1 : ((x : Int) == 0) = true := by simp [hx0]
            have z2 : ¬ (1 : Int) < (k : Int) + 1 := by omega
            clear hz hx0
            go_wp2_with fail
            simp only [Exit.jump]
            go_ret3
            exact ⟨by rw [fin'.out]; rfl, rfl⟩
          · have z1 : ((x : Int) == 0) = false := by simp; omega
            clear hz hx0
            go_wp2_with fail
            simp only [Exit.jump]
            go_ret3
            exact ⟨by rw [fin'.out]; rfl, rfl⟩
end Go.Proofs.Ytmkpfdcnikgokaa
namespace Go.Proofs.Ytmkpfdcnikgokaa
open Go.RowKit
/-- Blocks that hold no bytes stay. -/
def Kept (w w' : World) : Prop := ∀ (b : Nat) (o : Obj), w.heap[b]? = some o → (∀ cur, o ≠ .cells cur 5 (0, 0)) → w'.heap[b]? = some o
theorem Kept.refl (w : World) : Kept w w := fun _ _ h _ => h
theorem Kept.trans {a b c : World} (h : Kept a b) (k : Kept b c) : Kept a c := fun x o hx hn => k x o (h x o hx hn) hn
theorem Kept.below {w w' : World} (h : Below w.heap.size w w') : Kept w w' := fun b _ hb _ => (h.block b (Array.getElem?_eq_some_iff.1 hb).1).trans hb
/-- Numbers as cells. -/
def i64s (L : List Int) : List Value := L.map fun z => .int .i64 z
theorem nbs_len {L : List Int} (h : ∀ z ∈ L, 0 ≤ z ∧ z ≤ 1099511627776) : (nbs L).length ≤ 6 * L.length := by
  induction L with
  | nil => simp [nbs]
  | cons z L ih =>
    have h1 := ih fun a ha => h a (List.mem_cons_of_mem _ ha)
    have h2 := h z List.mem_cons_self
    have h3 := nb_six (n := z.toNat) (by omega)
    rw [nbs_cons, List.length_append, List.length_cons]
    omega
set_option maxHeartbeats 1600000 in
set_option maxRecDepth 100000 in
theorem cput_ok (v : Value) (pre : List UInt8) (base g c : Nat) (L : List Int) (w : World) (hown : w.ownsRow base 5 1 v pre.length (u8s pre)) (hbase : base ≤ w.heap.size)
    (hg : w.heap[g]? = some (.cells (i64s L).toArray 3 (0, 0))) (hL : ∀ z ∈ L, 0 ≤ z ∧ z ≤ 1099511627776) (hsz : pre.length + 6 * L.length ≤ 1000000000) :
    Calls Try.prog 76 #[v, .slice (some ⟨g, 0, none⟩) L.length c] w fun e w' => ∃ v', e = .returned v' ∧ w'.ownsRow base 5 1 v' (pre ++ nbs L).length (u8s (pre ++ nbs L)) ∧ Below base w w' ∧ Kept w w' := by
  obtain ⟨i0, hi0, hz0, hz1, hz2⟩ := info_parts u8info
  have HL := hide hL
  have Hg := hide hg
  clear hL hg
  go_enter Try.func76, Try.ntmps76
  go_wp2_with fail
  go_loopw [0, 11] (fun u i wr => ∃ k : Nat, k ≤ L.length ∧ i = .int .i64 (k : Int) ∧ wr.ownsRow base 5 1 u (pre ++ nbs (L.take k)).length (u8s (pre ++ nbs (L.take k))) ∧ Below base w wr ∧ Hid (Kept w wr)) (fun _ i _ => L.length - (intOf i).toNat)
  case atStart => exact ⟨0, by omega, rfl, by simpa [nbs] using hown, Below.refl _ _, hide (Kept.refl w)⟩
  case round =>
    obtain ⟨k, hk, rfl, hownk, hb, hkp⟩ := hrel
    by_cases hlt : k < L.length
    · have z0 : (k : Int) < L.length := by omega
      obtain ⟨z, hz⟩ : ∃ z, z = L[k] := ⟨_, rfl⟩
      have hzz := HL.out L[k] (List.getElem_mem hlt)
      rw [← hz] at hzz
      have hgr := hkp.out g _ Hg.out (fun cur e => by simp at e)
      have d0 : wr.cell? ⟨g, k, none⟩ = some (.int .i64 z) := by
        rw [cell_of_row _ _ _ _ _ _ hgr, hz]
        simp [i64s, hlt]
      have hnext : nbs (L.take (k + 1)) = nbs (L.take k) ++ nb z.toNat := by
        rw [List.take_succ_eq_append_getElem hlt, nbs_append, nbs_cons, nbs_nil, List.append_nil, hz]
      have Hnext := hide hnext
      have hlen6 := hide (nb_six (n := z.toNat) (by omega))
      have hlenk := hide (nbs_len (L := L.take k) fun a ha => HL.out a (List.mem_of_mem_take ha))
      have hP := hide (put_int z wr hzz.1 hzz.2)
      clear hgr hz hzz hnext
      go_wp2_with fail
      refine hP.out.mono ?_
      rintro e w2 ⟨v2, rfl, hown2, hb2⟩
      obtain ⟨A2, c2, rfl, -, -, -⟩ := own_slice hown2
      have hownk2 := own_below hownk hb2 (Nat.le_refl _)
      have hbase2 : base ≤ w2.heap.size := Nat.le_trans hbase (Nat.le_trans hb.size hb2.size)
      have hs : (pre ++ nbs (L.take k)).length + (nb z.toNat).length ≤ 1073741824 := by
        have h1 := hlen6.out
        have h2 := hlenk.out
        rw [List.length_take, Nat.min_eq_left (by omega)] at h2
        rw [List.length_append]
        omega
      go_wp2_with (at_builtin; refine wpList_append_held _ rfl (.tmp 20) (.tmp 21) 28 rfl base 5 i0 (.int .u8 0) 1 1 Try.underlying28 hi0 hz0 hz1 hz2 rfl (by decide) _ _ _ rfl hownk2 w2.heap.size A2 (nb z.toNat).length c2 (u8s (nb z.toNat)) rfl (RD.of_own hown2) (u8s_one _) hs (by decide) hbase2 ?_; intro v3 w3 hown3 hb3 hk3)
      go_roundw
      case rel =>
        refine ⟨k + 1, by omega, by go_num, ?_, (hb.trans (hb2.mono (Nat.le_trans hbase hb.size))).trans hb3, hide ((hkp.out.trans (Kept.below hb2)).trans hk3)⟩
        rw [Hnext.out, ← List.append_assoc, u8s_append, List.length_append]
        exact hown3
      case measure => simp [intOf]; omega
    · have hz : ¬ (k : Int) < L.length := by omega
      have hkl : L.take k = L := List.take_of_length_le (by omega)
      rw [hkl] at hownk
      go_wp2_with fail
      go_ret
      exact ⟨_, rfl, by first | exact hownk | (rw [List.length_append] at hownk; exact hownk), hb, hkp.out⟩
end Go.Proofs.Ytmkpfdcnikgokaa
namespace Go.Proofs.Ytmkpfdcnikgokaa
open Go.RowKit
/-- Blocks that hold neither bytes nor a pen stay. -/
def KeptP (w w' : World) : Prop := ∀ (b : Nat) (o : Obj), w.heap[b]? = some o → (∀ cur, o ≠ .cells cur 5 (0, 0)) → (∀ cur, o ≠ .cells cur 89 (0, 0)) → w'.heap[b]? = some o
theorem KeptP.refl (w : World) : KeptP w w := fun _ _ h _ _ => h
theorem KeptP.trans {a b c : World} (h : KeptP a b) (k : KeptP b c) : KeptP a c := fun x o hx hn hm => k x o (h x o hx hn hm) hn hm
theorem KeptP.below {w w' : World} (h : Below w.heap.size w w') : KeptP w w' := fun b _ hb _ _ => (h.block b (Array.getElem?_eq_some_iff.1 hb).1).trans hb
/-- The pen's box. -/
def PNB (w : World) (g : Nat) (A : Option Addr) (n c : Nat) : Prop := w.heap[g]? = some (.cells #[.slice A n c] 89 (0, 0))
theorem PNB.lt {w : World} {g n c : Nat} {A : Option Addr} (h : PNB w g A n c) : g < w.heap.size := (Array.getElem?_eq_some_iff.1 h).1
theorem PNB.cell {w : World} {g n c : Nat} {A : Option Addr} (h : PNB w g A n c) : w.cell? ⟨g, 0, none⟩ = some (.slice A n c) := by
  rw [cell_of_row _ _ _ _ _ _ h]; rfl
theorem PNB.below {w w' : World} {g n c : Nat} {A : Option Addr} (h : PNB w g A n c) (hb : Below w.heap.size w w') : PNB w' g A n c := (hb.block g h.lt).trans h
theorem PNB.fr {w : World} {g n c : Nat} {A : Option Addr} (h : PNB w g A n c) : w.frozen? ⟨g, 0, none⟩ = false := frozen_of_row w g 0 _ _ h
theorem PNB.set {w : World} {g n c n' c' : Nat} {A A' : Option Addr} (h : PNB w g A n c) : PNB (w.setCell ⟨g, 0, none⟩ (.slice A' n' c')) g A' n' c' := heap_setCell_same _ _ _ _ _ _ h
/-- A pen: its box and its bytes, in memory of the call's own. -/
def PN (w : World) (base g : Nat) (l : List UInt8) : Prop := ∃ A c, PNB w g A l.length c ∧ w.ownsRow base 5 1 (.slice A l.length c) l.length (u8s l) ∧ base ≤ g
theorem PN.below {w w' : World} {base g : Nat} {l : List UInt8} (h : PN w base g l) (hb : Below w.heap.size w w') : PN w' base g l := by
  obtain ⟨A, c, h1, h2, h3⟩ := h
  exact ⟨A, c, h1.below hb, own_below h2 hb (Nat.le_refl _), h3⟩
theorem PN.lt {w : World} {base g : Nat} {l : List UInt8} (h : PN w base g l) : g < w.heap.size := by
  obtain ⟨A, c, h1, -⟩ := h
  exact h1.lt
theorem PN.ge {w : World} {base g : Nat} {l : List UInt8} (h : PN w base g l) : base ≤ g := by
  obtain ⟨A, c, -, -, h1⟩ := h
  exact h1
/-- A block that holds other things is set. -/
theorem own_setX {w : World} {base g size n : Nat} {e T : TypeId} {v : Value} {L : List Value} {cs : Array Value} (h : w.ownsRow base e size v n L) (hF : w.heap[g]? = some (.cells cs T (0, 0))) (hT : e ≠ T) (off : Nat) (u : Value) : (w.setCell ⟨g, off, none⟩ u).ownsRow base e size v n L := by
  refine ⟨h.1, ?_⟩
  rcases h.2 with h0 | ⟨q, cap, cur, h1, h2, h3, h4⟩
  · exact .inl h0
  · have hne : q ≠ g := by
      intro e
      rw [← e, h3] at hF
      simp only [Option.some.injEq, Obj.cells.injEq] at hF
      exact hT hF.2.1
    exact .inr ⟨q, cap, cur, h1, h2, (heap_setCell_other _ _ _ _ hne).trans h3, h4⟩
theorem PN.other {w : World} {base g gx : Nat} {l : List UInt8} {T : TypeId} {cs : Array Value} (h : PN w base g l) (hF : w.heap[gx]? = some (.cells cs T (0, 0))) (h1 : 5 ≠ T) (h2 : 89 ≠ T) (off : Nat) (u : Value) : PN (w.setCell ⟨gx, off, none⟩ u) base g l := by
  obtain ⟨A, c, hb, ho, hg⟩ := h
  have hne : g ≠ gx := by
    intro e
    unfold PNB at hb
    rw [e, hF] at hb
    simp only [Option.some.injEq, Obj.cells.injEq] at hb
    exact h2 hb.2.1.symm
  exact ⟨A, c, (heap_setCell_other _ _ _ _ hne).trans hb, own_setX ho hF h1 off u, hg⟩
theorem KeptP.setP {w : World} {g n c : Nat} {A : Option Addr} (h : PNB w g A n c) (v : Value) : KeptP w (w.setCell ⟨g, 0, none⟩ v) := fun b o hb _ hm => by
  have hne : b ≠ g := by
    intro e
    unfold PNB at h
    rw [e, h] at hb
    exact hm _ (Option.some.inj hb).symm
  exact (heap_setCell_other _ _ _ _ hne).trans hb
set_option maxHeartbeats 1600000 in
set_option maxRecDepth 100000 in
theorem penput (base g gi c : Nat) (pre : List UInt8) (L : List Int) (w : World) (hp : PN w base g pre) (hg : w.heap[gi]? = some (.cells (i64s L).toArray 3 (0, 0))) (hL : ∀ z ∈ L, 0 ≤ z ∧ z ≤ 1099511627776) (hsz : pre.length + 6 * L.length ≤ 1000000000) :
    Calls Try.prog 48 #[.pointer (some ⟨g, 0, none⟩), .slice (some ⟨gi, 0, none⟩) L.length c] w fun e w' => e = .returned (.tuple #[]) ∧ PN w' base g (pre ++ nbs L) ∧ Below base w w' ∧ KeptP w w' := by
  obtain ⟨i0, hi0, hz0, hz1, hz2⟩ := info_parts u8info
  have hlt := hp.lt
  have hge := hp.ge
  have hbase : base ≤ w.heap.size := by omega
  have HL := hide hL
  have Hg := hide hg
  have HP := hide hp
  clear hL hg hp
  go_enter Try.func48, Try.ntmps48
  go_wp2_with fail
  go_loopw [10] (fun i wr => ∃ k : Nat, k ≤ L.length ∧ i = .int .i64 (k : Int) ∧ Hid (PN wr base g (pre ++ nbs (L.take k))) ∧ Below base w wr ∧ Hid (KeptP w wr)) (fun i _ => L.length - (intOf i).toNat)
  case atStart => exact ⟨0, by omega, rfl, by simpa [nbs] using HP, Below.refl _ _, hide (KeptP.refl w)⟩
  case round =>
    obtain ⟨k, hk, rfl, hownk, hb, hkp⟩ := hrel
    by_cases hlt : k < L.length
    · have z0 : (k : Int) < L.length := by omega
      obtain ⟨z, hz⟩ : ∃ z, z = L[k] := ⟨_, rfl⟩
      have hzz := HL.out L[k] (List.getElem_mem hlt)
      rw [← hz] at hzz
      have hgr := hkp.out gi _ Hg.out (fun cur e => by simp at e) (fun cur e => by simp at e)
      have d0 : wr.cell? ⟨gi, k, none⟩ = some (.int .i64 z) := by
        rw [cell_of_row _ _ _ _ _ _ hgr, hz]
        simp [i64s, hlt]
      have hnext : nbs (L.take (k + 1)) = nbs (L.take k) ++ nb z.toNat := by
        rw [List.take_succ_eq_append_getElem hlt, nbs_append, nbs_cons, nbs_nil, List.append_nil, hz]
      have Hnext := hide hnext
      have hlen6 := hide (nb_six (n := z.toNat) (by omega))
      have hlenk := hide (nbs_len (L := L.take k) fun a ha => HL.out a (List.mem_of_mem_take ha))
      have hP := hide (put_int z wr hzz.1 hzz.2)
      clear hgr hz hzz hnext
      go_wp2_with fail
      refine hP.out.mono ?_
      rintro e w2 ⟨v2, rfl, hown2, hb2⟩
      obtain ⟨A2, c2, rfl, -, -, -⟩ := own_slice hown2
      obtain ⟨A1, c1, hB1, ho1, -⟩ := hownk.out.below hb2
      have HB1 := hide hB1
      have d1 := hB1.cell
      have hbase2 : base ≤ w2.heap.size := Nat.le_trans hbase (Nat.le_trans hb.size hb2.size)
      have hs : (pre ++ nbs (L.take k)).length + (nb z.toNat).length ≤ 1073741824 := by
        have h1 := hlen6.out
        have h2 := hlenk.out
        rw [List.length_take, Nat.min_eq_left (by omega)] at h2
        rw [List.length_append]
        omega
      obtain ⟨q, hq⟩ : ∃ q, q = pre ++ nbs (L.take k) := ⟨_, rfl⟩
      have Hq := hide hq
      rw [← hq] at d1 hB1 ho1 hs HB1
      clear hq hownk hB1
      go_wp2_with (at_builtin; refine wpList_append_held _ rfl (.tmp 23) (.tmp 24) 28 rfl base 5 i0 (.int .u8 0) 1 1 Try.underlying28 hi0 hz0 hz1 hz2 rfl (by decide) _ _ _ rfl ho1 w2.heap.size A2 (nb z.toNat).length c2 (u8s (nb z.toNat)) rfl (RD.of_own hown2) (u8s_one _) hs (by decide) hbase2 ?_; intro v3 w3 hown3 hb3 hk3; obtain ⟨A3, c3, rfl, -, -, -⟩ := own_slice hown3; have HB3 := hide (show PNB w3 g A1 q.length c1 from hk3 g _ HB1.out (fun cur e => by simp at e)); have f3 := HB3.out.fr; have d3 := HB3.out.cell)
      go_roundw
      case rel =>
        refine ⟨k + 1, by omega, by go_num, hide ⟨A3, c3, ?_, ?_, hge⟩, ((hb.trans (hb2.mono (Nat.le_trans hbase hb.size))).trans hb3).setCell (by simp only; omega) _, hide (((hkp.out.trans (KeptP.below hb2)).trans (fun b o hb hn _ => hk3 b o hb hn)).trans (KeptP.setP HB3.out _))⟩
        · rw [Hnext.out, ← List.append_assoc, ← Hq.out, List.length_append]
          exact HB3.out.set
        · rw [Hnext.out, ← List.append_assoc, ← Hq.out, u8s_append, List.length_append]
          exact own_setX hown3 HB3.out (by decide) 0 _
      case measure => simp [intOf]; omega
    · have hz : ¬ (k : Int) < L.length := by omega
      have hkl : L.take k = L := List.take_of_length_le (by omega)
      rw [hkl] at hownk
      go_wp2_with fail
      exact bodyPost_end (v := .tuple #[]) (by simp [results, Try.results48, go_sem]) rfl ⟨rfl, hownk.out, hb, hkp.out⟩
end Go.Proofs.Ytmkpfdcnikgokaa
