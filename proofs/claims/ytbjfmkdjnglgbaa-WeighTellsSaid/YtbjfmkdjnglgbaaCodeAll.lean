/-
  What code.All does with a list. Condition: parts of their types, operations with fewer than 2^30 runs, at most 1024 operations.
-/
import Derived.Test.YtbjfmkdjnglgbaaCodeWrite
namespace Go.Proofs.Ytbjfmkdjnglgbaa
open Go.RowKit

/-- An operation of a list, as it lies. -/
structure OpL where
  k : Int
  t : Int
  r : Int
  A : Option Addr
  c : Nat
  p : List Rn
  z : Int
def OpL.cells (x : OpL) : List Value := [.int .u8 x.k, .int .u32 x.t, .int .u8 x.r, .slice x.A x.p.length x.c, .int .i64 x.z]
def opcs (L : List OpL) : List Value := L.flatMap OpL.cells
theorem opcs_len (L : List OpL) : (opcs L).length = L.length * 5 := by
  induction L with
  | nil => rfl
  | cons x L ih => simp only [opcs, List.flatMap_cons, List.length_append, List.length_cons] at *; rw [ih]; simp [OpL.cells]; omega
theorem opcs_get (L : List OpL) (j : Nat) (h : j < L.length) (i : Nat) (hi : i < 5) : (opcs L)[j * 5 + i]? = (L[j].cells)[i]? := by
  induction L generalizing j with
  | nil => simp at h
  | cons x L ih =>
    have e : opcs (x :: L) = x.cells ++ opcs L := rfl
    have hl : x.cells.length = 5 := rfl
    rw [e]
    cases j with
    | zero => rw [List.getElem?_append_left (by omega)]; simp
    | succ j =>
      rw [List.getElem?_append_right (by omega), hl]
      have := ih j (by simpa using h)
      rw [show (j + 1) * 5 + i - 5 = j * 5 + i by omega]
      simpa using this
/-- A list of operations that is read. -/
def RO (w : World) (B : Nat) (A : Option Addr) (L : List OpL) : Prop := RD w B 5 A L.length (opcs L) ∧ ∀ x ∈ L, RR w B x.A x.p
theorem RO.below {w w' : World} {B : Nat} {A : Option Addr} {L : List OpL} (h : RO w B A L) (hb : Below B w w') : RO w' B A L := ⟨RD.below h.1 hb, fun x hx => RD.below (h.2 x hx) hb⟩
theorem RO.more {w : World} {B B' : Nat} {A : Option Addr} {L : List OpL} (h : RO w B A L) (hB : B ≤ B') : RO w B' A L := ⟨RD.more h.1 hB, fun x hx => RD.more (h.2 x hx) hB⟩
theorem RO.cell {w : World} {B : Nat} {A : Option Addr} {L : List OpL} (h : RO w B A L) (hl : 0 < L.length) : ∃ b off, A = some ⟨b, off, none⟩ ∧ b < B ∧ ∀ j (hj : j < L.length),
    w.cell? ⟨b, off + j * 5, none⟩ = some (.int .u8 L[j].k) ∧ w.cell? ⟨b, off + j * 5 + 1, none⟩ = some (.int .u32 L[j].t) ∧ w.cell? ⟨b, off + j * 5 + 2, none⟩ = some (.int .u8 L[j].r) ∧ w.cell? ⟨b, off + j * 5 + 3, none⟩ = some (.slice L[j].A L[j].p.length L[j].c) ∧ w.cell? ⟨b, off + j * 5 + 4, none⟩ = some (.int .i64 L[j].z) := by
  obtain ⟨b, off, e, hb, hc⟩ := h.1.2 hl
  refine ⟨b, off, e, hb, fun j hj => ?_⟩
  have g : ∀ i, i < 5 → ∀ u, (L[j].cells)[i]? = some u → w.cell? ⟨b, off + j * 5 + i, none⟩ = some u := by
    intro i hi u hu
    rw [Nat.add_assoc]
    exact hc _ _ (by rw [opcs_get L j hj i hi, hu])
  exact ⟨g 0 (by decide) _ rfl, g 1 (by decide) _ rfl, g 2 (by decide) _ rfl, g 3 (by decide) _ rfl, g 4 (by decide) _ rfl⟩
/-- Parts of their types. -/
def okO (x : OpL) : Prop := 0 ≤ x.k ∧ okI (x.t, x.r) ∧ (∀ y ∈ x.p, okR y) ∧ x.p.length < 1073741824
def mayL (x : OpL) : Prop := mayO x.k x.t x.r x.p x.z
instance (x : OpL) : Decidable (mayL x) := by unfold mayL; infer_instance
def opBL (x : OpL) : List UInt8 := opB x.k x.t x.r x.p x.z
/-- A list's bytes. -/
def allB (L : List OpL) : List UInt8 := nbs [(L.length : Int)] ++ L.flatMap opBL
/-- All's answer: its error, its bytes. -/
def allE (L : List OpL) : Int := if ∀ x ∈ L, mayL x then 0 else 8
def allY (L : List OpL) : List UInt8 := if ∀ x ∈ L, mayL x then allB L else []
theorem tail_len {k t r was z : Int} (h : ∀ a ∈ tailNums k t r was z, 0 ≤ a ∧ a ≤ 1099511627776) : (nbs (tailNums k t r was z)).length ≤ 12 := by
  have h1 := nbs_len h
  have h2 : (tailNums k t r was z).length ≤ 2 := by unfold tailNums; split; · simp
                                                    · split <;> simp
  omega
theorem opB_len {x : OpL} (hm : mayL x) (ho : okO x) : (opBL x).length ≤ 1200 := by
  obtain ⟨h0, hi, hr, -⟩ := ho
  have hk : 1 ≤ x.k ∧ x.k ≤ 4 := by
    have := hm.2.2
    unfold rightO at this
    omega
  have h1 := pre_len (k := x.k) (by omega) hm.2.1 hr x.p.length
  rw [List.take_length] at h1
  have e : opBL x = nbs ([x.k, (x.p.length : Int)] ++ runNums 0 x.p) ++ nbs (tailNums x.k x.t x.r (wasR 0 x.p) x.z) := by
    rw [← nbs_append]
    rfl
  have hlw := lastR_was hm.2.1 0
  have hpos := mayR_last_pos hm.2.1
  obtain ⟨mi1, mi2, mi3⟩ := hm.1
  unfold okI at hi
  simp only at hi
  have h2 : (nbs (tailNums x.k x.t x.r (wasR 0 x.p) x.z)).length ≤ 12 := by
    refine tail_len fun a ha => ?_
    unfold tailNums at ha
    rcases hm.2.2 with ⟨g1, -, g3⟩ | ⟨g1, -, -⟩ | ⟨g1, -, g3⟩
    · rw [if_pos g1] at ha
      simp only [List.mem_singleton] at ha
      subst ha
      have := g3.1
      have := g3.2.1
      omega
    · rw [if_neg (by omega), if_pos g1] at ha
      cases ha
    · rw [if_neg (by omega), if_neg (by omega)] at ha
      simp only [List.mem_cons, List.not_mem_nil, or_false] at ha
      omega
  rw [e, List.length_append]
  omega
theorem flat_len : ∀ (L : List OpL), (∀ x ∈ L, mayL x ∧ okO x) → (L.flatMap opBL).length ≤ 1200 * L.length
  | [], _ => by simp
  | x :: L, h => by
    have h1 := flat_len L fun y hy => h y (List.mem_cons_of_mem _ hy)
    have h2 := opB_len (h x List.mem_cons_self).1 (h x List.mem_cons_self).2
    rw [List.flatMap_cons, List.length_append, List.length_cons]
    omega

set_option maxHeartbeats 3200000 in
set_option maxRecDepth 100000 in
theorem call_any (A : Option Addr) (n c : Nat) (L : List OpL) (w : World) (hr : RO w w.heap.size A L) (hn : L.length = n) (hl : n ≤ 1024) (hok : ∀ x ∈ L, okO x) :
    Calls Try.prog 74 #[.slice A n c] w fun e w' => ∃ v, e = .returned (.tuple #[v, .int .i64 (allE L)]) ∧ w'.ownsRow w.heap.size 5 1 v (allY L).length (u8s (allY L)) ∧ Below w.heap.size w w' := by
  obtain ⟨i0, hi0, hz0, hz1, hz2⟩ := info_parts u8info
  have Hok := hide hok
  have Hn := hide hn
  have HR := hide hr
  have hl9 : (n : Int) ≤ 1024 := by omega
  clear hok hn hr
  go_enter Try.func74, Try.ntmps74
  go_wp2_with fail
  refine (cput_ok (.slice none 0 0) [] w.heap.size w.heap.size 1 [(n : Int)] _ (World.ownsRow_nil _ _ _ _) (by simp) (heap_alloc_new _ _) (by intro a ha; simp only [List.mem_singleton] at ha; omega) (by simp)).mono ?_
  rintro e w1 ⟨v1, rfl, hown1, hb1, -⟩
  simp only [List.nil_append] at hown1
  have hb01 : Below w.heap.size w w1 := ((Below.refl w.heap.size w).alloc (Nat.le_refl _) _).trans hb1
  clear hb1
  go_wp2_with fail
  go_loopw [4, 18] (fun u i wr => ∃ j : Nat, j ≤ n ∧ i = .int .i64 (j : Int) ∧ wr.ownsRow w.heap.size 5 1 u (nbs [(n : Int)] ++ (L.take j).flatMap opBL).length (u8s (nbs [(n : Int)] ++ (L.take j).flatMap opBL)) ∧ Hid (∀ x ∈ L.take j, mayL x) ∧ Below w.heap.size w wr) (fun _ i _ => n - (intOf i).toNat)
  case atStart => exact ⟨0, by omega, rfl, by simpa using hown1, hide (fun x hx => by cases hx), hb01⟩
  case round =>
    obtain ⟨j, hj, rfl, hown, hMay, hb⟩ := hrel
    clear hown1 hb01
    by_cases hlt : j < n
    · have hltL : j < L.length := by rw [Hn.out]; exact hlt
      have z0 : (j : Int) < n := by omega
      obtain ⟨bb, bo, rfl, hB, hC⟩ := RO.cell (HR.out.below hb) (by omega)
      obtain ⟨d0, d1, d2, d3, d4⟩ := hC j hltL
      obtain ⟨x, hx⟩ : ∃ x, L[j] = x := ⟨_, rfl⟩
      rw [hx] at d0 d1 d2 d3 d4
      have hxm : x ∈ L := by rw [← hx]; exact List.getElem_mem hltL
      have hox := Hok.out x hxm
      have hrx : RR wr wr.heap.size x.A x.p := ((HR.out.below hb).more hb.size).2 x hxm
      obtain ⟨wx, hwx, FX, hsx, hbx⟩ := five_fb wr (.int .u8 x.k) (.int .u32 x.t) (.int .u8 x.r) (.slice x.A x.p.length x.c) (.int .i64 x.z)
      have hP := hide (cwrite_any x.k x.t x.r x.z x.A x.p.length x.c x.p wx (hrx.below' hbx) rfl hox.2.2.2 hox.2.2.1 hox.1 hox.2.1)
      obtain ⟨y0, y1, y2, y3, y4⟩ := FX.cells
      have hownx := own_below hown hbx (Nat.le_refl _)
      have hbwx := fresh hb hbx
      have Htake := hide (show L.take (j + 1) = L.take j ++ [x] by rw [List.take_succ_eq_append_getElem hltL, hx])
      have hfl : ((L.take j).flatMap opBL).length ≤ 1200 * 1024 := by
        have := flat_len (L.take j) fun q hq => ⟨hMay.out q hq, Hok.out q (List.mem_of_mem_take hq)⟩
        rw [List.length_take] at this
        omega
      have hnb6 : (nbs [(n : Int)]).length ≤ 6 := nbs_len (L := [(n : Int)]) (by intro a ha; simp only [List.mem_singleton] at ha; omega)
      have HS := hide (And.intro hfl hnb6)
      have HX := hide (And.intro hxm hox)
      clear hC hx FX hrx hown hfl hnb6 hxm hox
      by_cases hm : mayL x
      · rw [show chkO x.k x.t x.r x.p x.z = 0 from if_pos hm, show putB x.k x.t x.r x.p x.z = opBL x from if_pos hm] at hP
        have Hm := hide hm
        have hlen := hide (opB_len hm HX.out.2)
        obtain ⟨bx, hbx'⟩ : ∃ l, l = opBL x := ⟨_, rfl⟩
        obtain ⟨pre, hpre⟩ : ∃ l, l = nbs [(n : Int)] ++ (L.take j).flatMap opBL := ⟨_, rfl⟩
        have Hbx := hide (And.intro hbx' hpre)
        rw [← hbx'] at hP hlen
        rw [← hpre] at hownx
        have hsz : pre.length + bx.length ≤ 1073741824 := by
          have h1 := HS.out
          have h2 := hlen.out
          rw [hpre, List.length_append]
          omega
        clear hm hbx' hpre
        go_wp2_with fail
        refine hP.out.mono ?_
        rintro e w2 ⟨v2, rfl, hown2, hb2⟩
        obtain ⟨A2, c2, rfl, -, -, -⟩ := own_slice hown2
        have hown' := own_below hownx hb2 (Nat.le_refl _)
        have hbw2 := fresh hbwx hb2
        clear y0 y1 y2 y3 y4 d0 d1 d2 d3 d4 hownx
        go_wp2_with (at_builtin; refine wpList_append_src _ rfl (.tmp 30) (.tmp 31) 67 rfl w.heap.size 5 i0 (.int .u8 0) 1 1 Try.underlying67 hi0 hz0 hz1 hz2 rfl (by decide) _ _ _ rfl hown' w2.heap.size A2 _ c2 (u8s bx) rfl (RD.of_own hown2) (u8s_one _) hsz (by decide) hbw2.size ?_; intro v3 w3 hown3 hb3)
        go_roundw
        case rel =>
          refine ⟨j + 1, by omega, by go_num, ?_, hide ?_, hbw2.trans hb3⟩
          · rw [Htake.out, List.flatMap_append, List.flatMap_singleton, ← List.append_assoc, ← Hbx.out.1, ← Hbx.out.2, u8s_append, List.length_append]
            exact hown3
          · intro q hq
            rw [Htake.out] at hq
            rcases List.mem_append.1 hq with h | h
            · exact hMay.out q h
            · simp only [List.mem_singleton] at h
              subst h
              exact Hm.out
        case measure => simp [intOf]; omega
      · rw [show chkO x.k x.t x.r x.p x.z = 8 from if_neg hm, show putB x.k x.t x.r x.p x.z = [] from if_neg hm] at hP
        have hne : ¬ ∀ x ∈ L, mayL x := fun h => hm (h x HX.out.1)
        have Hne := hide (And.intro (show allE L = 8 from if_neg hne) (show allY L = [] from if_neg hne))
        clear hm hne
        go_wp2_with fail
        refine hP.out.mono ?_
        rintro e w2 ⟨v2, rfl, -, hb2⟩
        have hbw2 := fresh hbwx hb2
        clear y0 y1 y2 y3 y4 d0 d1 d2 d3 d4 hownx
        go_wp2_with fail
        refine bodyPost_ret (v := .tuple #[.slice none 0 0, .int .i64 8]) (by simp [results, Try.results74, go_sem]) rfl ?_
        exact ⟨_, by rw [Hne.out.1], by rw [Hne.out.2]; exact World.ownsRow_nil _ _ _ _, hbw2⟩
    · have hz : ¬ (j : Int) < n := by omega
      have hjn : j = n := by omega
      have htk : L.take j = L := List.take_of_length_le (by rw [Hn.out]; omega)
      rw [htk] at hown hMay
      have HA : (nbs [(n : Int)] ++ L.flatMap opBL) = allB L := by unfold allB; rw [Hn.out]
      rw [HA] at hown
      have Hall := hide (And.intro (show allE L = 0 from if_pos hMay.out) (show allY L = allB L from if_pos hMay.out))
      obtain ⟨bl, hbl⟩ : ∃ l, l = allB L := ⟨_, rfl⟩
      rw [← hbl] at hown Hall
      have Hown := hide hown
      clear hown HA htk hjn hbl hMay
      go_wp2_with fail
      refine bodyPost_ret (v := .tuple #[_, .int .i64 0]) (by simp [results, Try.results74, go_sem]; rfl) rfl ?_
      exact ⟨_, by rw [Hall.out.1], by rw [Hall.out.2]; exact Hown.out, hb⟩
end Go.Proofs.Ytbjfmkdjnglgbaa
