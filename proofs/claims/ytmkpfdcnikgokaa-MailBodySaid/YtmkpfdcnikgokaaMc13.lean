/-
  Texts of this claim, put together: CodeAll, ListMath. What each theorem asks stands in its statement.
-/
import Derived.Test.YtmkpfdcnikgokaaMc6
import Derived.Test.YtmkpfdcnikgokaaMc10
set_option linter.unusedVariables false
set_option linter.unusedSimpArgs false
namespace Go.Proofs.Ytmkpfdcnikgokaa
open Go.RowKit
/-- An operation of a list, as it lies. -/
structure OpL where
  k : Int
  t : Int
  r : Int
  A : Option Addr
  c : Nat
  p : List Rn
  z : Int
def OpL.cells (x : OpL) : List Value := [.int .u8 x.k, .int .u32 x.t, .int .u8 x.r, .slice x.A x.p.length x.c, .int .i64 x.z]
def opcs (L : List OpL) : List Value := L.flatMap OpL.cells
theorem opcs_get (L : List OpL) (j : Nat) (h : j < L.length) (i : Nat) (hi : i < 5) : (opcs L)[j * 5 + i]? = (L[j].cells)[i]? := by
  induction L generalizing j with
  | nil => simp at h
  | cons x L ih =>
    have e : opcs (x :: L) = x.cells ++ opcs L := rfl
    have hl : x.cells.length = 5 := rfl
    rw [e]
    cases j with
    | zero => rw [List.getElem?_append_left (by omega)]; simp
    | succ j =>
      rw [List.getElem?_append_right (by omega), hl]
      have := ih j (by simpa using h)
      rw [show (j + 1) * 5 + i - 5 = j * 5 + i by omega]
      simpa using this
/-- A list of operations that is read. -/
def RO (w : World) (B : Nat) (A : Option Addr) (L : List OpL) : Prop := RD w B 5 A L.length (opcs L) ∧ ∀ x ∈ L, RR w B x.A x.p
theorem RO.below {w w' : World} {B : Nat} {A : Option Addr} {L : List OpL} (h : RO w B A L) (hb : Below B w w') : RO w' B A L := ⟨RD.below h.1 hb, fun x hx => RD.below (h.2 x hx) hb⟩
theorem RO.more {w : World} {B B' : Nat} {A : Option Addr} {L : List OpL} (h : RO w B A L) (hB : B ≤ B') : RO w B' A L := ⟨RD.more h.1 hB, fun x hx => RD.more (h.2 x hx) hB⟩
theorem RO.cell {w : World} {B : Nat} {A : Option Addr} {L : List OpL} (h : RO w B A L) (hl : 0 < L.length) : ∃ b off, A = some ⟨b, off, none⟩ ∧ b < B ∧ ∀ j (hj : j < L.length),
    w.cell? ⟨b, off + j * 5, none⟩ = some (.int .u8 L[j].k) ∧ w.cell? ⟨b, off + j * 5 + 1, none⟩ = some (.int .u32 L[j].t) ∧ w.cell? ⟨b, off + j * 5 + 2, none⟩ = some (.int .u8 L[j].r) ∧ w.cell? ⟨b, off + j * 5 + 3, none⟩ = some (.slice L[j].A L[j].p.length L[j].c) ∧ w.cell? ⟨b, off + j * 5 + 4, none⟩ = some (.int .i64 L[j].z) := by
  obtain ⟨b, off, e, hb, hc⟩ := h.1.2 hl
  refine ⟨b, off, e, hb, fun j hj => ?_⟩
  have g : ∀ i, i < 5 → ∀ u, (L[j].cells)[i]? = some u → w.cell? ⟨b, off + j * 5 + i, none⟩ = some u := by
    intro i hi u hu
    rw [Nat.add_assoc]
    exact hc _ _ (by rw [opcs_get L j hj i hi, hu])
  exact ⟨g 0 (by decide) _ rfl, g 1 (by decide) _ rfl, g 2 (by decide) _ rfl, g 3 (by decide) _ rfl, g 4 (by decide) _ rfl⟩
/-- Parts of their types. -/
def okO (x : OpL) : Prop := 0 ≤ x.k ∧ okI (x.t, x.r) ∧ (∀ y ∈ x.p, okR y) ∧ x.p.length < 1073741824
def mayL (x : OpL) : Prop := mayO x.k x.t x.r x.p x.z
instance (x : OpL) : Decidable (mayL x) := by unfold mayL; infer_instance
def opBL (x : OpL) : List UInt8 := opB x.k x.t x.r x.p x.z
/-- A list's bytes. -/
def allB (L : List OpL) : List UInt8 := nbs [(L.length : Int)] ++ L.flatMap opBL
/-- All's answer: its error, its bytes. -/
def allE (L : List OpL) : Int := if ∀ x ∈ L, mayL x then 0 else 8
def allY (L : List OpL) : List UInt8 := if ∀ x ∈ L, mayL x then allB L else []
theorem tail_len {k t r was z : Int} (h : ∀ a ∈ tailNums k t r was z, 0 ≤ a ∧ a ≤ 1099511627776) : (nbs (tailNums k t r was z)).length ≤ 12 := by
  have h1 := nbs_len h
  have h2 : (tailNums k t r was z).length ≤ 2 := by unfold tailNums; split; · simp
                                                    · split <;> simp
  omega
theorem opB_len {x : OpL} (hm : mayL x) (ho : okO x) : (opBL x).length ≤ 1200 := by
  obtain ⟨h0, hi, hr, -⟩ := ho
  have hk : 1 ≤ x.k ∧ x.k ≤ 4 := by
    have := hm.2.2
    unfold rightO at this
    omega
  have h1 := pre_len (k := x.k) (by omega) hm.2.1 hr x.p.length
  rw [List.take_length] at h1
  have e : opBL x = nbs ([x.k, (x.p.length : Int)] ++ runNums 0 x.p) ++ nbs (tailNums x.k x.t x.r (wasR 0 x.p) x.z) := by
    rw [← nbs_append]
    rfl
  have hlw := lastR_was hm.2.1 0
  have hpos := mayR_last_pos hm.2.1
  obtain ⟨mi1, mi2, mi3⟩ := hm.1
  unfold okI at hi
  simp only at hi
  have h2 : (nbs (tailNums x.k x.t x.r (wasR 0 x.p) x.z)).length ≤ 12 := by
    refine tail_len fun a ha => ?_
    unfold tailNums at ha
    rcases hm.2.2 with ⟨g1, -, g3⟩ | ⟨g1, -, -⟩ | ⟨g1, -, g3⟩
    · rw [if_pos g1] at ha
      simp only [List.mem_singleton] at ha
      subst ha
      have := g3.1
      have := g3.2.1
      omega
    · rw [if_neg (by omega), if_pos g1] at ha
      cases ha
    · rw [if_neg (by omega), if_neg (by omega)] at ha
      simp only [List.mem_cons, List.not_mem_nil, or_false] at ha
      omega
  rw [e, List.length_append]
  omega
theorem flat_len : ∀ (L : List OpL), (∀ x ∈ L, mayL x ∧ okO x) → (L.flatMap opBL).length ≤ 1200 * L.length
  | [], _ => by simp
  | x :: L, h => by
    have h1 := flat_len L fun y hy => h y (List.mem_cons_of_mem _ hy)
    have h2 := opB_len (h x List.mem_cons_self).1 (h x List.mem_cons_self).2
    rw [List.flatMap_cons, List.length_append, List.length_cons]
    omega
set_option maxHeartbeats 3200000 in
set_option maxRecDepth 100000 in
theorem call_any (A : Option Addr) (n c : Nat) (L : List OpL) (w : World) (hr : RO w w.heap.size A L) (hn : L.length = n) (hl : n ≤ 1024) (hok : ∀ x ∈ L, okO x) :
    Calls Try.prog 50 #[.slice A n c] w fun e w' => ∃ v, e = .returned (.tuple #[v, .int .i64 (allE L)]) ∧ w'.ownsRow w.heap.size 5 1 v (allY L).length (u8s (allY L)) ∧ Below w.heap.size w w' := by
  obtain ⟨i0, hi0, hz0, hz1, hz2⟩ := info_parts u8info
  have Hok := hide hok
  have Hn := hide hn
  have HR := hide hr
  have hl9 : (n : Int) ≤ 1024 := by omega
  clear hok hn hr
  go_enter Try.func50, Try.ntmps50
  go_wp2_with fail
  refine (cput_ok (.slice none 0 0) [] w.heap.size w.heap.size 1 [(n : Int)] _ (World.ownsRow_nil _ _ _ _) (by simp) (heap_alloc_new _ _) (by intro a ha; simp only [List.mem_singleton] at ha; omega) (by simp)).mono ?_
  rintro e w1 ⟨v1, rfl, hown1, hb1, -⟩
  simp only [List.nil_append] at hown1
  have hb01 : Below w.heap.size w w1 := ((Below.refl w.heap.size w).alloc (Nat.le_refl _) _).trans hb1
  clear hb1
  go_wp2_with fail
  go_loopw [4, 18] (fun u i wr => ∃ j : Nat, j ≤ n ∧ i = .int .i64 (j : Int) ∧ wr.ownsRow w.heap.size 5 1 u (nbs [(n : Int)] ++ (L.take j).flatMap opBL).length (u8s (nbs [(n : Int)] ++ (L.take j).flatMap opBL)) ∧ Hid (∀ x ∈ L.take j, mayL x) ∧ Below w.heap.size w wr) (fun _ i _ => n - (intOf i).toNat)
  case atStart => exact ⟨0, by omega, rfl, by simpa using hown1, hide (fun x hx => by cases hx), hb01⟩
  case round =>
    obtain ⟨j, hj, rfl, hown, hMay, hb⟩ := hrel
    clear hown1 hb01
    by_cases hlt : j < n
    · have hltL : j < L.length := by rw [Hn.out]; exact hlt
      have z0 : (j : Int) < n := by omega
      obtain ⟨bb, bo, rfl, hB, hC⟩ := RO.cell (HR.out.below hb) (by omega)
      obtain ⟨d0, d1, d2, d3, d4⟩ := hC j hltL
      obtain ⟨x, hx⟩ : ∃ x, L[j] = x := ⟨_, rfl⟩
      rw [hx] at d0 d1 d2 d3 d4
      have hxm : x ∈ L := by rw [← hx]; exact List.getElem_mem hltL
      have hox := Hok.out x hxm
      have hrx : RR wr wr.heap.size x.A x.p := ((HR.out.below hb).more hb.size).2 x hxm
      obtain ⟨wx, hwx, FX, hsx, hbx⟩ := five_fb wr (.int .u8 x.k) (.int .u32 x.t) (.int .u8 x.r) (.slice x.A x.p.length x.c) (.int .i64 x.z)
      have hP := hide (cwrite_any x.k x.t x.r x.z x.A x.p.length x.c x.p wx (hrx.below' hbx) rfl hox.2.2.2 hox.2.2.1 hox.1 hox.2.1)
      obtain ⟨y0, y1, y2, y3, y4⟩ := FX.cells
      have hownx := own_below hown hbx (Nat.le_refl _)
      have hbwx := fresh hb hbx
      have Htake := hide (show L.take (j + 1) = L.take j ++ [x] by rw [List.take_succ_eq_append_getElem hltL, hx])
      have hfl : ((L.take j).flatMap opBL).length ≤ 1200 * 1024 := by
        have := flat_len (L.take j) fun q hq => ⟨hMay.out q hq, Hok.out q (List.mem_of_mem_take hq)⟩
        rw [List.length_take] at this
        omega
      have hnb6 : (nbs [(n : Int)]).length ≤ 6 := nbs_len (L := [(n : Int)]) (by intro a ha; simp only [List.mem_singleton] at ha; omega)
      have HS := hide (And.intro hfl hnb6)
      have HX := hide (And.intro hxm hox)
      clear hC hx FX hrx hown hfl hnb6 hxm hox
      by_cases hm : mayL x
      · rw [show chkO x.k x.t x.r x.p x.z = 0 from if_pos hm, show putB x.k x.t x.r x.p x.z = opBL x from if_pos hm] at hP
        have Hm := hide hm
        have hlen := hide (opB_len hm HX.out.2)
        obtain ⟨bx, hbx'⟩ : ∃ l, l = opBL x := ⟨_, rfl⟩
        obtain ⟨pre, hpre⟩ : ∃ l, l = nbs [(n : Int)] ++ (L.take j).flatMap opBL := ⟨_, rfl⟩
        have Hbx := hide (And.intro hbx' hpre)
        rw [← hbx'] at hP hlen
        rw [← hpre] at hownx
        have hsz : pre.length + bx.length ≤ 1073741824 := by
          have h1 := HS.out
          have h2 := hlen.out
          rw [hpre, List.length_append]
          omega
        clear hm hbx' hpre
        go_wp2_with fail
        refine hP.out.mono ?_
        rintro e w2 ⟨v2, rfl, hown2, hb2⟩
        obtain ⟨A2, c2, rfl, -, -, -⟩ := own_slice hown2
        have hown' := own_below hownx hb2 (Nat.le_refl _)
        have hbw2 := fresh hbwx hb2
        clear y0 y1 y2 y3 y4 d0 d1 d2 d3 d4 hownx
        go_wp2_with (at_builtin; refine wpList_append_src _ rfl (.tmp 30) (.tmp 31) 28 rfl w.heap.size 5 i0 (.int .u8 0) 1 1 Try.underlying28 hi0 hz0 hz1 hz2 rfl (by decide) _ _ _ rfl hown' w2.heap.size A2 _ c2 (u8s bx) rfl (RD.of_own hown2) (u8s_one _) hsz (by decide) hbw2.size ?_; intro v3 w3 hown3 hb3)
        go_roundw
        case rel =>
          refine ⟨j + 1, by omega, by go_num, ?_, hide ?_, hbw2.trans hb3⟩
          · rw [Htake.out, List.flatMap_append, List.flatMap_singleton, ← List.append_assoc, ← Hbx.out.1, ← Hbx.out.2, u8s_append, List.length_append]
            exact hown3
          · intro q hq
            rw [Htake.out] at hq
            rcases List.mem_append.1 hq with h | h
            · exact hMay.out q h
            · simp only [List.mem_singleton] at h
              subst h
              exact Hm.out
        case measure => simp [intOf]; omega
      · rw [show chkO x.k x.t x.r x.p x.z = 8 from if_neg hm, show putB x.k x.t x.r x.p x.z = [] from if_neg hm] at hP
        have hne : ¬ ∀ x ∈ L, mayL x := fun h => hm (h x HX.out.1)
        have Hne := hide (And.intro (show allE L = 8 from if_neg hne) (show allY L = [] from if_neg hne))
        clear hm hne
        go_wp2_with fail
        refine hP.out.mono ?_
        rintro e w2 ⟨v2, rfl, -, hb2⟩
        have hbw2 := fresh hbwx hb2
        clear y0 y1 y2 y3 y4 d0 d1 d2 d3 d4 hownx
        go_wp2_with fail
        refine bodyPost_ret (v := .tuple #[.slice none 0 0, .int .i64 8]) (by simp [results, Try.results50, go_sem]) rfl ?_
        exact ⟨_, by rw [Hne.out.1], by rw [Hne.out.2]; exact World.ownsRow_nil _ _ _ _, hbw2⟩
    · have hz : ¬ (j : Int) < n := by omega
      have hjn : j = n := by omega
      have htk : L.take j = L := List.take_of_length_le (by rw [Hn.out]; omega)
      rw [htk] at hown hMay
      have HA : (nbs [(n : Int)] ++ L.flatMap opBL) = allB L := by unfold allB; rw [Hn.out]
      rw [HA] at hown
      have Hall := hide (And.intro (show allE L = 0 from if_pos hMay.out) (show allY L = allB L from if_pos hMay.out))
      obtain ⟨bl, hbl⟩ : ∃ l, l = allB L := ⟨_, rfl⟩
      rw [← hbl] at hown Hall
      have Hown := hide hown
      clear hown HA htk hjn hbl hMay
      go_wp2_with fail
      refine bodyPost_ret (v := .tuple #[_, .int .i64 0]) (by simp [results, Try.results50, go_sem]; rfl) rfl ?_
      exact ⟨_, by rw [Hall.out.1], by rw [Hall.out.2]; exact Hown.out, hb⟩
end Go.Proofs.Ytmkpfdcnikgokaa
namespace Go.Proofs.Ytmkpfdcnikgokaa
open Go.RowKit
/-- An operation, wherever it lies. -/
abbrev OpP := Int × Int × Int × List Rn × Int
instance : DecidableEq OpP := fun a b => decidable_of_iff (a.1 = b.1 ∧ a.2.1 = b.2.1 ∧ a.2.2.1 = b.2.2.1 ∧ a.2.2.2.1 = b.2.2.2.1 ∧ a.2.2.2.2 = b.2.2.2.2) (by
  obtain ⟨a0, a1, a2, a3, a4⟩ := a
  obtain ⟨b0, b1, b2, b3, b4⟩ := b
  simp only [Prod.mk.injEq])
def OpL.op (x : OpL) : OpP := (x.k, x.t, x.r, x.p, x.z)
def opP (o : OpP) : List UInt8 := opB o.1 o.2.1 o.2.2.1 o.2.2.2.1 o.2.2.2.2
def mayP (o : OpP) : Prop := mayO o.1 o.2.1 o.2.2.1 o.2.2.2.1 o.2.2.2.2
/-- What may be, in parts of its types. -/
def goodP (o : OpP) : Prop := mayP o ∧ (∀ x ∈ o.2.2.2.1, okR x) ∧ 1 ≤ o.1 ∧ o.1 ≤ 4 ∧ 0 ≤ o.2.2.1
/-- So many operations that bytes go on with, from a place on. -/
def goL (b : List UInt8) : Nat → Nat → List OpP → Option (List OpP × Nat)
  | 0, a, acc => some (acc, a)
  | m + 1, a, acc => match getP (b.drop a) with
    | none => none
    | some (k, t, r, p, z, n) => goL b m (a + n) (acc ++ [(k, t, r, p, z)])
/-- The list that bytes begin with. -/
def readL (b : List UInt8) : Option (List OpP × Nat) := (nxt b 0 0 1024).bind fun q => goL b q.1.toNat q.2 []
def outL : Option (List OpP × Nat) → List OpP × Nat × Int
  | some (l, n) => (l, n, 0)
  | none => ([], 0, 8)
theorem lastR_nnL {p : List Rn} (hp : mayR p) (ho : ∀ x ∈ p, okR x) : 0 ≤ (lastR p).2 := by
  have hne : p ≠ [] := fun e => by rw [e] at hp; have := hp.1; simp at this
  obtain ⟨q, x, rfl⟩ : ∃ q x, p = q ++ [x] := ⟨p.dropLast, p.getLast hne, (List.dropLast_concat_getLast hne).symm⟩
  rw [lastR_snoc q x hp]
  have := ho x (by simp)
  unfold okR at this
  simp only
  omega
theorem getP_nnL {b : List UInt8} {k t r : Int} {p : List Rn} {z : Int} {n : Nat} (h : getP b = some (k, t, r, p, z, n)) : 0 ≤ r := by
  simp only [getP, Option.bind_eq_some_iff] at h
  obtain ⟨⟨k', a1⟩, hk, ⟨m, a2⟩, hm, ⟨p', w, a3⟩, hr, ⟨k2, t2, r2, p2, z2, n2⟩, ht, h⟩ := h
  simp only at hm hr ht h
  split at h
  · rename_i hmay
    simp only [Option.some.injEq, Prod.mk.injEq] at h
    obtain ⟨rfl, rfl, rfl, rfl, rfl, rfl⟩ := h
    obtain ⟨t1, l1⟩ := nxt_take (L := []) hk (by omega) (by simp [nbs])
    obtain ⟨t2', l2⟩ := nxt_take hm l1 t1
    obtain ⟨-, -, -, -, g5, -, -⟩ := rdRuns_inv m.toNat a2 0 _ p' w a3 (by omega) l2 t2' hr
    unfold rdTail at ht
    split at ht
    · rw [Option.map_eq_some_iff] at ht
      obtain ⟨⟨z', a4⟩, hz, he⟩ := ht
      simp only [Prod.mk.injEq] at he
      obtain ⟨rfl, rfl, rfl, rfl, rfl, rfl⟩ := he
      exact lastR_nnL hmay.2.1 g5
    · split at ht
      · simp only [Option.some.injEq, Prod.mk.injEq] at ht
        obtain ⟨rfl, rfl, rfl, rfl, rfl, rfl⟩ := ht
        exact lastR_nnL hmay.2.1 g5
      · simp only [Option.bind_eq_some_iff, Option.map_eq_some_iff] at ht
        obtain ⟨⟨d, a4⟩, hd, ⟨r', a5⟩, hr', he⟩ := ht
        simp only [Prod.mk.injEq] at hd hr' he
        obtain ⟨rfl, rfl, rfl, rfl, rfl, rfl⟩ := he
        exact (nxt_inv hr').1
  · cases h
theorem getP_goodP {b : List UInt8} {k t r : Int} {p : List Rn} {z : Int} {n : Nat} (h : getP b = some (k, t, r, p, z, n)) : goodP (k, t, r, p, z) := by
  obtain ⟨h1, -, -, h4, h5, h6⟩ := getP_inv h
  exact ⟨h1, h4, h5, h6, getP_nnL h⟩
theorem goL_inv {b : List UInt8} {pre : List UInt8} : ∀ (m a : Nat) (acc l : List OpP) (n : Nat), goL b m a acc = some (l, n) → a ≤ b.length → b.take a = pre ++ acc.flatMap opP → (∀ o ∈ acc, goodP o) →
    (∀ o ∈ l, goodP o) ∧ l.length = acc.length + m ∧ n ≤ b.length ∧ b.take n = pre ++ l.flatMap opP
  | 0, a, acc, l, n, h, ha, ht, hg => by
    simp only [goL, Option.some.injEq, Prod.mk.injEq] at h
    obtain ⟨rfl, rfl⟩ := h
    exact ⟨hg, rfl, ha, ht⟩
  | m + 1, a, acc, l, n, h, ha, ht, hg => by
    unfold goL at h
    cases hp : getP (b.drop a) with
    | none => rw [hp] at h; cases h
    | some o =>
      obtain ⟨k, t, r, p, z, s⟩ := o
      rw [hp] at h
      simp only at h
      have hgo := getP_goodP hp
      obtain ⟨-, h2, h3, -⟩ := getP_inv hp
      rw [List.length_drop] at h3
      obtain ⟨g1, g2, g3, g4⟩ := goL_inv m (a + s) (acc ++ [(k, t, r, p, z)]) l n h (by omega) (by
        rw [List.take_add, ht, h2, List.flatMap_append, List.flatMap_singleton, List.append_assoc]
        rfl) (fun o ho => by
        rcases List.mem_append.1 ho with h' | h'
        · exact hg o h'
        · simp only [List.mem_singleton] at h'
          subst h'
          exact hgo)
      refine ⟨g1, ?_, g3, g4⟩
      rw [g2, List.length_append, List.length_singleton]
      omega
theorem readL_inv {b : List UInt8} {l : List OpP} {n : Nat} (h : readL b = some (l, n)) : (∀ o ∈ l, goodP o) ∧ l.length ≤ 1024 ∧ n ≤ b.length ∧ b.take n = nbs [(l.length : Int)] ++ l.flatMap opP := by
  unfold readL at h
  rw [Option.bind_eq_some_iff] at h
  obtain ⟨⟨m, a⟩, hm, hg⟩ := h
  simp only at hg
  obtain ⟨h1, h2, h3, -, -, -, -⟩ := nxt_inv hm
  obtain ⟨t1, l1⟩ := nxt_take (L := []) hm (by omega) (by simp [nbs])
  rw [List.nil_append] at t1
  obtain ⟨g1, g2, g3, g4⟩ := goL_inv (pre := nbs [m]) m.toNat a [] l n hg l1 (by rw [t1]; simp) (fun o ho => by cases ho)
  have hlm : (l.length : Int) = m := by
    rw [g2, List.length_nil]
    omega
  refine ⟨g1, by omega, g3, ?_⟩
  rw [hlm]
  exact g4
theorem goL_fwd {rest : List UInt8} : ∀ (l : List OpP) (pre : List UInt8) (acc : List OpP), (∀ o ∈ l, goodP o) → goL (pre ++ l.flatMap opP ++ rest) l.length pre.length acc = some (acc ++ l, (pre ++ l.flatMap opP).length)
  | [], pre, acc, _ => by simp [goL]
  | o :: l, pre, acc, h => by
    obtain ⟨k, t, r, p, z⟩ := o
    obtain ⟨h1, h2, -, -, h5⟩ := h _ List.mem_cons_self
    have hd : (pre ++ ((k, t, r, p, z) :: l).flatMap opP ++ rest).drop pre.length = opB k t r p z ++ (l.flatMap opP ++ rest) := by
      rw [List.append_assoc, List.drop_left, List.flatMap_cons, List.append_assoc]
      rfl
    have hf := getP_fwd (l.flatMap opP ++ rest) h1 h2 h5
    simp only at hf
    rw [List.length_cons]
    unfold goL
    rw [hd, hf]
    simp only
    have ih := goL_fwd (rest := rest) l (pre ++ opB k t r p z) (acc ++ [(k, t, r, p, z)]) fun o ho => h o (List.mem_cons_of_mem _ ho)
    have e1 : pre ++ opB k t r p z ++ l.flatMap opP ++ rest = pre ++ ((k, t, r, p, z) :: l).flatMap opP ++ rest := by
      rw [List.flatMap_cons, List.append_assoc pre]
      rfl
    have e2 : pre ++ opB k t r p z ++ l.flatMap opP = pre ++ ((k, t, r, p, z) :: l).flatMap opP := by
      rw [List.flatMap_cons, List.append_assoc pre]
      rfl
    rw [e1, e2, List.length_append, List.append_assoc acc] at ih
    exact ih
theorem readL_fwd {l : List OpP} (rest : List UInt8) (h : ∀ o ∈ l, goodP o) (hl : l.length ≤ 1024) : readL (nbs [(l.length : Int)] ++ l.flatMap opP ++ rest) = some (l, (nbs [(l.length : Int)] ++ l.flatMap opP).length) := by
  have hn := nxt_fwd (b := nbs [(l.length : Int)] ++ l.flatMap opP ++ rest) (rest := l.flatMap opP ++ rest) (L := []) (M := []) (n := (l.length : Int)) (lo := 0) (hi := 1024) (by simp) (by omega) (by omega) (by omega) (by omega)
  simp only [nbs_nil, List.length_nil, List.nil_append] at hn
  unfold readL
  rw [hn]
  show goL _ (l.length : Int).toNat (nbs [(l.length : Int)]).length [] = _
  rw [Int.toNat_natCast, goL_fwd l (nbs [(l.length : Int)]) [] h, List.nil_append]
theorem op_flat (L : List OpL) : (L.map OpL.op).flatMap opP = L.flatMap opBL := by
  rw [List.flatMap_map]
  rfl
theorem allB_op (L : List OpL) : allB L = nbs [((L.map OpL.op).length : Int)] ++ (L.map OpL.op).flatMap opP := by
  unfold allB
  rw [op_flat, List.length_map]
/-- A list of operations in memory of the call's own. -/
def OO (w : World) (base : Nat) (A : Option Addr) (c : Nat) (L : List OpL) : Prop :=
  w.ownsRow base 115 5 (.slice A L.length c) L.length (opcs L) ∧ ∀ x ∈ L, w.ownsRow base 123 3 (.slice x.A x.p.length x.c) x.p.length (rns x.p)
theorem OO.below {w w' : World} {base c : Nat} {A : Option Addr} {L : List OpL} (h : OO w base A c L) (hb : Below w.heap.size w w') : OO w' base A c L :=
  ⟨own_below h.1 hb (Nat.le_refl _), fun x hx => own_below (h.2 x hx) hb (Nat.le_refl _)⟩
theorem OO.ro {w : World} {base c : Nat} {A : Option Addr} {L : List OpL} (h : OO w base A c L) : RO w w.heap.size A L :=
  ⟨RD.of_own h.1, fun x hx => RR.of_own (h.2 x hx) rfl⟩
theorem OO.nil (w : World) (base : Nat) : OO w base none 0 [] := ⟨World.ownsRow_nil _ _ _ _, fun x hx => by cases hx⟩
theorem opcs_append (L M : List OpL) : opcs (L ++ M) = opcs L ++ opcs M := by simp [opcs]
theorem opcs_one (x : OpL) : opcs [x] = x.cells := by simp [opcs]
theorem cells_one (x : OpL) : ∀ u ∈ x.cells, u.oneCell' = true := by
  intro u hu
  simp only [OpL.cells, List.mem_cons, List.not_mem_nil, or_false] at hu
  rcases hu with rfl | rfl | rfl | rfl | rfl <;> rfl
theorem opinfo : (Try.prog.info? 115).map (fun i => (i.zero, i.size, i.bytes)) = some (some (.agg #[.int .u8 0, .int .u32 0, .int .u8 0, .slice none 0 0, .int .i64 0]), 5, 48) := by kernel_rfl
theorem own_less {w : World} {base B : Nat} {e : TypeId} {size n : Nat} {v : Value} {L : List Value} (h : w.ownsRow base e size v n L) (hB : B ≤ base) : w.ownsRow B e size v n L := by
  refine ⟨h.1, ?_⟩
  rcases h.2 with h0 | ⟨g, cap, cur, h1, h2, h3⟩
  · exact .inl h0
  · exact .inr ⟨g, cap, cur, h1, Nat.le_trans hB h2, h3⟩
theorem own_kept {w w' : World} {base : Nat} {e e' : TypeId} {size n : Nat} {v : Value} {L : List Value} (h : w.ownsRow base e size v n L) (hne : e ≠ e') (hk : ∀ (b : Nat) (o' : Obj), w.heap[b]? = some o' → (∀ cur, o' ≠ .cells cur e' (0, 0)) → w'.heap[b]? = some o') : w'.ownsRow base e size v n L := by
  refine ⟨h.1, ?_⟩
  rcases h.2 with h0 | ⟨g, cap, cur, h1, h2, h3, h4⟩
  · exact .inl h0
  · exact .inr ⟨g, cap, cur, h1, h2, hk g _ h3 (fun cur e => by simp only [Obj.cells.injEq] at e; exact hne e.2.1), h4⟩
end Go.Proofs.Ytmkpfdcnikgokaa
