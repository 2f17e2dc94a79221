/-
  octavoref10.Get in plain words, and that it answers as code.Get does. No program in sight, no condition.
-/
import Derived.Test.YtbjfmkdjnglgbaaCodeMath
namespace Go.Proofs.Ytbjfmkdjnglgbaa

/-- So many numbers that bytes have from a place on. -/
def rdN (b : List UInt8) : Nat → Nat → Option (List Int × Nat)
  | 0, a => some ([], a)
  | m + 1, a => (nxt b a 0 1073741824).bind fun x => (rdN b m x.2).map fun q => (x.1 :: q.1, q.2)
theorem rdN_inv {b : List UInt8} : ∀ (m a : Nat) (L M : List Int) (a' : Nat), a ≤ b.length → b.take a = nbs L → rdN b m a = some (M, a') → b.take a' = nbs (L ++ M) ∧ a ≤ a' ∧ a' ≤ b.length ∧ M.length = m ∧ ∀ x ∈ M, 0 ≤ x ∧ x ≤ 1073741824
  | 0, a, L, M, a', ha, hL, h => by
    simp only [rdN, Option.some.injEq, Prod.mk.injEq] at h
    obtain ⟨rfl, rfl⟩ := h
    exact ⟨by simpa using hL, Nat.le_refl _, ha, rfl, fun x hx => (by cases hx)⟩
  | m + 1, a, L, M, a', ha, hL, h => by
    simp only [rdN, Option.bind_eq_some_iff, Option.map_eq_some_iff] at h
    obtain ⟨⟨x, a1⟩, hx, ⟨q, a2⟩, hq, he⟩ := h
    simp only [Prod.mk.injEq] at hq he
    obtain ⟨rfl, rfl⟩ := he
    obtain ⟨h1, h2, -, -, h5, -, -⟩ := nxt_inv hx
    obtain ⟨t1, l1⟩ := nxt_take hx ha hL
    obtain ⟨g1, g2, g3, g4, g5⟩ := rdN_inv m a1 _ q a2 l1 t1 hq
    refine ⟨by rw [g1]; simp, by omega, g3, by simp [g4], fun y hy => ?_⟩
    rcases List.mem_cons.1 hy with rfl | hy
    · exact ⟨h1, h2⟩
    · exact g5 y hy
theorem rdN_fwd {b rest : List UInt8} : ∀ (M L M' : List Int), (∀ x ∈ M, 0 ≤ x ∧ x ≤ 1073741824) → b = nbs (L ++ (M ++ M')) ++ rest → rdN b M.length (nbs L).length = some (M, (nbs (L ++ M)).length)
  | [], L, M', _, _ => by simp [rdN]
  | x :: M, L, M', h, hb => by
    have hx := h x List.mem_cons_self
    have e1 := nxt_fwd (L := L) (n := x) (M := M ++ M') (lo := 0) (hi := 1073741824) (rest := rest) (b := b) (by rw [hb]; simp) hx.1 hx.1 hx.2 (by omega)
    have e2 := rdN_fwd (b := b) (rest := rest) M (L ++ [x]) M' (fun y hy => h y (List.mem_cons_of_mem _ hy)) (by rw [hb]; simp)
    simp only [List.length_cons, rdN, e1, Option.bind_some, e2, Option.map_some]
    simp
theorem nums_len' : ∀ (p : List Rn) (was : Int), (runNums was p).length = 3 * p.length
  | [], _ => rfl
  | x :: p, was => by simp [runNums, nums_len' p]; omega
/-- Runs of numbers, behind a time. -/
def toRuns : Int → List Int → List Rn
  | was, d :: r :: m :: L => (was + d, r, m) :: toRuns (was + d + m - 1) L
  | _, _ => []
/-- Do they fit? -/
def fitsR : Int → List Int → Prop
  | was, d :: r :: m :: L => 1 ≤ d ∧ 1 ≤ m ∧ m ≤ 4096 ∧ r ≤ 255 ∧ was + d + m - 1 ≤ 1073741824 ∧ fitsR (was + d + m - 1) L
  | _, _ => True
instance decFits : ∀ (was : Int) (L : List Int), Decidable (fitsR was L)
  | was, d :: r :: m :: L => by
    have := decFits (was + d + m - 1) L
    unfold fitsR
    infer_instance
  | _, [] => .isTrue trivial
  | _, [_] => .isTrue trivial
  | _, [_, _] => .isTrue trivial
/-- How many numbers stand behind. -/
def behindN (k : Int) : Nat := if k = 1 then 1 else if k = 2 then 0 else 2
/-- The operation of numbers. -/
def wholeO (k : Int) (L X : List Int) : Int × Int × Int × List Rn × Int :=
  (k, (if 3 ≤ k then wasR 0 (toRuns 0 L) + X.getD 0 0 else wasR 0 (toRuns 0 L)), (if 3 ≤ k then X.getD 1 0 % 256 else ((toRuns 0 L).getLastD (0, 0, 0)).2.1), toRuns 0 L, (if k = 1 then X.getD 0 0 else 0))
/-- The document's operation of bytes. -/
def getQ (b : List UInt8) : Option Rd :=
  (rdN b 2 0).bind fun h => if h.1.getD 0 0 < 1 ∨ 4 < h.1.getD 0 0 ∨ h.1.getD 1 0 < 1 ∨ 64 < h.1.getD 1 0 then none else
    (rdN (b.drop h.2) (3 * h.1.getD 1 0).toNat 0).bind fun l => (rdN (b.drop (h.2 + l.2)) (behindN (h.1.getD 0 0)) 0).bind fun x =>
      if fitsR 0 l.1 then
        (let o := wholeO (h.1.getD 0 0) l.1 x.1
         if mayO o.1 o.2.1 o.2.2.1 o.2.2.2.1 o.2.2.2.2 ∧ opB o.1 o.2.1 o.2.2.1 o.2.2.2.1 o.2.2.2.2 = b.take (h.2 + l.2 + x.2) then some (o.1, o.2.1, o.2.2.1, o.2.2.2.1, o.2.2.2.2, h.2 + l.2 + x.2) else none)
      else none
theorem toRuns_nums : ∀ (p : List Rn) (was : Int), toRuns was (runNums was p) = p
  | [], _ => rfl
  | x :: p, was => by
    simp only [runNums, toRuns]
    rw [show was + (x.1 - was) = x.1 by omega, toRuns_nums p]
theorem fits_good : ∀ (p : List Rn) (was : Int), goodR was p → fitsR was (runNums was p)
  | [], _, _ => trivial
  | x :: p, was, h => by
    obtain ⟨h1, h2, h3, h4, h5, h6, h7, h8⟩ := h
    simp only [runNums, fitsR]
    rw [show was + (x.1 - was) = x.1 by omega]
    exact ⟨h1, h5, h6, by omega, h7, fits_good p _ h8⟩
theorem fits_ok : ∀ (L : List Int) (was : Int), 0 ≤ was → (∀ x ∈ L, 0 ≤ x) → fitsR was L → ∀ x ∈ toRuns was L, okR x
  | was, w, h0, hL, hf => by
    match was, hL, hf with
    | d :: r :: m :: L, hL, hf =>
      obtain ⟨h1, h2, h3, h4, h5, h6⟩ := hf
      have hr := hL r (by simp)
      intro x hx
      simp only [toRuns, List.mem_cons] at hx
      rcases hx with rfl | hx
      · exact ⟨by simp only; omega, by simp only; omega, by simp only; omega, by simp only; omega, by simp only; omega, by simp only; omega⟩
      · exact fits_ok L (w + d + m - 1) (by omega) (fun y hy => hL y (by simp [hy])) h6 x hx
    | [], _, _ => intro x hx; simp [toRuns] at hx
    | [_], _, _ => intro x hx; simp [toRuns] at hx
    | [_, _], _, _ => intro x hx; simp [toRuns] at hx
theorem toRuns_len : ∀ (L : List Int) (was : Int) (m : Nat), L.length = 3 * m → (toRuns was L).length = m
  | [], _, m, h => by simp at h; simp [toRuns]; omega
  | [_], _, m, h => by simp at h; omega
  | [_, _], _, m, h => by simp at h; omega
  | d :: r :: x :: L, was, m, h => by
    cases m with
    | zero => simp at h
    | succ m =>
      simp only [toRuns, List.length_cons]
      rw [toRuns_len L _ m (by simp at h; omega)]
theorem last_pair {p : List Rn} (hp : mayR p) : lastR p = (wasR 0 p, (p.getLastD (0, 0, 0)).2.1) := by
  have hne : p ≠ [] := fun e => by rw [e] at hp; have := hp.1; simp at this
  obtain ⟨q, x, rfl⟩ : ∃ q x, p = q ++ [x] := ⟨p.dropLast, p.getLast hne, (List.dropLast_concat_getLast hne).symm⟩
  rw [lastR_snoc q x hp, wasR_append]
  simp [wasR, rend]
theorem getQ_of {b : List UInt8} {k t r : Int} {p : List Rn} {z : Int} (rest : List UInt8) (hb : b = opB k t r p z ++ rest) (h : mayO k t r p z) (ho : ∀ x ∈ p, okR x) (hr0 : 0 ≤ r) : getQ b = some (k, t, r, p, z, (opB k t r p z).length) := by
  have hp := h.2.1
  have hg := may_good hp ho
  have hl := last_pair hp
  have h1 := hp.1
  have h2 := hp.2.1
  obtain ⟨hi1, hi2, hi3⟩ := h.1
  have hw := lastR_was hp 0
  have hpos := mayR_last_pos hp
  have hk : 1 ≤ k ∧ k ≤ 4 := by
    have := h.2.2
    unfold rightO at this
    omega
  have hop : opB k t r p z = nbs [k, (p.length : Int)] ++ (nbs (runNums 0 p) ++ nbs (tailNums k t r (wasR 0 p) z)) := by
    rw [← nbs_append, ← nbs_append]
    rfl
  have htail : ∀ x ∈ tailNums k t r (wasR 0 p) z, 0 ≤ x ∧ x ≤ 1073741824 := by
    intro a ha
    unfold tailNums at ha
    rcases h.2.2 with ⟨g1, -, g3⟩ | ⟨g1, -, -⟩ | ⟨g1, -, g3⟩
    · rw [if_pos g1] at ha
      simp only [List.mem_singleton] at ha
      subst ha
      have := g3.1
      have := g3.2.1
      omega
    · rw [if_neg (by omega), if_pos g1] at ha
      cases ha
    · rw [if_neg (by omega), if_neg (by omega)] at ha
      simp only [List.mem_cons, List.not_mem_nil, or_false] at ha
      omega
  have e1 := rdN_fwd (b := b) (rest := rest) [k, (p.length : Int)] [] (runNums 0 p ++ tailNums k t r (wasR 0 p) z) (by intro x hx; simp only [List.mem_cons, List.not_mem_nil, or_false] at hx; omega) (by rw [hb]; rfl)
  have e1' : rdN b 2 0 = some ([k, (p.length : Int)], (nbs [k, (p.length : Int)]).length) := e1
  have d1 : b.drop (nbs [k, (p.length : Int)]).length = nbs ([] ++ (runNums 0 p ++ tailNums k t r (wasR 0 p) z)) ++ rest := by
    rw [hb, hop, List.append_assoc, List.drop_left, List.nil_append, nbs_append]
  have e2 := rdN_fwd (rest := rest) (runNums 0 p) [] (tailNums k t r (wasR 0 p) z) (good_nums p 0 hg) d1
  have hlen : (runNums 0 p).length = (3 * (p.length : Int)).toNat := by rw [nums_len']; omega
  rw [hlen] at e2
  have e2' : rdN (b.drop (nbs [k, (p.length : Int)]).length) (3 * (p.length : Int)).toNat 0 = some (runNums 0 p, (nbs (runNums 0 p)).length) := e2
  have d2 : b.drop ((nbs [k, (p.length : Int)]).length + (nbs (runNums 0 p)).length) = nbs ([] ++ (tailNums k t r (wasR 0 p) z ++ [])) ++ rest := by
    rw [← List.drop_drop, d1, List.nil_append, nbs_append, List.append_assoc, List.drop_left]
    simp
  have e3 := rdN_fwd (rest := rest) (tailNums k t r (wasR 0 p) z) [] [] htail d2
  have hbl : (tailNums k t r (wasR 0 p) z).length = behindN k := by
    unfold tailNums behindN
    split
    · rfl
    · split <;> rfl
  rw [hbl] at e3
  have e3' : rdN (b.drop ((nbs [k, (p.length : Int)]).length + (nbs (runNums 0 p)).length)) (behindN k) 0 = some (tailNums k t r (wasR 0 p) z, (nbs (tailNums k t r (wasR 0 p) z)).length) := e3
  have hn : (nbs [k, (p.length : Int)]).length + (nbs (runNums 0 p)).length + (nbs (tailNums k t r (wasR 0 p) z)).length = (opB k t r p z).length := by
    rw [hop, List.length_append, List.length_append]
    omega
  have hwh : wholeO k (runNums 0 p) (tailNums k t r (wasR 0 p) z) = (k, t, r, p, z) := by
    unfold wholeO
    rw [toRuns_nums]
    rcases h.2.2 with ⟨rfl, g2, g3⟩ | ⟨rfl, g2, rfl⟩ | ⟨g1, rfl, g3⟩
    · rw [hl] at g2
      simp only [Prod.mk.injEq] at g2
      have q2 := g2.2
      rw [List.getLastD_eq_getLast?] at q2
      simp [tailNums, g2.1, q2]
    · rw [hl] at g2
      simp only [Prod.mk.injEq] at g2
      have q2 := g2.2
      rw [List.getLastD_eq_getLast?] at q2
      simp [g2.1, q2]
    · have hk3 : 3 ≤ k := by omega
      have htn : tailNums k t r (wasR 0 p) 0 = [t - wasR 0 p, r] := by unfold tailNums; rw [if_neg (by omega), if_neg (by omega)]
      rw [htn, if_pos hk3, if_pos hk3, if_neg (by omega)]
      simp only [List.getD_cons_zero, List.getD_cons_succ, Prod.mk.injEq, true_and, and_true]
      omega
  have hf := fits_good p 0 hg
  unfold getQ
  rw [e1']
  simp only [Option.bind_some, List.getD_cons_zero, List.getD_cons_succ]
  rw [if_neg (by omega), e2']
  simp only [Option.bind_some]
  rw [e3']
  simp only [Option.bind_some]
  rw [if_pos hf, hwh]
  simp only
  rw [hn, if_pos ⟨h, by rw [hb, List.take_left]⟩]
theorem getQ_eq (b : List UInt8) (hpos : ∀ k t r p z n, getP b = some (k, t, r, p, z, n) → 0 ≤ r) : getQ b = getP b := by
  cases hg : getP b with
  | some o =>
    obtain ⟨k, t, r, p, z, n⟩ := o
    obtain ⟨h1, h2, h3, h4, -, -⟩ := getP_inv hg
    have hn : (opB k t r p z).length = n := by rw [← h2, List.length_take]; omega
    have := getQ_of (b := b) (b.drop n) (by rw [← h2, List.take_append_drop]) h1 h4 (hpos k t r p z n hg)
    rw [this, hn]
  | none =>
    cases hq : getQ b with
    | none => rfl
    | some o =>
      exfalso
      simp only [getQ, Option.bind_eq_some_iff] at hq
      obtain ⟨⟨H, a1⟩, hH, hq⟩ := hq
      simp only at hq
      split at hq
      · cases hq
      rename_i hc
      simp only [Option.bind_eq_some_iff] at hq
      obtain ⟨⟨L, a2⟩, hL, ⟨X, a3⟩, hX, hq⟩ := hq
      simp only at hL hX hq
      split at hq
      · rename_i hf
        split at hq
        · rename_i hm
          obtain ⟨hm, hob⟩ := hm
          obtain ⟨i1, i2, i3, -, -⟩ := rdN_inv 2 0 [] H a1 (Nat.zero_le _) (by simp [nbs]) hH
          obtain ⟨j1, j2, j3, j4, j5⟩ := rdN_inv _ 0 [] L a2 (Nat.zero_le _) (by simp [nbs]) hL
          obtain ⟨l1, l2, l3, l4, l5⟩ := rdN_inv _ 0 [] X a3 (Nat.zero_le _) (by simp [nbs]) hX
          rw [List.length_drop] at j3 l3
          have hok := fits_ok L 0 (Int.le_refl _) (fun x hx => (j5 x hx).1) hf
          have hr0 : 0 ≤ (wholeO (H.getD 0 0) L X).2.2.1 := by
            unfold wholeO
            simp only
            split
            · omega
            · have hne : toRuns 0 L ≠ [] := fun e => by have := hm.2.1.1; simp [wholeO, e] at this
              have hmem : (toRuns 0 L).getLastD (0, 0, 0) ∈ toRuns 0 L := by
                rw [List.getLastD_eq_getLast?, List.getLast?_eq_some_getLast hne]
                exact List.getLast_mem hne
              have := hok _ hmem
              unfold okR at this
              omega
          have e := getP_fwd (b.drop (a1 + a2 + a3)) hm hok hr0
          rw [hob, List.take_append_drop, hg] at e
          cases e
        · cases hq
      · cases hq
end Go.Proofs.Ytbjfmkdjnglgbaa
