/-
  What StampNext's own copy, its call of Next and its box leave, in any order. Condition: parts of their types.
-/
import Derived.Test.YtllmlnbgfikeaaaStampNames
import Derived.Test.YtllmlnbgfikeaaaStepAppend
import Derived.Test.YtllmlnbgfikeaaaInv
import Derived.Maps.AppendAt
namespace Go.Proofs.Ytllmlnbgfikeaaa
open Go.RowKit

section
variable {P : Program} (w : World)
theorem run_append_src2 (base : Nat) (t ty e : TypeId) (i : TypeInfo) (z : Value) (size bytes : Nat) (ht : P.underlying t = some (.slice e)) (hi : P.info? e = some i) (hz : i.zero = some z)
    (hsize : i.size = size) (hby : i.bytes = bytes) (hzs : z.cells.size = size) (hsz : 0 < size)
    (v : Value) (n : Nat) (xs : List Value) (hown : w.ownsRow base e size v n xs)
    (B : Nat) (A : Option Addr) (m c : Nat) (news : List Value) (hr : RD w B size A m news) (h1 : ∀ u ∈ news, u.oneCell' = true)
    (h63 : n + m ≤ maxLen) (hbytes : (n + m) * bytes ≤ 140737488355328) (hbase : base ≤ w.heap.size) :
    ∃ v' w', (Builtin.append_ #[t, t] ty #[v, .slice A m c]).run P w = .ok v' w' ∧ w'.ownsRow base e size v' (n + m) (xs ++ news) ∧ w.grownBy w' v.ownBlock ∧ (v'.ownBlock = v.ownBlock ∨ v'.ownBlock = some w.heap.size) := by
  rcases A with _ | ad
  · have hm : m = 0 := by
      rcases Nat.eq_zero_or_pos m with h0 | h0
      · exact h0
      · obtain ⟨b, off, h, _⟩ := hr.2 h0
        cases h
    subst hm
    have hn : news = [] := List.eq_nil_of_length_eq_zero (by simpa using hr.1)
    subst hn
    exact ⟨v, w, run_append_zero w base t ty e i size ht hi v n xs hown c, by simpa using hown, World.grownBy.refl w _, .inl rfl⟩
  · have hcells : ∀ j u, news[j]? = some u → w.cell? (ad.add j) = some u := by
      intro j u hu
      rcases Nat.eq_zero_or_pos m with h0 | h0
      · subst h0
        have hn : news = [] := List.eq_nil_of_length_eq_zero (by simpa using hr.1)
        subst hn
        simp at hu
      · obtain ⟨b, off, h, _, hc⟩ := hr.2 h0
        injection h with h
        subst h
        rw [add_none]
        exact hc j u hu
    obtain ⟨v', w', hrun, h2, h3, _, h4⟩ := run_append_own_at (P := P) w base t ty e i z size bytes ht hi hz hsize hby hzs hsz v n xs hown ad m c news hr.1 hcells h1 h63 hbytes hbase
    exact ⟨v', w', hrun, h2, h3, h4⟩
end

/-- What holds in the middle of the region. -/
structure SI (w0 : World) (n : Nat) (l : List (Int × Int)) (t s t' s' : Int) (V0 V2 V4 TU G9 E9 : Value) (done : Nat → Bool) (ρ : Nat → Value) (w : World) : Prop where
  b : Below w0.heap.size w0 w
  p0 : done 0 = true → ρ 61 = V0
  p2 : done 2 = true → ρ 63 = V2
  p4 : done 4 = true → ρ 65 = V4
  p7 : done 7 = true → ρ 68 = TU
  p8 : done 8 = true → ρ 60 = TU
  p9 : done 9 = true → ρ 69 = G9
  p10 : done 10 = true → ρ 70 = E9
  p13 : done 13 = true → ρ 11 = E9
  m1 : done 1 = true → done 3 = false → ∃ g, ρ 62 = .slice (some ⟨g, 0, none⟩) 0 0 ∧ w0.heap.size ≤ g ∧ w.heap[g]? = some (.cells #[] 31 (0, 0))
  m5 : done 5 = true → done 6 = false → ∃ g, ρ 66 = .slice (some ⟨g, 0, none⟩) 1 1 ∧ w0.heap.size ≤ g ∧ w.heap[g]? = some (.cells #[.int .u32 t, .int .u8 s] 31 (0, 0))
  m3 : done 3 = true → done 6 = false → ∃ A c, ρ 64 = .slice A n c ∧ w.ownsRow w0.heap.size 31 2 (.slice A n c) n (ids l)
  m6 : done 6 = true → done 7 = false → ∃ A c, ρ 67 = .slice A (n + 1) c ∧ w.ownsRow w0.heap.size 31 2 (.slice A (n + 1) c) (n + 1) (ids (l ++ [(t, s)]))
  mB : done 11 = true → done 12 = false → ∃ g, ρ 10 = .pointer (some ⟨g, 0, none⟩) ∧ w0.heap.size ≤ g ∧ (∃ x y, w.heap[g]? = some (.cells #[x, y] 31 (0, 0))) ∧ (done 3 = true → done 6 = false → (ρ 64).ownBlock ≠ some g)
  mS : done 12 = true → ∃ g, ρ 10 = .pointer (some ⟨g, 0, none⟩) ∧ w0.heap.size ≤ g ∧ w.heap[g]? = some (.cells #[.int .u32 t', .int .u8 s'] 31 (0, 0))
  z6 : done 6 = true → done 3 = true ∧ done 5 = true
  z7 : done 7 = true → done 6 = true
  z8 : done 8 = true → done 7 = true
  z9 : done 9 = true → done 8 = true
  z12 : done 12 = true → done 9 = true ∧ done 11 = true

theorem SI.keep {w0 : World} {n : Nat} {l : List (Int × Int)} {t s t' s' : Int} {V0 V2 V4 TU G9 E9 : Value} {done : Nat → Bool} {ρ : Nat → Value} {w : World} (h : SI w0 n l t s t' s' V0 V2 V4 TU G9 E9 done ρ w) {w' : World} (hb : Below w.heap.size w w') : SI w0 n l t s t' s' V0 V2 V4 TU G9 E9 done ρ w' :=
  { h with
    b := h.b.trans (hb.mono h.b.size)
    m1 := fun a b => by
      obtain ⟨g, h1, h2, h3⟩ := h.m1 a b
      exact ⟨g, h1, h2, (hb.block g (Array.getElem?_eq_some_iff.1 h3).1).trans h3⟩
    m5 := fun a b => by
      obtain ⟨g, h1, h2, h3⟩ := h.m5 a b
      exact ⟨g, h1, h2, (hb.block g (Array.getElem?_eq_some_iff.1 h3).1).trans h3⟩
    m3 := fun a b => by
      obtain ⟨A, c, h1, h2⟩ := h.m3 a b
      exact ⟨A, c, h1, own_below h2 hb (Nat.le_refl _)⟩
    m6 := fun a b => by
      obtain ⟨A, c, h1, h2⟩ := h.m6 a b
      exact ⟨A, c, h1, own_below h2 hb (Nat.le_refl _)⟩
    mB := fun a b => by
      obtain ⟨g, h1, h2, ⟨x, y, h3⟩, h4⟩ := h.mB a b
      exact ⟨g, h1, h2, ⟨x, y, (hb.block g (Array.getElem?_eq_some_iff.1 h3).1).trans h3⟩, h4⟩
    mS := fun a => by
      obtain ⟨g, h1, h2, h3⟩ := h.mS a
      exact ⟨g, h1, h2, (hb.block g (Array.getElem?_eq_some_iff.1 h3).1).trans h3⟩ }
theorem upd_ne {done : Nat → Bool} {i j : Nat} (h : j ≠ i) : upd done i j = done j := by simp [upd, h]
theorem upd_eq {done : Nat → Bool} {i : Nat} : upd done i i = true := by simp [upd]
theorem put_ne {ρ : Nat → Value} {d s : Nat} {v : Value} (h : s ≠ d) : putS ρ (some d) v s = ρ s := by simp [putS, h]
theorem put_eq {ρ : Nat → Value} {d : Nat} {v : Value} : putS ρ (some d) v d = v := by simp [putS]
theorem put_no {ρ : Nat → Value} {v : Value} {s : Nat} : putS ρ none v s = ρ s := rfl
theorem si_step0 {w0 : World} {n : Nat} {l : List (Int × Int)} {t s t' s' : Int} {V0 V2 V4 TU G9 E9 : Value} {done : Nat → Bool} {ρ : Nat → Value} {w : World} (h : SI w0 n l t s t' s' V0 V2 V4 TU G9 E9 done ρ w) : SI w0 n l t s t' s' V0 V2 V4 TU G9 E9 (upd done 0) (putS ρ (some 61) V0) w :=
  { b := h.b
    p0 := fun _ => put_eq
    p2 := fun a => by
      rw [upd_ne (by decide)] at a
      first | rw [put_ne (by decide)] | rw [put_no]
      exact h.p2 a
    p4 := fun a => by
      rw [upd_ne (by decide)] at a
      first | rw [put_ne (by decide)] | rw [put_no]
      exact h.p4 a
    p7 := fun a => by
      rw [upd_ne (by decide)] at a
      first | rw [put_ne (by decide)] | rw [put_no]
      exact h.p7 a
    p8 := fun a => by
      rw [upd_ne (by decide)] at a
      first | rw [put_ne (by decide)] | rw [put_no]
      exact h.p8 a
    p9 := fun a => by
      rw [upd_ne (by decide)] at a
      first | rw [put_ne (by decide)] | rw [put_no]
      exact h.p9 a
    p10 := fun a => by
      rw [upd_ne (by decide)] at a
      first | rw [put_ne (by decide)] | rw [put_no]
      exact h.p10 a
    p13 := fun a => by
      rw [upd_ne (by decide)] at a
      first | rw [put_ne (by decide)] | rw [put_no]
      exact h.p13 a
    m1 := fun a b => by
      rw [upd_ne (by decide)] at a b
      first | rw [put_ne (by decide)] | rw [put_no]
      exact h.m1 a b
    m5 := fun a b => by
      rw [upd_ne (by decide)] at a b
      first | rw [put_ne (by decide)] | rw [put_no]
      exact h.m5 a b
    m3 := fun a b => by
      rw [upd_ne (by decide)] at a b
      first | rw [put_ne (by decide)] | rw [put_no]
      exact h.m3 a b
    m6 := fun a b => by
      rw [upd_ne (by decide)] at a b
      first | rw [put_ne (by decide)] | rw [put_no]
      exact h.m6 a b
    mB := fun a b => by
      rw [upd_ne (by decide)] at a b
      obtain ⟨g, h1, h2, h3, h4⟩ := h.mB a b
      refine ⟨g, ?_, h2, h3, fun c e => ?_⟩
      · first | rw [put_ne (by decide)] | rw [put_no]
        exact h1
      · rw [upd_ne (by decide)] at c e
        first | rw [put_ne (by decide)] | rw [put_no]
        exact h4 c e
    mS := fun a => by
      rw [upd_ne (by decide)] at a
      obtain ⟨g, h1, h2⟩ := h.mS a
      refine ⟨g, ?_, h2⟩
      first | rw [put_ne (by decide)] | rw [put_no]
      exact h1
    z6 := fun a => by
      rw [upd_ne (by decide)] at a
      have q := h.z6 a
      exact ⟨(upd_ne (by decide)).trans q.1, (upd_ne (by decide)).trans q.2⟩
    z7 := fun a => by
      rw [upd_ne (by decide)] at a
      have q := h.z7 a
      exact (upd_ne (by decide)).trans q
    z8 := fun a => by
      rw [upd_ne (by decide)] at a
      have q := h.z8 a
      exact (upd_ne (by decide)).trans q
    z9 := fun a => by
      rw [upd_ne (by decide)] at a
      have q := h.z9 a
      exact (upd_ne (by decide)).trans q
    z12 := fun a => by
      rw [upd_ne (by decide)] at a
      have q := h.z12 a
      exact ⟨(upd_ne (by decide)).trans q.1, (upd_ne (by decide)).trans q.2⟩ }
theorem si_step2 {w0 : World} {n : Nat} {l : List (Int × Int)} {t s t' s' : Int} {V0 V2 V4 TU G9 E9 : Value} {done : Nat → Bool} {ρ : Nat → Value} {w : World} (h : SI w0 n l t s t' s' V0 V2 V4 TU G9 E9 done ρ w) : SI w0 n l t s t' s' V0 V2 V4 TU G9 E9 (upd done 2) (putS ρ (some 63) V2) w :=
  { b := h.b
    p0 := fun a => by
      rw [upd_ne (by decide)] at a
      first | rw [put_ne (by decide)] | rw [put_no]
      exact h.p0 a
    p2 := fun _ => put_eq
    p4 := fun a => by
      rw [upd_ne (by decide)] at a
      first | rw [put_ne (by decide)] | rw [put_no]
      exact h.p4 a
    p7 := fun a => by
      rw [upd_ne (by decide)] at a
      first | rw [put_ne (by decide)] | rw [put_no]
      exact h.p7 a
    p8 := fun a => by
      rw [upd_ne (by decide)] at a
      first | rw [put_ne (by decide)] | rw [put_no]
      exact h.p8 a
    p9 := fun a => by
      rw [upd_ne (by decide)] at a
      first | rw [put_ne (by decide)] | rw [put_no]
      exact h.p9 a
    p10 := fun a => by
      rw [upd_ne (by decide)] at a
      first | rw [put_ne (by decide)] | rw [put_no]
      exact h.p10 a
    p13 := fun a => by
      rw [upd_ne (by decide)] at a
      first | rw [put_ne (by decide)] | rw [put_no]
      exact h.p13 a
    m1 := fun a b => by
      rw [upd_ne (by decide)] at a b
      first | rw [put_ne (by decide)] | rw [put_no]
      exact h.m1 a b
    m5 := fun a b => by
      rw [upd_ne (by decide)] at a b
      first | rw [put_ne (by decide)] | rw [put_no]
      exact h.m5 a b
    m3 := fun a b => by
      rw [upd_ne (by decide)] at a b
      first | rw [put_ne (by decide)] | rw [put_no]
      exact h.m3 a b
    m6 := fun a b => by
      rw [upd_ne (by decide)] at a b
      first | rw [put_ne (by decide)] | rw [put_no]
      exact h.m6 a b
    mB := fun a b => by
      rw [upd_ne (by decide)] at a b
      obtain ⟨g, h1, h2, h3, h4⟩ := h.mB a b
      refine ⟨g, ?_, h2, h3, fun c e => ?_⟩
      · first | rw [put_ne (by decide)] | rw [put_no]
        exact h1
      · rw [upd_ne (by decide)] at c e
        first | rw [put_ne (by decide)] | rw [put_no]
        exact h4 c e
    mS := fun a => by
      rw [upd_ne (by decide)] at a
      obtain ⟨g, h1, h2⟩ := h.mS a
      refine ⟨g, ?_, h2⟩
      first | rw [put_ne (by decide)] | rw [put_no]
      exact h1
    z6 := fun a => by
      rw [upd_ne (by decide)] at a
      have q := h.z6 a
      exact ⟨(upd_ne (by decide)).trans q.1, (upd_ne (by decide)).trans q.2⟩
    z7 := fun a => by
      rw [upd_ne (by decide)] at a
      have q := h.z7 a
      exact (upd_ne (by decide)).trans q
    z8 := fun a => by
      rw [upd_ne (by decide)] at a
      have q := h.z8 a
      exact (upd_ne (by decide)).trans q
    z9 := fun a => by
      rw [upd_ne (by decide)] at a
      have q := h.z9 a
      exact (upd_ne (by decide)).trans q
    z12 := fun a => by
      rw [upd_ne (by decide)] at a
      have q := h.z12 a
      exact ⟨(upd_ne (by decide)).trans q.1, (upd_ne (by decide)).trans q.2⟩ }
theorem si_step4 {w0 : World} {n : Nat} {l : List (Int × Int)} {t s t' s' : Int} {V0 V2 V4 TU G9 E9 : Value} {done : Nat → Bool} {ρ : Nat → Value} {w : World} (h : SI w0 n l t s t' s' V0 V2 V4 TU G9 E9 done ρ w) : SI w0 n l t s t' s' V0 V2 V4 TU G9 E9 (upd done 4) (putS ρ (some 65) V4) w :=
  { b := h.b
    p0 := fun a => by
      rw [upd_ne (by decide)] at a
      first | rw [put_ne (by decide)] | rw [put_no]
      exact h.p0 a
    p2 := fun a => by
      rw [upd_ne (by decide)] at a
      first | rw [put_ne (by decide)] | rw [put_no]
      exact h.p2 a
    p4 := fun _ => put_eq
    p7 := fun a => by
      rw [upd_ne (by decide)] at a
      first | rw [put_ne (by decide)] | rw [put_no]
      exact h.p7 a
    p8 := fun a => by
      rw [upd_ne (by decide)] at a
      first | rw [put_ne (by decide)] | rw [put_no]
      exact h.p8 a
    p9 := fun a => by
      rw [upd_ne (by decide)] at a
      first | rw [put_ne (by decide)] | rw [put_no]
      exact h.p9 a
    p10 := fun a => by
      rw [upd_ne (by decide)] at a
      first | rw [put_ne (by decide)] | rw [put_no]
      exact h.p10 a
    p13 := fun a => by
      rw [upd_ne (by decide)] at a
      first | rw [put_ne (by decide)] | rw [put_no]
      exact h.p13 a
    m1 := fun a b => by
      rw [upd_ne (by decide)] at a b
      first | rw [put_ne (by decide)] | rw [put_no]
      exact h.m1 a b
    m5 := fun a b => by
      rw [upd_ne (by decide)] at a b
      first | rw [put_ne (by decide)] | rw [put_no]
      exact h.m5 a b
    m3 := fun a b => by
      rw [upd_ne (by decide)] at a b
      first | rw [put_ne (by decide)] | rw [put_no]
      exact h.m3 a b
    m6 := fun a b => by
      rw [upd_ne (by decide)] at a b
      first | rw [put_ne (by decide)] | rw [put_no]
      exact h.m6 a b
    mB := fun a b => by
      rw [upd_ne (by decide)] at a b
      obtain ⟨g, h1, h2, h3, h4⟩ := h.mB a b
      refine ⟨g, ?_, h2, h3, fun c e => ?_⟩
      · first | rw [put_ne (by decide)] | rw [put_no]
        exact h1
      · rw [upd_ne (by decide)] at c e
        first | rw [put_ne (by decide)] | rw [put_no]
        exact h4 c e
    mS := fun a => by
      rw [upd_ne (by decide)] at a
      obtain ⟨g, h1, h2⟩ := h.mS a
      refine ⟨g, ?_, h2⟩
      first | rw [put_ne (by decide)] | rw [put_no]
      exact h1
    z6 := fun a => by
      rw [upd_ne (by decide)] at a
      have q := h.z6 a
      exact ⟨(upd_ne (by decide)).trans q.1, (upd_ne (by decide)).trans q.2⟩
    z7 := fun a => by
      rw [upd_ne (by decide)] at a
      have q := h.z7 a
      exact (upd_ne (by decide)).trans q
    z8 := fun a => by
      rw [upd_ne (by decide)] at a
      have q := h.z8 a
      exact (upd_ne (by decide)).trans q
    z9 := fun a => by
      rw [upd_ne (by decide)] at a
      have q := h.z9 a
      exact (upd_ne (by decide)).trans q
    z12 := fun a => by
      rw [upd_ne (by decide)] at a
      have q := h.z12 a
      exact ⟨(upd_ne (by decide)).trans q.1, (upd_ne (by decide)).trans q.2⟩ }
theorem si_step7 {w0 : World} {n : Nat} {l : List (Int × Int)} {t s t' s' : Int} {V0 V2 V4 TU G9 E9 : Value} {done : Nat → Bool} {ρ : Nat → Value} {w : World} (h : SI w0 n l t s t' s' V0 V2 V4 TU G9 E9 done ρ w) (hd : done 6 = true) : SI w0 n l t s t' s' V0 V2 V4 TU G9 E9 (upd done 7) (putS ρ (some 68) TU) w :=
  { b := h.b
    p0 := fun a => by
      rw [upd_ne (by decide)] at a
      first | rw [put_ne (by decide)] | rw [put_no]
      exact h.p0 a
    p2 := fun a => by
      rw [upd_ne (by decide)] at a
      first | rw [put_ne (by decide)] | rw [put_no]
      exact h.p2 a
    p4 := fun a => by
      rw [upd_ne (by decide)] at a
      first | rw [put_ne (by decide)] | rw [put_no]
      exact h.p4 a
    p7 := fun _ => put_eq
    p8 := fun a => by
      rw [upd_ne (by decide)] at a
      first | rw [put_ne (by decide)] | rw [put_no]
      exact h.p8 a
    p9 := fun a => by
      rw [upd_ne (by decide)] at a
      first | rw [put_ne (by decide)] | rw [put_no]
      exact h.p9 a
    p10 := fun a => by
      rw [upd_ne (by decide)] at a
      first | rw [put_ne (by decide)] | rw [put_no]
      exact h.p10 a
    p13 := fun a => by
      rw [upd_ne (by decide)] at a
      first | rw [put_ne (by decide)] | rw [put_no]
      exact h.p13 a
    m1 := fun a b => by
      rw [upd_ne (by decide)] at a b
      first | rw [put_ne (by decide)] | rw [put_no]
      exact h.m1 a b
    m5 := fun a b => by
      rw [upd_ne (by decide)] at a b
      first | rw [put_ne (by decide)] | rw [put_no]
      exact h.m5 a b
    m3 := fun a b => by
      rw [upd_ne (by decide)] at a b
      first | rw [put_ne (by decide)] | rw [put_no]
      exact h.m3 a b
    m6 := fun _ b => by
      rw [upd_eq] at b
      cases b
    mB := fun a b => by
      rw [upd_ne (by decide)] at a b
      obtain ⟨g, h1, h2, h3, h4⟩ := h.mB a b
      refine ⟨g, ?_, h2, h3, fun c e => ?_⟩
      · first | rw [put_ne (by decide)] | rw [put_no]
        exact h1
      · rw [upd_ne (by decide)] at c e
        first | rw [put_ne (by decide)] | rw [put_no]
        exact h4 c e
    mS := fun a => by
      rw [upd_ne (by decide)] at a
      obtain ⟨g, h1, h2⟩ := h.mS a
      refine ⟨g, ?_, h2⟩
      first | rw [put_ne (by decide)] | rw [put_no]
      exact h1
    z6 := fun a => by
      rw [upd_ne (by decide)] at a
      have q := h.z6 a
      exact ⟨(upd_ne (by decide)).trans q.1, (upd_ne (by decide)).trans q.2⟩
    z7 := fun _ => (upd_ne (by decide)).trans hd
    z8 := fun a => by
      rw [upd_ne (by decide)] at a
      have q := h.z8 a
      exact upd_eq
    z9 := fun a => by
      rw [upd_ne (by decide)] at a
      have q := h.z9 a
      exact (upd_ne (by decide)).trans q
    z12 := fun a => by
      rw [upd_ne (by decide)] at a
      have q := h.z12 a
      exact ⟨(upd_ne (by decide)).trans q.1, (upd_ne (by decide)).trans q.2⟩ }
theorem si_step8 {w0 : World} {n : Nat} {l : List (Int × Int)} {t s t' s' : Int} {V0 V2 V4 TU G9 E9 : Value} {done : Nat → Bool} {ρ : Nat → Value} {w : World} (h : SI w0 n l t s t' s' V0 V2 V4 TU G9 E9 done ρ w) (hd : done 7 = true) : SI w0 n l t s t' s' V0 V2 V4 TU G9 E9 (upd done 8) (putS ρ (some 60) TU) w :=
  { b := h.b
    p0 := fun a => by
      rw [upd_ne (by decide)] at a
      first | rw [put_ne (by decide)] | rw [put_no]
      exact h.p0 a
    p2 := fun a => by
      rw [upd_ne (by decide)] at a
      first | rw [put_ne (by decide)] | rw [put_no]
      exact h.p2 a
    p4 := fun a => by
      rw [upd_ne (by decide)] at a
      first | rw [put_ne (by decide)] | rw [put_no]
      exact h.p4 a
    p7 := fun a => by
      rw [upd_ne (by decide)] at a
      first | rw [put_ne (by decide)] | rw [put_no]
      exact h.p7 a
    p8 := fun _ => put_eq
    p9 := fun a => by
      rw [upd_ne (by decide)] at a
      first | rw [put_ne (by decide)] | rw [put_no]
      exact h.p9 a
    p10 := fun a => by
      rw [upd_ne (by decide)] at a
      first | rw [put_ne (by decide)] | rw [put_no]
      exact h.p10 a
    p13 := fun a => by
      rw [upd_ne (by decide)] at a
      first | rw [put_ne (by decide)] | rw [put_no]
      exact h.p13 a
    m1 := fun a b => by
      rw [upd_ne (by decide)] at a b
      first | rw [put_ne (by decide)] | rw [put_no]
      exact h.m1 a b
    m5 := fun a b => by
      rw [upd_ne (by decide)] at a b
      first | rw [put_ne (by decide)] | rw [put_no]
      exact h.m5 a b
    m3 := fun a b => by
      rw [upd_ne (by decide)] at a b
      first | rw [put_ne (by decide)] | rw [put_no]
      exact h.m3 a b
    m6 := fun a b => by
      rw [upd_ne (by decide)] at a b
      first | rw [put_ne (by decide)] | rw [put_no]
      exact h.m6 a b
    mB := fun a b => by
      rw [upd_ne (by decide)] at a b
      obtain ⟨g, h1, h2, h3, h4⟩ := h.mB a b
      refine ⟨g, ?_, h2, h3, fun c e => ?_⟩
      · first | rw [put_ne (by decide)] | rw [put_no]
        exact h1
      · rw [upd_ne (by decide)] at c e
        first | rw [put_ne (by decide)] | rw [put_no]
        exact h4 c e
    mS := fun a => by
      rw [upd_ne (by decide)] at a
      obtain ⟨g, h1, h2⟩ := h.mS a
      refine ⟨g, ?_, h2⟩
      first | rw [put_ne (by decide)] | rw [put_no]
      exact h1
    z6 := fun a => by
      rw [upd_ne (by decide)] at a
      have q := h.z6 a
      exact ⟨(upd_ne (by decide)).trans q.1, (upd_ne (by decide)).trans q.2⟩
    z7 := fun a => by
      rw [upd_ne (by decide)] at a
      have q := h.z7 a
      exact (upd_ne (by decide)).trans q
    z8 := fun _ => (upd_ne (by decide)).trans hd
    z9 := fun a => by
      rw [upd_ne (by decide)] at a
      have q := h.z9 a
      exact upd_eq
    z12 := fun a => by
      rw [upd_ne (by decide)] at a
      have q := h.z12 a
      exact ⟨(upd_ne (by decide)).trans q.1, (upd_ne (by decide)).trans q.2⟩ }
theorem si_step9 {w0 : World} {n : Nat} {l : List (Int × Int)} {t s t' s' : Int} {V0 V2 V4 TU G9 E9 : Value} {done : Nat → Bool} {ρ : Nat → Value} {w : World} (h : SI w0 n l t s t' s' V0 V2 V4 TU G9 E9 done ρ w) (hd : done 8 = true) : SI w0 n l t s t' s' V0 V2 V4 TU G9 E9 (upd done 9) (putS ρ (some 69) G9) w :=
  { b := h.b
    p0 := fun a => by
      rw [upd_ne (by decide)] at a
      first | rw [put_ne (by decide)] | rw [put_no]
      exact h.p0 a
    p2 := fun a => by
      rw [upd_ne (by decide)] at a
      first | rw [put_ne (by decide)] | rw [put_no]
      exact h.p2 a
    p4 := fun a => by
      rw [upd_ne (by decide)] at a
      first | rw [put_ne (by decide)] | rw [put_no]
      exact h.p4 a
    p7 := fun a => by
      rw [upd_ne (by decide)] at a
      first | rw [put_ne (by decide)] | rw [put_no]
      exact h.p7 a
    p8 := fun a => by
      rw [upd_ne (by decide)] at a
      first | rw [put_ne (by decide)] | rw [put_no]
      exact h.p8 a
    p9 := fun _ => put_eq
    p10 := fun a => by
      rw [upd_ne (by decide)] at a
      first | rw [put_ne (by decide)] | rw [put_no]
      exact h.p10 a
    p13 := fun a => by
      rw [upd_ne (by decide)] at a
      first | rw [put_ne (by decide)] | rw [put_no]
      exact h.p13 a
    m1 := fun a b => by
      rw [upd_ne (by decide)] at a b
      first | rw [put_ne (by decide)] | rw [put_no]
      exact h.m1 a b
    m5 := fun a b => by
      rw [upd_ne (by decide)] at a b
      first | rw [put_ne (by decide)] | rw [put_no]
      exact h.m5 a b
    m3 := fun a b => by
      rw [upd_ne (by decide)] at a b
      first | rw [put_ne (by decide)] | rw [put_no]
      exact h.m3 a b
    m6 := fun a b => by
      rw [upd_ne (by decide)] at a b
      first | rw [put_ne (by decide)] | rw [put_no]
      exact h.m6 a b
    mB := fun a b => by
      rw [upd_ne (by decide)] at a b
      obtain ⟨g, h1, h2, h3, h4⟩ := h.mB a b
      refine ⟨g, ?_, h2, h3, fun c e => ?_⟩
      · first | rw [put_ne (by decide)] | rw [put_no]
        exact h1
      · rw [upd_ne (by decide)] at c e
        first | rw [put_ne (by decide)] | rw [put_no]
        exact h4 c e
    mS := fun a => by
      rw [upd_ne (by decide)] at a
      obtain ⟨g, h1, h2⟩ := h.mS a
      refine ⟨g, ?_, h2⟩
      first | rw [put_ne (by decide)] | rw [put_no]
      exact h1
    z6 := fun a => by
      rw [upd_ne (by decide)] at a
      have q := h.z6 a
      exact ⟨(upd_ne (by decide)).trans q.1, (upd_ne (by decide)).trans q.2⟩
    z7 := fun a => by
      rw [upd_ne (by decide)] at a
      have q := h.z7 a
      exact (upd_ne (by decide)).trans q
    z8 := fun a => by
      rw [upd_ne (by decide)] at a
      have q := h.z8 a
      exact (upd_ne (by decide)).trans q
    z9 := fun _ => (upd_ne (by decide)).trans hd
    z12 := fun a => by
      rw [upd_ne (by decide)] at a
      have q := h.z12 a
      exact ⟨upd_eq, (upd_ne (by decide)).trans q.2⟩ }
theorem si_step10 {w0 : World} {n : Nat} {l : List (Int × Int)} {t s t' s' : Int} {V0 V2 V4 TU G9 E9 : Value} {done : Nat → Bool} {ρ : Nat → Value} {w : World} (h : SI w0 n l t s t' s' V0 V2 V4 TU G9 E9 done ρ w) : SI w0 n l t s t' s' V0 V2 V4 TU G9 E9 (upd done 10) (putS ρ (some 70) E9) w :=
  { b := h.b
    p0 := fun a => by
      rw [upd_ne (by decide)] at a
      first | rw [put_ne (by decide)] | rw [put_no]
      exact h.p0 a
    p2 := fun a => by
      rw [upd_ne (by decide)] at a
      first | rw [put_ne (by decide)] | rw [put_no]
      exact h.p2 a
    p4 := fun a => by
      rw [upd_ne (by decide)] at a
      first | rw [put_ne (by decide)] | rw [put_no]
      exact h.p4 a
    p7 := fun a => by
      rw [upd_ne (by decide)] at a
      first | rw [put_ne (by decide)] | rw [put_no]
      exact h.p7 a
    p8 := fun a => by
      rw [upd_ne (by decide)] at a
      first | rw [put_ne (by decide)] | rw [put_no]
      exact h.p8 a
    p9 := fun a => by
      rw [upd_ne (by decide)] at a
      first | rw [put_ne (by decide)] | rw [put_no]
      exact h.p9 a
    p10 := fun _ => put_eq
    p13 := fun a => by
      rw [upd_ne (by decide)] at a
      first | rw [put_ne (by decide)] | rw [put_no]
      exact h.p13 a
    m1 := fun a b => by
      rw [upd_ne (by decide)] at a b
      first | rw [put_ne (by decide)] | rw [put_no]
      exact h.m1 a b
    m5 := fun a b => by
      rw [upd_ne (by decide)] at a b
      first | rw [put_ne (by decide)] | rw [put_no]
      exact h.m5 a b
    m3 := fun a b => by
      rw [upd_ne (by decide)] at a b
      first | rw [put_ne (by decide)] | rw [put_no]
      exact h.m3 a b
    m6 := fun a b => by
      rw [upd_ne (by decide)] at a b
      first | rw [put_ne (by decide)] | rw [put_no]
      exact h.m6 a b
    mB := fun a b => by
      rw [upd_ne (by decide)] at a b
      obtain ⟨g, h1, h2, h3, h4⟩ := h.mB a b
      refine ⟨g, ?_, h2, h3, fun c e => ?_⟩
      · first | rw [put_ne (by decide)] | rw [put_no]
        exact h1
      · rw [upd_ne (by decide)] at c e
        first | rw [put_ne (by decide)] | rw [put_no]
        exact h4 c e
    mS := fun a => by
      rw [upd_ne (by decide)] at a
      obtain ⟨g, h1, h2⟩ := h.mS a
      refine ⟨g, ?_, h2⟩
      first | rw [put_ne (by decide)] | rw [put_no]
      exact h1
    z6 := fun a => by
      rw [upd_ne (by decide)] at a
      have q := h.z6 a
      exact ⟨(upd_ne (by decide)).trans q.1, (upd_ne (by decide)).trans q.2⟩
    z7 := fun a => by
      rw [upd_ne (by decide)] at a
      have q := h.z7 a
      exact (upd_ne (by decide)).trans q
    z8 := fun a => by
      rw [upd_ne (by decide)] at a
      have q := h.z8 a
      exact (upd_ne (by decide)).trans q
    z9 := fun a => by
      rw [upd_ne (by decide)] at a
      have q := h.z9 a
      exact (upd_ne (by decide)).trans q
    z12 := fun a => by
      rw [upd_ne (by decide)] at a
      have q := h.z12 a
      exact ⟨(upd_ne (by decide)).trans q.1, (upd_ne (by decide)).trans q.2⟩ }
theorem si_step13 {w0 : World} {n : Nat} {l : List (Int × Int)} {t s t' s' : Int} {V0 V2 V4 TU G9 E9 : Value} {done : Nat → Bool} {ρ : Nat → Value} {w : World} (h : SI w0 n l t s t' s' V0 V2 V4 TU G9 E9 done ρ w) : SI w0 n l t s t' s' V0 V2 V4 TU G9 E9 (upd done 13) (putS ρ (some 11) E9) w :=
  { b := h.b
    p0 := fun a => by
      rw [upd_ne (by decide)] at a
      first | rw [put_ne (by decide)] | rw [put_no]
      exact h.p0 a
    p2 := fun a => by
      rw [upd_ne (by decide)] at a
      first | rw [put_ne (by decide)] | rw [put_no]
      exact h.p2 a
    p4 := fun a => by
      rw [upd_ne (by decide)] at a
      first | rw [put_ne (by decide)] | rw [put_no]
      exact h.p4 a
    p7 := fun a => by
      rw [upd_ne (by decide)] at a
      first | rw [put_ne (by decide)] | rw [put_no]
      exact h.p7 a
    p8 := fun a => by
      rw [upd_ne (by decide)] at a
      first | rw [put_ne (by decide)] | rw [put_no]
      exact h.p8 a
    p9 := fun a => by
      rw [upd_ne (by decide)] at a
      first | rw [put_ne (by decide)] | rw [put_no]
      exact h.p9 a
    p10 := fun a => by
      rw [upd_ne (by decide)] at a
      first | rw [put_ne (by decide)] | rw [put_no]
      exact h.p10 a
    p13 := fun _ => put_eq
    m1 := fun a b => by
      rw [upd_ne (by decide)] at a b
      first | rw [put_ne (by decide)] | rw [put_no]
      exact h.m1 a b
    m5 := fun a b => by
      rw [upd_ne (by decide)] at a b
      first | rw [put_ne (by decide)] | rw [put_no]
      exact h.m5 a b
    m3 := fun a b => by
      rw [upd_ne (by decide)] at a b
      first | rw [put_ne (by decide)] | rw [put_no]
      exact h.m3 a b
    m6 := fun a b => by
      rw [upd_ne (by decide)] at a b
      first | rw [put_ne (by decide)] | rw [put_no]
      exact h.m6 a b
    mB := fun a b => by
      rw [upd_ne (by decide)] at a b
      obtain ⟨g, h1, h2, h3, h4⟩ := h.mB a b
      refine ⟨g, ?_, h2, h3, fun c e => ?_⟩
      · first | rw [put_ne (by decide)] | rw [put_no]
        exact h1
      · rw [upd_ne (by decide)] at c e
        first | rw [put_ne (by decide)] | rw [put_no]
        exact h4 c e
    mS := fun a => by
      rw [upd_ne (by decide)] at a
      obtain ⟨g, h1, h2⟩ := h.mS a
      refine ⟨g, ?_, h2⟩
      first | rw [put_ne (by decide)] | rw [put_no]
      exact h1
    z6 := fun a => by
      rw [upd_ne (by decide)] at a
      have q := h.z6 a
      exact ⟨(upd_ne (by decide)).trans q.1, (upd_ne (by decide)).trans q.2⟩
    z7 := fun a => by
      rw [upd_ne (by decide)] at a
      have q := h.z7 a
      exact (upd_ne (by decide)).trans q
    z8 := fun a => by
      rw [upd_ne (by decide)] at a
      have q := h.z8 a
      exact (upd_ne (by decide)).trans q
    z9 := fun a => by
      rw [upd_ne (by decide)] at a
      have q := h.z9 a
      exact (upd_ne (by decide)).trans q
    z12 := fun a => by
      rw [upd_ne (by decide)] at a
      have q := h.z12 a
      exact ⟨(upd_ne (by decide)).trans q.1, (upd_ne (by decide)).trans q.2⟩ }
theorem si_step1 {w0 : World} {n : Nat} {l : List (Int × Int)} {t s t' s' : Int} {V0 V2 V4 TU G9 E9 : Value} {done : Nat → Bool} {ρ : Nat → Value} {w : World} (h : SI w0 n l t s t' s' V0 V2 V4 TU G9 E9 done ρ w) (g : Nat) (hg : w0.heap.size ≤ g) (hc : w.heap[g]? = some (.cells #[] 31 (0, 0))) : SI w0 n l t s t' s' V0 V2 V4 TU G9 E9 (upd done 1) (putS ρ (some 62) (.slice (some ⟨g, 0, none⟩) 0 0)) w :=
  { b := h.b
    p0 := fun a => by
      rw [upd_ne (by decide)] at a
      first | rw [put_ne (by decide)] | rw [put_no]
      exact h.p0 a
    p2 := fun a => by
      rw [upd_ne (by decide)] at a
      first | rw [put_ne (by decide)] | rw [put_no]
      exact h.p2 a
    p4 := fun a => by
      rw [upd_ne (by decide)] at a
      first | rw [put_ne (by decide)] | rw [put_no]
      exact h.p4 a
    p7 := fun a => by
      rw [upd_ne (by decide)] at a
      first | rw [put_ne (by decide)] | rw [put_no]
      exact h.p7 a
    p8 := fun a => by
      rw [upd_ne (by decide)] at a
      first | rw [put_ne (by decide)] | rw [put_no]
      exact h.p8 a
    p9 := fun a => by
      rw [upd_ne (by decide)] at a
      first | rw [put_ne (by decide)] | rw [put_no]
      exact h.p9 a
    p10 := fun a => by
      rw [upd_ne (by decide)] at a
      first | rw [put_ne (by decide)] | rw [put_no]
      exact h.p10 a
    p13 := fun a => by
      rw [upd_ne (by decide)] at a
      first | rw [put_ne (by decide)] | rw [put_no]
      exact h.p13 a
    m1 := fun _ _ => ⟨g, put_eq, hg, hc⟩
    m5 := fun a b => by
      rw [upd_ne (by decide)] at a b
      first | rw [put_ne (by decide)] | rw [put_no]
      exact h.m5 a b
    m3 := fun a b => by
      rw [upd_ne (by decide)] at a b
      first | rw [put_ne (by decide)] | rw [put_no]
      exact h.m3 a b
    m6 := fun a b => by
      rw [upd_ne (by decide)] at a b
      first | rw [put_ne (by decide)] | rw [put_no]
      exact h.m6 a b
    mB := fun a b => by
      rw [upd_ne (by decide)] at a b
      obtain ⟨g, h1, h2, h3, h4⟩ := h.mB a b
      refine ⟨g, ?_, h2, h3, fun c e => ?_⟩
      · first | rw [put_ne (by decide)] | rw [put_no]
        exact h1
      · rw [upd_ne (by decide)] at c e
        first | rw [put_ne (by decide)] | rw [put_no]
        exact h4 c e
    mS := fun a => by
      rw [upd_ne (by decide)] at a
      obtain ⟨g, h1, h2⟩ := h.mS a
      refine ⟨g, ?_, h2⟩
      first | rw [put_ne (by decide)] | rw [put_no]
      exact h1
    z6 := fun a => by
      rw [upd_ne (by decide)] at a
      have q := h.z6 a
      exact ⟨(upd_ne (by decide)).trans q.1, (upd_ne (by decide)).trans q.2⟩
    z7 := fun a => by
      rw [upd_ne (by decide)] at a
      have q := h.z7 a
      exact (upd_ne (by decide)).trans q
    z8 := fun a => by
      rw [upd_ne (by decide)] at a
      have q := h.z8 a
      exact (upd_ne (by decide)).trans q
    z9 := fun a => by
      rw [upd_ne (by decide)] at a
      have q := h.z9 a
      exact (upd_ne (by decide)).trans q
    z12 := fun a => by
      rw [upd_ne (by decide)] at a
      have q := h.z12 a
      exact ⟨(upd_ne (by decide)).trans q.1, (upd_ne (by decide)).trans q.2⟩ }
theorem si_step5 {w0 : World} {n : Nat} {l : List (Int × Int)} {t s t' s' : Int} {V0 V2 V4 TU G9 E9 : Value} {done : Nat → Bool} {ρ : Nat → Value} {w : World} (h : SI w0 n l t s t' s' V0 V2 V4 TU G9 E9 done ρ w) (g : Nat) (hg : w0.heap.size ≤ g) (hc : w.heap[g]? = some (.cells #[.int .u32 t, .int .u8 s] 31 (0, 0))) : SI w0 n l t s t' s' V0 V2 V4 TU G9 E9 (upd done 5) (putS ρ (some 66) (.slice (some ⟨g, 0, none⟩) 1 1)) w :=
  { b := h.b
    p0 := fun a => by
      rw [upd_ne (by decide)] at a
      first | rw [put_ne (by decide)] | rw [put_no]
      exact h.p0 a
    p2 := fun a => by
      rw [upd_ne (by decide)] at a
      first | rw [put_ne (by decide)] | rw [put_no]
      exact h.p2 a
    p4 := fun a => by
      rw [upd_ne (by decide)] at a
      first | rw [put_ne (by decide)] | rw [put_no]
      exact h.p4 a
    p7 := fun a => by
      rw [upd_ne (by decide)] at a
      first | rw [put_ne (by decide)] | rw [put_no]
      exact h.p7 a
    p8 := fun a => by
      rw [upd_ne (by decide)] at a
      first | rw [put_ne (by decide)] | rw [put_no]
      exact h.p8 a
    p9 := fun a => by
      rw [upd_ne (by decide)] at a
      first | rw [put_ne (by decide)] | rw [put_no]
      exact h.p9 a
    p10 := fun a => by
      rw [upd_ne (by decide)] at a
      first | rw [put_ne (by decide)] | rw [put_no]
      exact h.p10 a
    p13 := fun a => by
      rw [upd_ne (by decide)] at a
      first | rw [put_ne (by decide)] | rw [put_no]
      exact h.p13 a
    m1 := fun a b => by
      rw [upd_ne (by decide)] at a b
      first | rw [put_ne (by decide)] | rw [put_no]
      exact h.m1 a b
    m5 := fun _ _ => ⟨g, put_eq, hg, hc⟩
    m3 := fun a b => by
      rw [upd_ne (by decide)] at a b
      first | rw [put_ne (by decide)] | rw [put_no]
      exact h.m3 a b
    m6 := fun a b => by
      rw [upd_ne (by decide)] at a b
      first | rw [put_ne (by decide)] | rw [put_no]
      exact h.m6 a b
    mB := fun a b => by
      rw [upd_ne (by decide)] at a b
      obtain ⟨g, h1, h2, h3, h4⟩ := h.mB a b
      refine ⟨g, ?_, h2, h3, fun c e => ?_⟩
      · first | rw [put_ne (by decide)] | rw [put_no]
        exact h1
      · rw [upd_ne (by decide)] at c e
        first | rw [put_ne (by decide)] | rw [put_no]
        exact h4 c e
    mS := fun a => by
      rw [upd_ne (by decide)] at a
      obtain ⟨g, h1, h2⟩ := h.mS a
      refine ⟨g, ?_, h2⟩
      first | rw [put_ne (by decide)] | rw [put_no]
      exact h1
    z6 := fun a => by
      rw [upd_ne (by decide)] at a
      have q := h.z6 a
      exact ⟨(upd_ne (by decide)).trans q.1, upd_eq⟩
    z7 := fun a => by
      rw [upd_ne (by decide)] at a
      have q := h.z7 a
      exact (upd_ne (by decide)).trans q
    z8 := fun a => by
      rw [upd_ne (by decide)] at a
      have q := h.z8 a
      exact (upd_ne (by decide)).trans q
    z9 := fun a => by
      rw [upd_ne (by decide)] at a
      have q := h.z9 a
      exact (upd_ne (by decide)).trans q
    z12 := fun a => by
      rw [upd_ne (by decide)] at a
      have q := h.z12 a
      exact ⟨(upd_ne (by decide)).trans q.1, (upd_ne (by decide)).trans q.2⟩ }
theorem si_step11 {w0 : World} {n : Nat} {l : List (Int × Int)} {t s t' s' : Int} {V0 V2 V4 TU G9 E9 : Value} {done : Nat → Bool} {ρ : Nat → Value} {w : World} (h : SI w0 n l t s t' s' V0 V2 V4 TU G9 E9 done ρ w) (g : Nat) (hg : w0.heap.size ≤ g) (hc : ∃ x y, w.heap[g]? = some (.cells #[x, y] 31 (0, 0))) (hn : done 3 = true → done 6 = false → (ρ 64).ownBlock ≠ some g) (hnd : done 11 = false) : SI w0 n l t s t' s' V0 V2 V4 TU G9 E9 (upd done 11) (putS ρ (some 10) (.pointer (some ⟨g, 0, none⟩))) w :=
  { b := h.b
    p0 := fun a => by
      rw [upd_ne (by decide)] at a
      first | rw [put_ne (by decide)] | rw [put_no]
      exact h.p0 a
    p2 := fun a => by
      rw [upd_ne (by decide)] at a
      first | rw [put_ne (by decide)] | rw [put_no]
      exact h.p2 a
    p4 := fun a => by
      rw [upd_ne (by decide)] at a
      first | rw [put_ne (by decide)] | rw [put_no]
      exact h.p4 a
    p7 := fun a => by
      rw [upd_ne (by decide)] at a
      first | rw [put_ne (by decide)] | rw [put_no]
      exact h.p7 a
    p8 := fun a => by
      rw [upd_ne (by decide)] at a
      first | rw [put_ne (by decide)] | rw [put_no]
      exact h.p8 a
    p9 := fun a => by
      rw [upd_ne (by decide)] at a
      first | rw [put_ne (by decide)] | rw [put_no]
      exact h.p9 a
    p10 := fun a => by
      rw [upd_ne (by decide)] at a
      first | rw [put_ne (by decide)] | rw [put_no]
      exact h.p10 a
    p13 := fun a => by
      rw [upd_ne (by decide)] at a
      first | rw [put_ne (by decide)] | rw [put_no]
      exact h.p13 a
    m1 := fun a b => by
      rw [upd_ne (by decide)] at a b
      first | rw [put_ne (by decide)] | rw [put_no]
      exact h.m1 a b
    m5 := fun a b => by
      rw [upd_ne (by decide)] at a b
      first | rw [put_ne (by decide)] | rw [put_no]
      exact h.m5 a b
    m3 := fun a b => by
      rw [upd_ne (by decide)] at a b
      first | rw [put_ne (by decide)] | rw [put_no]
      exact h.m3 a b
    m6 := fun a b => by
      rw [upd_ne (by decide)] at a b
      first | rw [put_ne (by decide)] | rw [put_no]
      exact h.m6 a b
    mB := fun _ _ => ⟨g, put_eq, hg, hc, fun a b => by
      rw [upd_ne (by decide)] at a b
      rw [put_ne (by decide)]
      exact hn a b⟩
    mS := fun a => by
      rw [upd_ne (by decide)] at a
      have q := (h.z12 a).2
      rw [hnd] at q
      cases q
    z6 := fun a => by
      rw [upd_ne (by decide)] at a
      have q := h.z6 a
      exact ⟨(upd_ne (by decide)).trans q.1, (upd_ne (by decide)).trans q.2⟩
    z7 := fun a => by
      rw [upd_ne (by decide)] at a
      have q := h.z7 a
      exact (upd_ne (by decide)).trans q
    z8 := fun a => by
      rw [upd_ne (by decide)] at a
      have q := h.z8 a
      exact (upd_ne (by decide)).trans q
    z9 := fun a => by
      rw [upd_ne (by decide)] at a
      have q := h.z9 a
      exact (upd_ne (by decide)).trans q
    z12 := fun a => by
      rw [upd_ne (by decide)] at a
      have q := h.z12 a
      exact ⟨(upd_ne (by decide)).trans q.1, upd_eq⟩ }
theorem si_step3 {w0 : World} {n : Nat} {l : List (Int × Int)} {t s t' s' : Int} {V0 V2 V4 TU G9 E9 : Value} {done : Nat → Bool} {ρ : Nat → Value} {w : World} (h : SI w0 n l t s t' s' V0 V2 V4 TU G9 E9 done ρ w) {w' : World} (g : Nat) (hc : w.heap[g]? = some (.cells #[] 31 (0, 0))) (hg : w.grownBy w' (some g)) (hb : Below w0.heap.size w0 w') (nd : done 3 = false)
    (A : Option Addr) (c : Nat) (hown : w'.ownsRow w0.heap.size 31 2 (.slice A n c) n (ids l)) (hblk : (Value.slice A n c).ownBlock = some g ∨ (Value.slice A n c).ownBlock = some w.heap.size) : SI w0 n l t s t' s' V0 V2 V4 TU G9 E9 (upd done 3) (putS ρ (some 64) (.slice A n c)) w' := by
  have n6 : done 6 = true → False := fun a => by
    have q := (h.z6 a).1
    rw [nd] at q
    cases q
  have n12 : done 12 = true → False := fun a => n6 (h.z7 (h.z8 (h.z9 (h.z12 a).1)))
  have k5 : ∀ g' x y, w.heap[g']? = some (.cells #[x, y] 31 (0, 0)) → g' ≠ g ∧ w'.heap[g']? = some (.cells #[x, y] 31 (0, 0)) := by
    intro g' x y hx
    have hne : g' ≠ g := by
      intro e
      rw [e, hc] at hx
      simp at hx
    exact ⟨hne, (hg.block g' (Array.getElem?_eq_some_iff.1 hx).1 (fun e => hne (Option.some.inj e))).trans hx⟩
  exact (
  { b := hb
    p0 := fun a => by
      rw [upd_ne (by decide)] at a
      first | rw [put_ne (by decide)] | rw [put_no]
      exact h.p0 a
    p2 := fun a => by
      rw [upd_ne (by decide)] at a
      first | rw [put_ne (by decide)] | rw [put_no]
      exact h.p2 a
    p4 := fun a => by
      rw [upd_ne (by decide)] at a
      first | rw [put_ne (by decide)] | rw [put_no]
      exact h.p4 a
    p7 := fun a => by
      rw [upd_ne (by decide)] at a
      first | rw [put_ne (by decide)] | rw [put_no]
      exact h.p7 a
    p8 := fun a => by
      rw [upd_ne (by decide)] at a
      first | rw [put_ne (by decide)] | rw [put_no]
      exact h.p8 a
    p9 := fun a => by
      rw [upd_ne (by decide)] at a
      first | rw [put_ne (by decide)] | rw [put_no]
      exact h.p9 a
    p10 := fun a => by
      rw [upd_ne (by decide)] at a
      first | rw [put_ne (by decide)] | rw [put_no]
      exact h.p10 a
    p13 := fun a => by
      rw [upd_ne (by decide)] at a
      first | rw [put_ne (by decide)] | rw [put_no]
      exact h.p13 a
    m1 := fun _ b => by
      rw [upd_eq] at b
      cases b
    m5 := fun a b => by
      rw [upd_ne (by decide)] at a b
      rw [put_ne (by decide)]
      obtain ⟨g', h1, h2, h3⟩ := h.m5 a b
      exact ⟨g', h1, h2, (k5 g' _ _ h3).2⟩
    m3 := fun _ _ => ⟨A, c, put_eq, hown⟩
    m6 := fun a _ => by
      rw [upd_ne (by decide)] at a
      exact (n6 a).elim
    mB := fun a b => by
      rw [upd_ne (by decide)] at a b
      obtain ⟨g', h1, h2, ⟨x, y, h3⟩, -⟩ := h.mB a b
      refine ⟨g', ?_, h2, ⟨x, y, (k5 g' x y h3).2⟩, fun _ _ => ?_⟩
      · rw [put_ne (by decide)]
        exact h1
      · rw [put_eq]
        have hlt := (Array.getElem?_eq_some_iff.1 h3).1
        have hne := (k5 g' x y h3).1
        rcases hblk with e | e
        · rw [e]
          exact fun q => hne (Option.some.inj q).symm
        · rw [e]
          exact fun q => by have := Option.some.inj q; omega
    mS := fun a => by
      rw [upd_ne (by decide)] at a
      exact (n12 a).elim
    z6 := fun a => by
      rw [upd_ne (by decide)] at a
      have q := h.z6 a
      exact ⟨upd_eq, (upd_ne (by decide)).trans q.2⟩
    z7 := fun a => by
      rw [upd_ne (by decide)] at a
      have q := h.z7 a
      exact (upd_ne (by decide)).trans q
    z8 := fun a => by
      rw [upd_ne (by decide)] at a
      have q := h.z8 a
      exact (upd_ne (by decide)).trans q
    z9 := fun a => by
      rw [upd_ne (by decide)] at a
      have q := h.z9 a
      exact (upd_ne (by decide)).trans q
    z12 := fun a => by
      rw [upd_ne (by decide)] at a
      have q := h.z12 a
      exact ⟨(upd_ne (by decide)).trans q.1, (upd_ne (by decide)).trans q.2⟩ })
theorem si_step6 {w0 : World} {n : Nat} {l : List (Int × Int)} {t s t' s' : Int} {V0 V2 V4 TU G9 E9 : Value} {done : Nat → Bool} {ρ : Nat → Value} {w : World} (h : SI w0 n l t s t' s' V0 V2 V4 TU G9 E9 done ρ w) {w' : World} (row : Option Nat) (h64 : (ρ 64).ownBlock = row) (hg : w.grownBy w' row) (hb : Below w0.heap.size w0 w') (nd : done 6 = false) (d3 : done 3 = true) (d5 : done 5 = true)
    (A : Option Addr) (c : Nat) (hown : w'.ownsRow w0.heap.size 31 2 (.slice A (n + 1) c) (n + 1) (ids (l ++ [(t, s)]))) : SI w0 n l t s t' s' V0 V2 V4 TU G9 E9 (upd done 6) (putS ρ (some 67) (.slice A (n + 1) c)) w' := by
  have n12 : done 12 = true → False := fun a => by
    have q := h.z7 (h.z8 (h.z9 (h.z12 a).1))
    rw [nd] at q
    cases q
  exact (
  { b := hb
    p0 := fun a => by
      rw [upd_ne (by decide)] at a
      first | rw [put_ne (by decide)] | rw [put_no]
      exact h.p0 a
    p2 := fun a => by
      rw [upd_ne (by decide)] at a
      first | rw [put_ne (by decide)] | rw [put_no]
      exact h.p2 a
    p4 := fun a => by
      rw [upd_ne (by decide)] at a
      first | rw [put_ne (by decide)] | rw [put_no]
      exact h.p4 a
    p7 := fun a => by
      rw [upd_ne (by decide)] at a
      first | rw [put_ne (by decide)] | rw [put_no]
      exact h.p7 a
    p8 := fun a => by
      rw [upd_ne (by decide)] at a
      first | rw [put_ne (by decide)] | rw [put_no]
      exact h.p8 a
    p9 := fun a => by
      rw [upd_ne (by decide)] at a
      first | rw [put_ne (by decide)] | rw [put_no]
      exact h.p9 a
    p10 := fun a => by
      rw [upd_ne (by decide)] at a
      first | rw [put_ne (by decide)] | rw [put_no]
      exact h.p10 a
    p13 := fun a => by
      rw [upd_ne (by decide)] at a
      first | rw [put_ne (by decide)] | rw [put_no]
      exact h.p13 a
    m1 := fun _ b => by
      rw [upd_ne (by decide)] at b
      rw [d3] at b
      cases b
    m5 := fun _ b => by
      rw [upd_eq] at b
      cases b
    m3 := fun _ b => by
      rw [upd_eq] at b
      cases b
    m6 := fun _ _ => ⟨A, c, put_eq, hown⟩
    mB := fun a b => by
      rw [upd_ne (by decide)] at a b
      obtain ⟨g', h1, h2, ⟨x, y, h3⟩, h4⟩ := h.mB a b
      refine ⟨g', ?_, h2, ⟨x, y, (hg.block g' (Array.getElem?_eq_some_iff.1 h3).1 (fun e => h4 d3 nd (h64.trans e.symm))).trans h3⟩, fun _ e => ?_⟩
      · rw [put_ne (by decide)]
        exact h1
      · rw [upd_eq] at e
        cases e
    mS := fun a => by
      rw [upd_ne (by decide)] at a
      exact (n12 a).elim
    z6 := fun _ => ⟨(upd_ne (by decide)).trans d3, (upd_ne (by decide)).trans d5⟩
    z7 := fun a => by
      rw [upd_ne (by decide)] at a
      have q := h.z7 a
      exact upd_eq
    z8 := fun a => by
      rw [upd_ne (by decide)] at a
      have q := h.z8 a
      exact (upd_ne (by decide)).trans q
    z9 := fun a => by
      rw [upd_ne (by decide)] at a
      have q := h.z9 a
      exact (upd_ne (by decide)).trans q
    z12 := fun a => by
      rw [upd_ne (by decide)] at a
      have q := h.z12 a
      exact ⟨(upd_ne (by decide)).trans q.1, (upd_ne (by decide)).trans q.2⟩ })
theorem si_step12 {w0 : World} {n : Nat} {l : List (Int × Int)} {t s t' s' : Int} {V0 V2 V4 TU G9 E9 : Value} {done : Nat → Bool} {ρ : Nat → Value} {w : World} (h : SI w0 n l t s t' s' V0 V2 V4 TU G9 E9 done ρ w) (g : Nat) (h10 : ρ 10 = .pointer (some ⟨g, 0, none⟩)) (hgb : w0.heap.size ≤ g) (x y : Value) (hc : w.heap[g]? = some (.cells #[x, y] 31 (0, 0))) (d9 : done 9 = true) (d11 : done 11 = true) (v : Value) :
    SI w0 n l t s t' s' V0 V2 V4 TU G9 E9 (upd done 12) (putS ρ none v) ((w.setCell ⟨g, 0, none⟩ (.int .u32 t')).setCell ⟨g, 1, none⟩ (.int .u8 s')) := by
  have d7 := h.z8 (h.z9 d9)
  have d6 := h.z7 d7
  have d3 := (h.z6 d6).1
  exact (
  { b := (h.b.setCell hgb _).setCell hgb _
    p0 := fun a => by
      rw [upd_ne (by decide)] at a
      first | rw [put_ne (by decide)] | rw [put_no]
      exact h.p0 a
    p2 := fun a => by
      rw [upd_ne (by decide)] at a
      first | rw [put_ne (by decide)] | rw [put_no]
      exact h.p2 a
    p4 := fun a => by
      rw [upd_ne (by decide)] at a
      first | rw [put_ne (by decide)] | rw [put_no]
      exact h.p4 a
    p7 := fun a => by
      rw [upd_ne (by decide)] at a
      first | rw [put_ne (by decide)] | rw [put_no]
      exact h.p7 a
    p8 := fun a => by
      rw [upd_ne (by decide)] at a
      first | rw [put_ne (by decide)] | rw [put_no]
      exact h.p8 a
    p9 := fun a => by
      rw [upd_ne (by decide)] at a
      first | rw [put_ne (by decide)] | rw [put_no]
      exact h.p9 a
    p10 := fun a => by
      rw [upd_ne (by decide)] at a
      first | rw [put_ne (by decide)] | rw [put_no]
      exact h.p10 a
    p13 := fun a => by
      rw [upd_ne (by decide)] at a
      first | rw [put_ne (by decide)] | rw [put_no]
      exact h.p13 a
    m1 := fun _ b => by
      rw [upd_ne (by decide), d3] at b
      cases b
    m5 := fun _ b => by
      rw [upd_ne (by decide), d6] at b
      cases b
    m3 := fun _ b => by
      rw [upd_ne (by decide), d6] at b
      cases b
    m6 := fun _ b => by
      rw [upd_ne (by decide), d7] at b
      cases b
    mB := fun _ b => by
      rw [upd_eq] at b
      cases b
    mS := fun _ => ⟨g, h10, hgb, heap_setCell_same _ _ _ _ _ _ (heap_setCell_same _ _ _ _ _ _ hc)⟩
    z6 := fun a => by
      rw [upd_ne (by decide)] at a
      have q := h.z6 a
      exact ⟨(upd_ne (by decide)).trans q.1, (upd_ne (by decide)).trans q.2⟩
    z7 := fun a => by
      rw [upd_ne (by decide)] at a
      have q := h.z7 a
      exact (upd_ne (by decide)).trans q
    z8 := fun a => by
      rw [upd_ne (by decide)] at a
      have q := h.z8 a
      exact (upd_ne (by decide)).trans q
    z9 := fun a => by
      rw [upd_ne (by decide)] at a
      have q := h.z9 a
      exact (upd_ne (by decide)).trans q
    z12 := fun _ => ⟨(upd_ne (by decide)).trans d9, (upd_ne (by decide)).trans d11⟩ })
end Go.Proofs.Ytllmlnbgfikeaaa
