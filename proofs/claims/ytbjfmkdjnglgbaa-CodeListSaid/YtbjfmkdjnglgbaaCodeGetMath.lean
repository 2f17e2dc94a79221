/-
  code.Get's steps in plain words: what is known of the answer as numbers are read. No condition.
-/
import Derived.Test.YtbjfmkdjnglgbaaCodeNext
namespace Go.Proofs.Ytbjfmkdjnglgbaa
open Go.RowKit

/-- next, whether something was wrong or not. -/
theorem next_any (A : Option Addr) (b : List UInt8) (n c g a : Nat) (bad : Bool) (lo hi : Int) (w : World) (h : RDR w g A n c a bad) (hr : RB w w.heap.size A b) (hn : b.length = n) (hl : n < 1073741824) (ha : a ≤ n) (hc : n ≤ c) (hA : A = none → c = 0) (hlh : lo ≤ hi) :
    Calls Try.prog 102 #[.pointer (some ⟨g, 0, none⟩), .int .i64 lo, .int .i64 hi] w fun e w' => ∃ x a' bd, e = .returned (.int .i64 x) ∧ RDR w' g A n c a' bd ∧ OnlyAt g w w' ∧ a' ≤ n ∧ lo ≤ x ∧ x ≤ hi ∧
      (bad = false → ∀ y q, nxt b a lo hi = some (y, q) → x = y ∧ a' = q ∧ bd = false) ∧ (bad = false → nxt b a lo hi = none → bd = true) ∧ (bad = true → bd = true) := by
  cases bad with
  | true =>
    refine (next_bad A n c g a lo hi w h).mono ?_
    rintro e w' ⟨rfl, rfl⟩
    exact ⟨lo, a, true, rfl, h, OnlyAt.refl _ _, ha, Int.le_refl _, hlh, fun e => (by cases e), fun e => (by cases e), fun _ => rfl⟩
  | false =>
    refine (next_ok A b n c g a lo hi w h hr hn hl ha hc hA).mono ?_
    rintro e w' ⟨x, a', bd, he, h1, h2, h3, h4, h5⟩
    have hx : lo ≤ x ∧ x ≤ hi := by
      cases hq : nxt b a lo hi with
      | none =>
        rw [(h5 hq).1]
        exact ⟨Int.le_refl _, hlh⟩
      | some q =>
        obtain ⟨y, q⟩ := q
        rw [(h4 y q hq).1]
        exact ⟨(nxt_inv hq).1, (nxt_inv hq).2.1⟩
    exact ⟨x, a', bd, he, h1, h2, h3, hx.1, hx.2, fun _ => h4, fun _ h => (h5 h).2, fun e => (by cases e)⟩
/-- What is known of an answer, with one number more read. -/
theorem read_step {α : Type} {G : Option α} {b : List UInt8} {a a' : Nat} {lo hi x : Int} {bd bd' : Bool} {K : Int × Nat → Option α} (h1 : bd = false → G = (nxt b a lo hi).bind K) (h2 : bd = true → G = none)
    (hs : bd = false → ∀ y q, nxt b a lo hi = some (y, q) → x = y ∧ a' = q ∧ bd' = false) (hn : bd = false → nxt b a lo hi = none → bd' = true) (hb : bd = true → bd' = true) : (bd' = false → G = K (x, a')) ∧ (bd' = true → G = none) := by
  cases bd with
  | true =>
    have := hb rfl
    subst this
    exact ⟨fun e => (by cases e), fun _ => h2 rfl⟩
  | false =>
    have h1 := h1 rfl
    cases hq : nxt b a lo hi with
    | none =>
      have := hn rfl hq
      subst this
      rw [hq] at h1
      exact ⟨fun e => (by cases e), fun _ => h1⟩
    | some q =>
      obtain ⟨y, q⟩ := q
      obtain ⟨rfl, rfl, rfl⟩ := hs rfl y q hq
      rw [hq] at h1
      exact ⟨fun _ => h1, fun e => (by cases e)⟩
/-- The end of reading: is it an operation? -/
def finP (o : Rd) : Option Rd := if mayO o.1 o.2.1 o.2.2.1 o.2.2.2.1 o.2.2.2.2.1 then some o else none
theorem getP_start (b : List UInt8) : getP b = (nxt b 0 1 4).bind fun k => (nxt b k.2 1 64).bind fun m => (rdRuns b m.1.toNat m.2 0).bind fun q => (rdTail b k.1 q.1 q.2.1 q.2.2).bind finP := rfl
/-- What is known before a run is read. -/
theorem run_start {b : List UInt8} {m a : Nat} {was : Int} {k : Int} {p : List Rn} :
    ((rdRuns b (m + 1) a was).bind fun q => (rdTail b k (p ++ q.1) q.2.1 q.2.2).bind finP) =
      (nxt b a 1 1073741824).bind fun d => (nxt b d.2 0 7).bind fun r => (nxt b r.2 1 4096).bind fun mm =>
        if 1073741824 < was + d.1 + mm.1 - 1 then none else (rdRuns b m mm.2 (was + d.1 + mm.1 - 1)).bind fun q => (rdTail b k ((p ++ [(was + d.1, r.1, mm.1)]) ++ q.1) q.2.1 q.2.2).bind finP := by
  simp only [rdRuns, Option.bind_assoc]
  congr 1
  funext d
  congr 1
  funext r
  congr 1
  funext mm
  split
  · rfl
  · rw [Option.bind_map]
    congr 1
    funext q
    simp
/-- An answer, as its parts. -/
def outP : Option Rd → Int × Int × Int × List Rn × Int × Nat × Int
  | some (k, t, r, p, z, n) => (k, t, r, p, z, n, 0)
  | none => (0, 0, 0, [], 0, 0, 8)
theorem own_only {w w' : World} {base g n c at' size k : Nat} {A : Option Addr} {bad : Bool} {v : Value} {L : List Value} (h : w.ownsRow base 41 size v k L) (hR : RDR w g A n c at' bad) (ho : OnlyAt g w w') : w'.ownsRow base 41 size v k L := by
  refine ⟨h.1, ?_⟩
  rcases h.2 with h0 | ⟨q, cap, cur, h1, h2, h3, h4⟩
  · exact .inl h0
  · have hne : q ≠ g := by
      intro e
      unfold RDR at hR
      rw [← e, h3] at hR
      simp at hR
    exact .inr ⟨q, cap, cur, h1, h2, (ho.2 q hne (Array.getElem?_eq_some_iff.1 h3).1).trans h3, h4⟩
theorem RDR.kept {w w' : World} {g n c at' : Nat} {A : Option Addr} {bad : Bool} (h : RDR w g A n c at' bad) (hk : ∀ (b : Nat) (o : Obj), w.heap[b]? = some o → (∀ cur, o ≠ .cells cur 41 (0, 0)) → w'.heap[b]? = some o) : RDR w' g A n c at' bad := hk g _ h (fun cur e => by simp at e)
theorem FB.keptR {w w' : World} {g : Nat} {k t r s z : Value} (h : FB w g k t r s z) (hk : ∀ (b : Nat) (o : Obj), w.heap[b]? = some o → (∀ cur, o ≠ .cells cur 41 (0, 0)) → w'.heap[b]? = some o) : FB w' g k t r s z := hk g _ h (fun cur e => by simp at e)
theorem FB.set0 {w : World} {g : Nat} {k t r s z : Value} (h : FB w g k t r s z) (v : Value) : FB (w.setCell ⟨g, 0, none⟩ v) g v t r s z := heap_setCell_same _ _ _ _ _ _ h
theorem FB.set12 {w : World} {g : Nat} {k t r s z : Value} (h : FB w g k t r s z) (u v : Value) : FB ((w.setCell ⟨g, 1, none⟩ u).setCell ⟨g, 2, none⟩ v) g k u v s z := heap_setCell_same _ _ _ _ _ _ (heap_setCell_same _ _ _ _ _ _ h)
theorem RDR.other {w : World} {g n c at' : Nat} {A : Option Addr} {bad : Bool} (h : RDR w g A n c at' bad) {g' : Nat} (hne : g ≠ g') (off : Nat) (v : Value) : RDR (w.setCell ⟨g', off, none⟩ v) g A n c at' bad := (heap_setCell_other _ _ _ _ hne).trans h
theorem own_set {w : World} {base g size n : Nat} {v : Value} {L : List Value} {k t r s z : Value} (h : w.ownsRow base 41 size v n L) (hF : FB w g k t r s z) (off : Nat) (u : Value) : (w.setCell ⟨g, off, none⟩ u).ownsRow base 41 size v n L := by
  refine ⟨h.1, ?_⟩
  rcases h.2 with h0 | ⟨q, cap, cur, h1, h2, h3, h4⟩
  · exact .inl h0
  · have hne : q ≠ g := by
      intro e
      unfold FB at hF
      rw [← e, h3] at hF
      simp at hF
    exact .inr ⟨q, cap, cur, h1, h2, (heap_setCell_other _ _ _ _ hne).trans h3, h4⟩
theorem own_put5 {w : World} {base g size n : Nat} {v : Value} {L : List Value} {k t r s z k' t' r' s' z' : Value} (h : w.ownsRow base 41 size v n L) (hF : FB w g k t r s z) : (put5 w g k' t' r' s' z').ownsRow base 41 size v n L := by
  refine ⟨h.1, ?_⟩
  rcases h.2 with h0 | ⟨q, cap, cur, h1, h2, h3, h4⟩
  · exact .inl h0
  · have hne : q ≠ g := by
      intro e
      unfold FB at hF
      rw [← e, h3] at hF
      simp at hF
    exact .inr ⟨q, cap, cur, h1, h2, (put5_other hne).trans h3, h4⟩
theorem own_set2 {w : World} {base g size n : Nat} {v : Value} {L : List Value} {k t r s z : Value} (h : w.ownsRow base 41 size v n L) (hF : FB w g k t r s z) (x y : Value) : ((w.setCell ⟨g, 1, none⟩ x).setCell ⟨g, 2, none⟩ y).ownsRow base 41 size v n L := by
  have h1 : FB (w.setCell ⟨g, 1, none⟩ x) g k x r s z := heap_setCell_same _ _ _ _ _ _ hF
  exact own_set (own_set h hF 1 x) h1 2 y
end Go.Proofs.Ytbjfmkdjnglgbaa
