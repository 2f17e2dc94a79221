/-
  FrameDoes: true for every input. No condition (more than 20,000 bytes: at once).
-/
import Derived.Test.YtmekoenmaiekfaaFrameRefOpen
namespace Go.Proofs.Ytmekoenmaiekfaa
open Go.RowKit

/-- What Wrap, Open answer: the bytes (none where there is an error), the error's number. -/
def wres (l : List UInt8) : List UInt8 × Int := if l.length ≤ 16384 then (frm l, 0) else ([], 4)
def ores (l : List UInt8) : List UInt8 × Int := match opn l with | none => ([], 30) | some m => (m, 0)
theorem wrap_all (A : Option Addr) (c : Nat) (l : List UInt8) (w : World) (hr : RB w w.heap.size A l) :
    Calls Try.prog 33 #[.slice A l.length c] w fun e w' => ∃ v, e = .returned (.tuple #[v, .int .i64 (wres l).2]) ∧ w'.ownsRow w.heap.size 5 1 v (wres l).1.length (u8s (wres l).1) ∧ Below w.heap.size w w' := by
  unfold wres
  by_cases h : l.length ≤ 16384
  · rw [if_pos h]; exact wrap_ok A c l w hr h
  · rw [if_neg h]
    refine (wrap_many A c l w (by omega)).mono ?_
    rintro e w' ⟨rfl, rfl⟩
    exact ⟨_, rfl, World.ownsRow_nil _ _ _ _, Below.refl _ _⟩
theorem refwrap_all (A : Option Addr) (c : Nat) (l : List UInt8) (w : World) (hr : RB w w.heap.size A l) :
    Calls Try.prog 35 #[.slice A l.length c] w fun e w' => ∃ v, e = .returned (.tuple #[v, .int .i64 (wres l).2]) ∧ w'.ownsRow w.heap.size 5 1 v (wres l).1.length (u8s (wres l).1) ∧ Below w.heap.size w w' := by
  unfold wres
  by_cases h : l.length ≤ 16384
  · rw [if_pos h]; exact refwrap_ok A c l w hr h
  · rw [if_neg h]
    refine (refwrap_many A c l w (by omega)).mono ?_
    rintro e w' ⟨rfl, rfl⟩
    exact ⟨_, rfl, World.ownsRow_nil _ _ _ _, Below.refl _ _⟩
theorem open_all (A : Option Addr) (c : Nat) (l : List UInt8) (w : World) (hr : RB w w.heap.size A l) (hc : l.length ≤ c) (hl : l.length < 30000) :
    Calls Try.prog 34 #[.slice A l.length c] w fun e w' => ∃ v, e = .returned (.tuple #[v, .int .i64 (ores l).2]) ∧ w'.ownsRow w.heap.size 5 1 v (ores l).1.length (u8s (ores l).1) ∧ Below w.heap.size w w' := by
  refine (open_any A c l w hr hc (by omega)).mono ?_
  rintro e w' ⟨ho, hb⟩
  unfold ores
  cases h : opn l with
  | none => exact ⟨_, opened_none' h ho, World.ownsRow_nil _ _ _ _, hb⟩
  | some m =>
    obtain ⟨v, he, hown⟩ := opened_some' h ho
    exact ⟨v, he, hown, hb⟩
theorem refopen_all (A : Option Addr) (c : Nat) (l : List UInt8) (w : World) (hr : RB w w.heap.size A l) (hc : l.length ≤ c) (hl : l.length < 30000) :
    Calls Try.prog 36 #[.slice A l.length c] w fun e w' => ∃ v, e = .returned (.tuple #[v, .int .i64 (ores l).2]) ∧ w'.ownsRow w.heap.size 5 1 v (ores l).1.length (u8s (ores l).1) ∧ Below w.heap.size w w' := by
  refine (refopen_any A c l w hr hc (by omega)).mono ?_
  rintro e w' ⟨ho, hb⟩
  unfold ores
  cases h : opn l with
  | none => exact ⟨_, opened_none' h ho, World.ownsRow_nil _ _ _ _, hb⟩
  | some m =>
    obtain ⟨v, he, hown⟩ := opened_some' h ho
    exact ⟨v, he, hown, hb⟩

set_option maxHeartbeats 800000 in
set_option maxRecDepth 100000 in
theorem frameDoes_long (A B : Option Addr) (c d : Nat) (l m : List UInt8) (w : World) (h : (20000 : Int) < (l.length : Int) ∨ (20000 : Int) < (m.length : Int)) :
    Calls Try.prog 15 #[.slice A l.length c, .slice B m.length d] w fun e w' => e = .returned (.bool true) ∧ Below w.heap.size w w' := by
  by_cases h1 : (20000 : Int) < (l.length : Int)
  · go_enter Try.func15, Try.ntmps15
    go_wp2_with fail
    go_ret
    exact ⟨rfl, Below.refl _ _⟩
  · have h2 : (20000 : Int) < (m.length : Int) := h.resolve_left h1
    clear h
    go_enter Try.func15, Try.ntmps15
    go_wp2_with fail
    go_ret
    exact ⟨rfl, Below.refl _ _⟩

/-- Bytes of the call's own, whatever they are. -/
def OB8 (w : World) (base top : Nat) (A : Option Addr) (n : Nat) : Prop := n = 0 ∨ ∃ g cur, A = some ⟨g, 0, none⟩ ∧ base ≤ g ∧ g < top ∧ w.heap[g]? = some (.cells cur 5 (0, 0)) ∧ ∀ j, j < n → ∃ u : Int, cur[j]? = some (.int .u8 u)
theorem ob_own {w : World} {base c n : Nat} {A : Option Addr} {l : List UInt8} (h : w.ownsRow base 5 1 (.slice A n c) n (u8s l)) (hn : l.length = n) : OB8 w base w.heap.size A n := by
  rcases h.2 with ⟨h0, h1⟩ | ⟨g, cap, cur, h1, h2, h3, h4, h5, h6, h7⟩
  · exact .inl (by omega)
  · right
    simp only [Value.slice.injEq] at h1
    refine ⟨g, cur, h1.1, h2, (Array.getElem?_eq_some_iff.1 h3).1, h3, fun j hj => ?_⟩
    have e : (cur.toList.take (n * 1))[j]? = (u8s l)[j]? := by rw [h7]
    rw [List.getElem?_take_of_lt (by omega), Array.getElem?_toList] at e
    have hj2 : j < l.length := by omega
    refine ⟨(l[j].toNat : Int), ?_⟩
    rw [e]
    simp [u8s, hj2]
theorem OB8.below {w w' : World} {base top B : Nat} {A : Option Addr} {n : Nat} (h : OB8 w base top A n) (hb : Below B w w') (ht : top ≤ B) : OB8 w' base top A n := by
  rcases h with h | ⟨g, cur, h1, h2, h3, h4, h5⟩
  · exact .inl h
  · exact .inr ⟨g, cur, h1, h2, h3, (hb.block g (by omega)).trans h4, h5⟩
theorem OB8.other {w : World} {base top : Nat} {A : Option Addr} {n : Nat} (h : OB8 w base top A n) {g' : Nat} (hg : g' < base ∨ top ≤ g') (off : Nat) (v : Value) : OB8 (w.setCell ⟨g', off, none⟩ v) base top A n := by
  rcases h with h | ⟨g, cur, h1, h2, h3, h4, h5⟩
  · exact .inl h
  · exact .inr ⟨g, cur, h1, h2, h3, (heap_setCell_other _ _ _ _ (by simp only; omega)).trans h4, h5⟩
theorem ob_set {w : World} {base top g n : Nat} {cur : Array Value} (h2 : base ≤ g) (h3 : g < top) (h4 : w.heap[g]? = some (.cells cur 5 (0, 0))) (h5 : ∀ j, j < n → ∃ u : Int, cur[j]? = some (.int .u8 u)) (k : Nat) (v : Int) : OB8 (w.setCell ⟨g, k, none⟩ (.int .u8 v)) base top (some ⟨g, 0, none⟩) n := by
  refine .inr ⟨g, _, rfl, h2, h3, heap_setCell_same _ _ _ _ _ _ h4, fun j hj => ?_⟩
  obtain ⟨u, hu⟩ := h5 j hj
  have hs := (Array.getElem?_eq_some_iff.1 hu).1
  by_cases e : k = j
  · subst e
    exact ⟨v, by simp [hs]⟩
  · exact ⟨u, by rw [Array.getElem?_setIfInBounds_ne e]; exact hu⟩

set_option maxHeartbeats 6400000 in
set_option maxRecDepth 100000 in
theorem frameDoes_walk (A B : Option Addr) (c d : Nat) (l m : List UInt8) (w : World) (hr : RB w w.heap.size A l) (hs : RB w w.heap.size B m) (hd : m.length ≤ d) :
    Calls Try.prog 15 #[.slice A l.length c, .slice B m.length d] w fun e w' => e = .returned (.bool true) ∧ Below w.heap.size w w' := by
  by_cases h1 : (20000 : Int) < (l.length : Int)
  · exact frameDoes_long A B c d l m w (.inl h1)
  by_cases h2 : (20000 : Int) < (m.length : Int)
  · exact frameDoes_long A B c d l m w (.inr h2)
  obtain ⟨i0, hi0, hz0, hz1, hz2⟩ := info_parts u8info
  go_enter Try.func15, Try.ntmps15
  go_wp2_with (first
    | (at_builtin; refine wpList_append_src _ rfl (.tmp 26) (.tmp 27) 23 rfl w.heap.size 5 i0 (.int .u8 0) 1 1 Try.underlying23 hi0 hz0 hz1 hz2 rfl (by decide) _ 0 [] rfl (own_empty w _ _ _ (Nat.le_refl _)) w.heap.size A l.length c (u8s l) rfl (RD.alloc hr (Nat.le_refl _) _) (u8s_one _) (by omega) (by decide) (by simp) ?_; intro v1 w1 hown1 hb1; simp only [Nat.zero_add, List.nil_append] at hown1; replace hb1 : Below w.heap.size w w1 := ((Below.refl w.heap.size w).alloc (Nat.le_refl _) _).trans hb1; have hs1 : RB w1 w1.heap.size B m := (RD.below hs hb1).more hb1.size)
    | (at_builtin; refine wpList_append_src _ rfl (.tmp 29) (.tmp 30) 23 rfl w1.heap.size 5 i0 (.int .u8 0) 1 1 Try.underlying23 hi0 hz0 hz1 hz2 rfl (by decide) _ 0 [] rfl (own_empty w1 _ _ _ (Nat.le_refl _)) w1.heap.size B m.length d (u8s m) rfl (RD.alloc hs1 (Nat.le_refl _) _) (u8s_one _) (by omega) (by decide) (by simp) ?_; intro v2 w2 hown2 hb2; simp only [Nat.zero_add, List.nil_append] at hown2; replace hb2 : Below w1.heap.size w1 w2 := ((Below.refl w1.heap.size w1).alloc (Nat.le_refl _) _).trans hb2))
  obtain ⟨A1, c1, rfl, -, -, -⟩ := own_slice hown1
  obtain ⟨A2, c2, rfl, hc2, -, -⟩ := own_slice hown2
  have hbw2 := fresh hb1 hb2
  have R1 : RB w2 w2.heap.size A1 l := (RD.below (RD.of_own hown1) hb2).more hb2.size
  have R2 : RB w2 w2.heap.size A2 m := RD.of_own hown2
  clear hown1 hown2 hb1 hb2 hs1
  go_wp2_with fail
  refine (wrap_all A1 c1 l w2 R1).mono ?_
  rintro e w3 ⟨vx, rfl, hx, hb3⟩
  have hbw3 := fresh hbw2 hb3
  go_wp2_with fail
  refine (refwrap_all A c l w3 ((RD.below hr hbw3).more hbw3.size)).mono ?_
  rintro e w4 ⟨vy, rfl, hy, hb4⟩
  have hbw4 := fresh hbw3 hb4
  have hb24 := fresh hb3 hb4
  go_wp2_with fail
  refine (open_all A2 c2 m w4 ((RD.below R2 hb24).more hb24.size) hc2 (by omega)).mono ?_
  rintro e w5 ⟨vz, rfl, hz, hb5⟩
  have hbw5 := fresh hbw4 hb5
  go_wp2_with fail
  refine (refopen_all B d m w5 ((RD.below hs hbw5).more hbw5.size) hd (by omega)).mono ?_
  rintro e w6 ⟨vu, rfl, hu, hb6⟩
  have hbw6 := fresh hbw5 hb6
  have hb46 := fresh hb5 hb6
  have hb36 := fresh hb4 hb46
  obtain ⟨AX, cX, rfl, hcX, hmX, hAX⟩ := own_slice hx
  obtain ⟨AY, cY, rfl, -, -, -⟩ := own_slice hy
  obtain ⟨AZ, cZ, rfl, hcZ, hmZ, hAZ⟩ := own_slice hz
  obtain ⟨AU, cU, rfl, -, -, -⟩ := own_slice hu
  have RX : RB w6 w6.heap.size AX (wres l).1 := (RD.below (RD.of_own hx) hb36).more hb36.size
  have RY : RB w6 w6.heap.size AY (wres l).1 := (RD.below (RD.of_own hy) hb46).more hb46.size
  have RZ : RB w6 w6.heap.size AZ (ores m).1 := (RD.below (RD.of_own hz) hb6).more hb6.size
  have RU : RB w6 w6.heap.size AU (ores m).1 := RD.of_own hu
  have k1 := conv_bytes (P := Try.prog) RX Try.underlying23 Try.underlying5 Try.underlying9 cX
  have k2 := conv_bytes (P := Try.prog) RY Try.underlying23 Try.underlying5 Try.underlying9 cY
  have k3 := conv_bytes (P := Try.prog) RZ Try.underlying23 Try.underlying5 Try.underlying9 cZ
  have k4 := conv_bytes (P := Try.prog) RU Try.underlying23 Try.underlying5 Try.underlying9 cU
  have OX : OB8 w6 w2.heap.size w3.heap.size AX (wres l).1.length := (ob_own hx rfl).below hb36 (Nat.le_refl _)
  have OZ : OB8 w6 w4.heap.size w5.heap.size AZ (ores m).1.length := (ob_own hz rfl).below hb6 (Nat.le_refl _)
  have hs34 : w3.heap.size ≤ w4.heap.size := hb4.size
  have hs24 : w2.heap.size ≤ w4.heap.size := hb24.size
  have hb26 := fresh hb24 hb46
  have HR := hide (And.intro hr (And.intro hs (And.intro R1 R2)))
  have Hs := hide (And.intro hs34 (And.intro hs24 (And.intro hbw2 hb26)))
  have hmX' : (wres l).1.length ≤ 9223372036854775807 := by
    have := hcX
    have := hmX
    unfold maxLen at this
    omega
  have hmZ' : (ores m).1.length ≤ 9223372036854775807 := by
    have := hcZ
    have := hmZ
    unfold maxLen at this
    omega
  have HmX := hide hmX'
  have HmZ := hide hmZ'
  clear RX RY RZ RU hy hu hx hz hcX hmX hAX hcZ hmZ hAZ hr hs R1 R2 hs34 hs24 hbw2 hbw3 hbw4 hbw5 hb24 hb46 hb36 hb3 hb4 hb5 hb6 hmX' hmZ'
  go_wp2_with fail
  clear k1 k2 k3 k4
  obtain ⟨NX, hNX⟩ : ∃ n, n = (wres l).1.length := ⟨_, rfl⟩
  obtain ⟨NZ, hNZ⟩ : ∃ n, n = (ores m).1.length := ⟨_, rfl⟩
  rw [← hNX] at OX HmX ⊢
  rw [← hNZ] at OZ HmZ ⊢
  clear hNX hNZ
  have HX := hide OX
  have HZ := hide OZ
  clear OX OZ
  go_loopw [16] (fun i wr => ∃ k : Nat, k ≤ NX ∧ i = .int .i64 (k : Int) ∧ Hid (OB8 wr w2.heap.size w3.heap.size AX NX) ∧ Hid (OB8 wr w4.heap.size w5.heap.size AZ NZ) ∧ Hid (Below w2.heap.size w2 wr)) (fun i _ => NX - (intOf i).toNat)
  case atStart => exact ⟨0, by omega, rfl, HX, HZ, hide hb26⟩
  case round =>
    obtain ⟨k, hk, rfl, hX, hZ, hb⟩ := hrel
    by_cases hlt : k < NX
    · obtain ⟨g, cur, rfl, h2, h3, h4, h5⟩ := hX.out.resolve_left (by omega)
      obtain ⟨u, hu⟩ := h5 k hlt
      have z0 : (k : Int) < NX := by omega
      have zB : (k : Int) < 9223372036854775807 := by have := HmX.out; omega
      have hc : wr.cell? ⟨g, k, none⟩ = some (.int .u8 u) := by rw [cell_of_row _ _ _ _ _ _ h4]; exact hu
      have hz := frozen_of_row wr g k cur _ h4
      have hX' := fun v => hide (ob_set h2 h3 h4 h5 k v)
      have hZ' := fun v => hide (hZ.out.other (g' := g) (.inl (by have := Hs.out.1; omega)) k v)
      have hb' := fun v => hide (hb.out.setCell (p := ⟨g, k, none⟩) h2 v)
      clear h4 h5 hu
      go_wp2_with fail
      go_roundw
      case rel => exact ⟨k + 1, by omega, by go_num, hX' _, hZ' _, hb' _⟩
      case measure => simp [intOf]; omega
    · have hz : ¬ (k : Int) < NX := by omega
      clear hX HX HZ
      go_wp2_with fail
      go_loopw [17] (fun i wr => ∃ k : Nat, k ≤ NZ ∧ i = .int .i64 (k : Int) ∧ Hid (OB8 wr w4.heap.size w5.heap.size AZ NZ) ∧ Hid (Below w2.heap.size w2 wr)) (fun i _ => NZ - (intOf i).toNat)
      case atStart => exact ⟨0, by omega, rfl, hZ, hb⟩
      case round =>
        obtain ⟨k, hk, rfl, hZ, hb⟩ := hrel
        by_cases hlt : k < NZ
        · obtain ⟨g, cur, rfl, h2, h3, h4, h5⟩ := hZ.out.resolve_left (by omega)
          obtain ⟨u, hu⟩ := h5 k hlt
          have z0 : (k : Int) < NZ := by omega
          have zB : (k : Int) < 9223372036854775807 := by have := HmZ.out; omega
          have hc : wr.cell? ⟨g, k, none⟩ = some (.int .u8 u) := by rw [cell_of_row _ _ _ _ _ _ h4]; exact hu
          have hz := frozen_of_row wr g k cur _ h4
          have hZ' := fun v => hide (ob_set h2 h3 h4 h5 k v)
          have hb' := fun v => hide (hb.out.setCell (p := ⟨g, k, none⟩) (Nat.le_trans Hs.out.2.1 h2) v)
          clear h4 h5 hu
          go_wp2_with fail
          go_roundw
          case rel => exact ⟨k + 1, by omega, by go_num, hZ' _, hb' _⟩
          case measure => simp [intOf]; omega
        · have hz : ¬ (k : Int) < NZ := by omega
          have hbw : Below w.heap.size w wr := Hs.out.2.2.1.trans (hb.out.mono Hs.out.2.2.1.size)
          have Q1 : RB wr wr.heap.size A1 l := (RD.below HR.out.2.2.1 hb.out).more hb.out.size
          have Q2 : RB wr wr.heap.size A2 m := (RD.below HR.out.2.2.2 hb.out).more hb.out.size
          have Q3 : RB wr wr.heap.size A l := (RD.below HR.out.1 hbw).more hbw.size
          have Q4 : RB wr wr.heap.size B m := (RD.below HR.out.2.1 hbw).more hbw.size
          have k1 := conv_bytes (P := Try.prog) Q1 Try.underlying23 Try.underlying5 Try.underlying9 c1
          have k2 := conv_bytes (P := Try.prog) Q2 Try.underlying23 Try.underlying5 Try.underlying9 c2
          have k3 := conv_bytes (P := Try.prog) Q3 Try.underlying23 Try.underlying5 Try.underlying9 c
          have k4 := conv_bytes (P := Try.prog) Q4 Try.underlying23 Try.underlying5 Try.underlying9 d
          clear Q1 Q2 Q3 Q4 hZ hb
          go_wp2_with fail
          go_ret
          exact ⟨rfl, hbw⟩
end Go.Proofs.Ytmekoenmaiekfaa
