/-
  Texts of this claim, put together: Words, Past, Float. What each theorem asks stands in its statement.
-/
import Derived.WalkKit
import Derived.WalkSpells
import Derived.WalkLawsBesides
import Derived.Lib.Hide
import Derived.Deep.Draws
import Derived.Laws.BytesArg
import Derived.Deep.QuietTactic
import Derived.BigQuiet
import Derived.Deep.RegionWith
import Derived.Maps.AppendAt
import Derived.Deep.AppendLies
import Derived.Laws.ComplexArith
set_option linter.unusedVariables false
set_option linter.unusedSimpArgs false
namespace Go.Proofs.Ytmkpfdcnikgokaa
open Go.RowKit
theorem add_none (b off n : Nat) : (⟨b, off, none⟩ : Addr).add n = ⟨b, off + n, none⟩ := by
  unfold Addr.add
  by_cases h : n = 0 <;> simp [h]
/-- The slice with address A and n elements of size cells each reads as the cells xs, all in a block below B. -/
def RD (w : World) (B size : Nat) (A : Option Addr) (n : Nat) (xs : List Value) : Prop :=
  xs.length = n * size ∧ (0 < n → ∃ b off, A = some ⟨b, off, none⟩ ∧ b < B ∧ ∀ j u, xs[j]? = some u → w.cell? ⟨b, off + j, none⟩ = some u)
section
variable {w w' : World} {B B' size n : Nat} {A : Option Addr} {xs : List Value}
theorem RD.nil_ : RD w B size A 0 [] := ⟨by simp, fun h => absurd h (by omega)⟩
theorem RD.keep (h : RD w B size A n xs) (hk : ∀ p : Addr, p.block < B → w'.cell? p = w.cell? p) : RD w' B size A n xs :=
  ⟨h.1, fun hn => by
    obtain ⟨b, off, e, hb, hc⟩ := h.2 hn
    exact ⟨b, off, e, hb, fun j u hu => (hk _ hb).trans (hc j u hu)⟩⟩
theorem RD.more (h : RD w B size A n xs) (hB : B ≤ B') : RD w B' size A n xs :=
  ⟨h.1, fun hn => by
    obtain ⟨b, off, e, hb, hc⟩ := h.2 hn
    exact ⟨b, off, e, by omega, hc⟩⟩
theorem RD.below (h : RD w B size A n xs) (hb : Below B w w') : RD w' B size A n xs := h.keep fun _ hp => hb.cell hp
theorem RD.drew (h : RD w B size A n xs) : RD w.drew B size A n xs := h
theorem RD.drewN (h : RD w B size A n xs) (k : Nat) : RD (w.drewN k) B size A n xs := h
theorem RD.alloc (h : RD w B size A n xs) (hB : B ≤ w.heap.size) (o : Obj) : RD (w.alloc o) B size A n xs := h.keep fun p hp => World.cell?_alloc_lt w o p (by omega)
theorem RD.setCell (h : RD w B size A n xs) {p : Addr} (hB : B ≤ p.block) (u : Value) : RD (w.setCell p u) B size A n xs :=
  h.keep fun q hq => World.cell?_setCell_other w p q u (fun e => by subst e; omega)
theorem RD.grown (h : RD w B size A n xs) {row : Option Nat} (hg : w.grownBy w' row) (hB : B ≤ w.heap.size) (hr : ∀ g, row = some g → B ≤ g) : RD w' B size A n xs :=
  h.keep fun p hp => World.cell?_of_block (hg.block p.block (by omega) (fun e => by have := hr _ e.symm; omega))
/-- The beginning of a slice. -/
theorem RD.take (h : RD w B size A n xs) {k : Nat} (hk : k ≤ n) : RD w B size A k (xs.take (k * size)) := by
  refine ⟨by rw [List.length_take, h.1]; exact Nat.min_eq_left (Nat.mul_le_mul_right _ hk), fun hn => ?_⟩
  obtain ⟨b, off, e, hb, hc⟩ := h.2 (by omega)
  refine ⟨b, off, e, hb, fun j u hu => hc j u ?_⟩
  rw [List.getElem?_take] at hu
  split at hu
  · exact hu
  · cases hu
/-- The rest of a slice, its address as the model writes it. -/
theorem RD.cut (h : RD w B size A n xs) {k cap : Nat} (hk : k ≤ n) (hc : n ≤ cap) :
    RD w B size (if cap = k then A else A.map (·.add (k * size))) (n - k) (xs.drop (k * size)) := by
  refine ⟨by rw [List.length_drop, h.1, Nat.sub_mul], fun hn => ?_⟩
  obtain ⟨b, off, rfl, hb, hcell⟩ := h.2 (by omega)
  rw [if_neg (by omega)]
  refine ⟨b, off + k * size, by simp [add_none], hb, fun j u hu => ?_⟩
  have := hcell (k * size + j) u (by rw [← hu, List.getElem?_drop])
  rw [← Nat.add_assoc] at this
  exact this
theorem RD.of_own {base : Nat} {e : TypeId} {c : Nat} (h : w.ownsRow base e size (.slice A n c) n xs) : RD w w.heap.size size A n xs := by
  refine ⟨h.1, fun hn => ?_⟩
  obtain ⟨g, cap, hv, _, hlt⟩ := h.form hn
  have hA : A = some ⟨g, 0, none⟩ := by injection hv
  subst hA
  refine ⟨g, 0, rfl, hlt, fun j u hu => ?_⟩
  have := h.cells (g := g) rfl j u hu
  rw [add_none] at this
  exact this
end
/-- An owned row's value is a slice with just so many elements. -/
theorem own_slice {w : World} {base : Nat} {e : TypeId} {size n : Nat} {v : Value} {xs : List Value} (h : w.ownsRow base e size v n xs) :
    ∃ A c, v = .slice A n c ∧ n ≤ c ∧ c ≤ maxLen ∧ (n = 0 ∨ ∃ g, A = some ⟨g, 0, none⟩ ∧ base ≤ g ∧ g < w.heap.size) := by
  rcases h.2 with ⟨rfl, rfl⟩ | ⟨g, cap, cur, rfl, hb, hg, hn, hm, _⟩
  · exact ⟨none, 0, rfl, Nat.le_refl _, Nat.zero_le _, .inl rfl⟩
  · exact ⟨_, cap, rfl, hn, hm, .inr ⟨g, rfl, hb, (Array.getElem?_eq_some_iff.1 hg).1⟩⟩
/-- What is owned stays owned in a world in which nothing below its size has turned. -/
theorem own_below {w w' : World} {base : Nat} {e : TypeId} {size n : Nat} {v : Value} {xs : List Value} (h : w.ownsRow base e size v n xs) {B : Nat} (hb : Below B w w') (hB : w.heap.size ≤ B) : w'.ownsRow base e size v n xs := by
  refine ⟨h.1, ?_⟩
  rcases h.2 with hn | ⟨g, cap, cur, rfl, hbg, hgg, rest⟩
  · exact .inl hn
  · exact .inr ⟨g, cap, cur, rfl, hbg, (hb.block g (by have := (Array.getElem?_eq_some_iff.1 hgg).1; omega)).trans hgg, rest⟩
theorem own_base {w : World} {base base' : Nat} {e : TypeId} {size n : Nat} {v : Value} {xs : List Value} (h : w.ownsRow base e size v n xs) (hb : base' ≤ base) : w.ownsRow base' e size v n xs := by
  refine ⟨h.1, ?_⟩
  rcases h.2 with hn | ⟨g, cap, cur, rfl, hbg, rest⟩
  · exact .inl hn
  · exact .inr ⟨g, cap, cur, rfl, Nat.le_trans hb hbg, rest⟩
/-- Behind an append: the world below the row's base. -/
theorem grown_below {w w1 : World} {base : Nat} {e : TypeId} {size n : Nat} {v : Value} {xs : List Value} (h : w.ownsRow base e size v n xs) (hg : w.grownBy w1 v.ownBlock) (hB : base ≤ w.heap.size) : Below base w w1 :=
  (Below.refl _ _).grown hg hB (fun k hk => (h.lt k hk).1)
/-- Bytes as cells. -/
def u8s (l : List UInt8) : List Value := l.map fun b => .int .u8 (b.toNat : Int)
theorem u8s_len (l : List UInt8) : (u8s l).length = l.length := by simp [u8s]
theorem u8s_append (a b : List UInt8) : u8s (a ++ b) = u8s a ++ u8s b := by simp [u8s]
theorem u8s_one (l : List UInt8) : ∀ u ∈ u8s l, u.oneCell' = true := by
  intro u hu
  simp only [u8s, List.mem_map] at hu
  obtain ⟨b, _, rfl⟩ := hu
  rfl
theorem u8s_get (l : List UInt8) (i : Nat) (h : i < l.length) : (u8s l)[i]? = some (.int .u8 (l[i].toNat : Int)) := by simp [u8s, h]
theorem u8s_take (l : List UInt8) (k : Nat) : (u8s l).take k = u8s (l.take k) := by simp [u8s, List.map_take]
theorem u8s_drop (l : List UInt8) (k : Nat) : (u8s l).drop k = u8s (l.drop k) := by simp [u8s, List.map_drop]
/-- A slice of bytes that reads as l. -/
def RB (w : World) (B : Nat) (A : Option Addr) (l : List UInt8) : Prop := RD w B 1 A l.length (u8s l)
theorem RB.cell {w : World} {B : Nat} {A : Option Addr} {l : List UInt8} (h : RB w B A l) (hl : 0 < l.length) :
    ∃ b off, A = some ⟨b, off, none⟩ ∧ b < B ∧ ∀ j (hj : j < l.length), w.cell? ⟨b, off + j, none⟩ = some (.int .u8 (l[j].toNat : Int)) := by
  obtain ⟨b, off, e, hb, hc⟩ := h.2 hl
  exact ⟨b, off, e, hb, fun j hj => hc j _ (u8s_get l j hj)⟩
section
variable {P : Program}
/-- append(out, x) of one element, out the call's own: the element lies in a new block of its own. -/
theorem wpList_push {w0 : World} {cur : Array Value} {e : TypeId} {ops : Array Oper} {rest : List Oper} {o : Oper} {a : Act} {Q : Exit → Act → World → Prop} (hgd : o.guard = none) (s x : Operand) (t : TypeId)
    (ho : o.op = .call { callee := .builtin .append, args := #[s, x], argTypes := #[t, t] })
    (base : Nat) (i : TypeInfo) (z : Value) (size bytes : Nat) (ht : P.underlying t = some (.slice e)) (hi : P.info? e = some i) (hz : i.zero = some z)
    (hsize : i.size = size) (hby : i.bytes = bytes) (hzs : z.cells.size = size) (hsz : 0 < size)
    (v : Value) (n : Nat) (xs : List Value) (hs : a.eval s = v) (hown : w0.ownsRow base e size v n xs) (c : Nat)
    (hx : a.eval x = .slice (some ⟨w0.heap.size, 0, none⟩) 1 c) (hl : cur.size = size) (h1 : cur.toList.all (fun u => u.oneCell') = true)
    (h63 : n < 1073741824) (hbytes : bytes ≤ 65536) (hbase : base ≤ w0.heap.size)
    (h : ∀ v' w', w'.ownsRow base e size v' (n + 1) (xs ++ cur.toList) → Below base w0 w' → wpList P ops Q rest (a.put o.dst v') w') :
    wpList P ops Q (o :: rest) a (w0.alloc (.cells cur e)) := by
  refine wpList_append_own (w := w0.alloc (.cells cur e)) hgd s x t ho base e i z size bytes ht hi hz hsize hby hzs hsz v n xs hs (hown.alloc _) ⟨w0.heap.size, 0, none⟩ 1 c cur.toList hx (by simpa using hl) ?_ ?_
    (by unfold maxLen; omega) ?_ (by simp; omega) ?_
  · intro j u hu
    rw [add_none, Nat.zero_add, cell_of_row _ _ _ _ _ (0, 0) (heap_alloc_new w0 _), ← Array.getElem?_toList]
    exact hu
  · intro u hu
    exact (List.all_eq_true.1 h1) u hu
  · have : (n + 1) * bytes ≤ (n + 1) * 65536 := Nat.mul_le_mul_left _ hbytes
    omega
  · intro v' w' hown' hg _
    exact h v' w' hown' (((Below.refl base w0).alloc hbase _).trans (grown_below (hown.alloc _) hg (by simp; omega)))
end
/-- A row of bytes that is known whole. -/
theorem RB.row {w : World} {g : Nat} {cs : Array Value} {e : TypeId} {fr : Nat × Nat} {l : List UInt8} (h : w.heap[g]? = some (.cells cs e fr)) (hl : cs.toList = u8s l) : RB w w.heap.size (some ⟨g, 0, none⟩) l :=
  ⟨by simp [u8s_len], fun _ => ⟨g, 0, rfl, (Array.getElem?_eq_some_iff.1 h).1, fun j u hu => by
    rw [Nat.zero_add, cell_of_row _ _ _ _ _ _ h, ← Array.getElem?_toList, hl]
    exact hu⟩⟩
section
variable {P : Program}
/-- string(b) of bytes that read as l. -/
theorem conv_bytes {w : World} {B : Nat} {A : Option Addr} {l : List UInt8} (h : RB w B A l) {src dst e : TypeId} (hs : P.underlying src = some (.slice e)) (he : P.underlying e = some (.int .u8)) (hd : P.underlying dst = some .string) (c : Nat) :
    (convert src dst (.slice A l.length c)).run P w = .ok (.string ⟨l.toArray⟩) w := by
  have hm : strOfNums (l.map fun b => (b.toNat : Int)) = ⟨l.toArray⟩ := by
    unfold strOfNums
    congr 2
    rw [List.map_map]
    refine (List.map_congr_left (g := id) (fun b _ => ?_)).trans (List.map_id _)
    simp [Function.comp]
  rcases Nat.eq_zero_or_pos l.length with h0 | h0
  · obtain rfl := List.eq_nil_of_length_eq_zero h0
    rcases A with _ | ad
    · exact run_convert_bytes_nil w src e hs he _ c dst hd
    · rw [run_convert_bytes_string w src dst e _ _ c hs he hd, run_bytesToString w ad _ c [] (by simpa using run_loadCells_list (P := P) w ad [] (fun j v hj => by simp at hj))]
      rfl
  · obtain ⟨b, off, rfl, _, hc⟩ := h.cell h0
    rw [← hm]
    exact run_convert_bytes_arg w src e hs he b off l.length c (l.map fun b => (b.toNat : Int)) (by simp) (fun i hi => by rw [hc i hi]; simp [List.getElem?_eq_getElem hi]) dst hd
end
/-- Two steps behind one another, each of which leaves what was there as it was. -/
theorem fresh {w w1 w2 : World} (h1 : Below w.heap.size w w1) (h2 : Below w1.heap.size w1 w2) : Below w.heap.size w w2 := h1.trans (h2.mono h1.size)
theorem ret_bool {b c : Bool} (h : b = c) : Ending.returned (.bool b) = .returned (.bool c) := by rw [h]
theorem ret_val {k : IntKind} {a b : Int} (h : a = b) : Value.int k a = .int k b := by rw [h]
theorem ret_int {k : IntKind} {a b : Int} (h : a = b) : Ending.returned (.int k a) = .returned (.int k b) := by rw [h]
/-- A scope in which the run jumps back to one label: one walk from the label serves the first pass and every other. -/
theorem wp_scope_goto {P : Program} {a : Act} {w : World} {Q : Exit → Act → World → Prop} {c rest : Code} (l : Nat) (J : Act → World → Prop) (μ : Act → World → Nat) (hf : findLabel c l = some (Code.skip.seq rest))
    (first : ∀ K : Exit → Act → World → Prop, (∀ a w, J a w → rest.wp P K a w) → c.wp P K a w)
    (pass : ∀ a w, J a w → rest.wp P (Exit.jump l (fun a' w' => J a' w' ∧ μ a' w' < μ a w) Q) a w) : (Code.scope c).wp P Q a w :=
  wp_scope_jumps l J μ hf (first _ fun a w hJ => Code.wp_mono (fun e a' w' h => by
    cases e with
    | goto l' => exact ⟨h.1, h.2.1⟩
    | _ => exact h) (pass a w hJ)) fun a w hJ => wp_seq (wp_skip (pass a w hJ))
theorem below_drewN {B : Nat} {a w : World} (h : Below B a w) (n : Nat) : Below B a (w.drewN n) := ⟨h.os, h.tape, h.output, h.size, h.block⟩
theorem hide {p : Prop} (h : p) : Hid p := h
theorem unhide {p : Prop} (h : Hid p) : p := h
end Go.Proofs.Ytmkpfdcnikgokaa
namespace Go.Proofs.Ytmkpfdcnikgokaa
open Go.RowKit
/-- A world in which all that w holds stands as it does in w. -/
noncomputable def past (w W : World) : World := @ite World (Below w.heap.size w W) (Classical.propDecidable _) W w
theorem below_past (w W : World) : Below w.heap.size w (past w W) := by
  unfold past
  by_cases h : Below w.heap.size w W
  · rw [if_pos h]; exact h
  · rw [if_neg h]; exact Below.refl _ _
theorem past_of {w W : World} (h : Below w.heap.size w W) : W = past w W := by unfold past; rw [if_pos h]
@[go_sem] theorem cell?_past (w W : World) (a : Addr) (h : a.block < w.heap.size) : (past w W).cell? a = w.cell? a := (below_past w W).cell h
@[go_sem] theorem frozen?_past (w W : World) (a : Addr) (h : a.block < w.heap.size) : (past w W).frozen? a = w.frozen? a := (below_past w W).frozen h
/-- A callee's contract met in such a world. -/
theorem past_call {P : Program} {f : FuncId} {args : Array Value} {w W : World} {v : Value}
    (h : Calls P f args (past w W) fun e w' => e = .returned v ∧ Below (past w W).heap.size (past w W) w') : Calls P f args (past w W) fun e w' => e = .returned v ∧ ∃ u, w' = past w u :=
  h.mono fun _ w' ⟨he, hb⟩ => ⟨he, w', past_of ((below_past w W).trans (hb.mono (below_past w W).size))⟩
/-- The region, its operations written out. -/
theorem wp_region_past {P : Program} {id : Nat} {Q : Exit → Act → World → Prop} {a : Act} {w : World} {l : List Oper} (hm : P.follows .mixedOrders = true) (hB : Region.lexB .any l.toArray = true)
    (h : wpQuiet P l.toArray (fun w' => ∃ u, w' = past w u) (fun a' => ∀ w', (∃ u, w' = past w u) → Q .normal a' w') l a) : (Code.region id l.toArray true).wp P Q a w :=
  wp_region_quiet (C := fun w' => ∃ u, w' = past w u) hm hB ⟨w.drew, past_of (Below.refl _ _).drew⟩ (by simpa using h)
end Go.Proofs.Ytmkpfdcnikgokaa
namespace Go.Proofs.Ytmkpfdcnikgokaa
open Ieee
/-- The rung of a whole number. -/
def rungOf (n : Nat) : Nat := (n.log2 + 1022) * 2 ^ 52 + n * 2 ^ (52 - n.log2)
theorem log2_le52 {n : Nat} (h0 : 0 < n) (h : n < 2 ^ 53) : n.log2 ≤ 52 := by
  have := (Nat.log2_lt (by omega : n ≠ 0)).2 h
  omega
theorem log2_pow (n s : Nat) (h0 : 0 < n) : (n * 2 ^ s).log2 = n.log2 + s := by
  have hne : n * 2 ^ s ≠ 0 := Nat.mul_ne_zero (by omega) (by have := Nat.two_pow_pos s; omega)
  rw [Nat.log2_eq_iff hne]
  have h1 := (Nat.log2_eq_iff (by omega : n ≠ 0)).1 rfl
  refine ⟨?_, ?_⟩
  · rw [Nat.pow_add]; exact Nat.mul_le_mul_right _ h1.1
  · rw [show n.log2 + s + 1 = (n.log2 + 1) + s by omega, Nat.pow_add]
    exact Nat.mul_lt_mul_of_pos_right h1.2 (Nat.two_pow_pos s)
theorem frac_bounds {n : Nat} (h0 : 0 < n) (h : n < 2 ^ 53) : 2 ^ 52 ≤ n * 2 ^ (52 - n.log2) ∧ n * 2 ^ (52 - n.log2) < 2 ^ 53 := by
  have h1 := (Nat.log2_eq_iff (by omega : n ≠ 0)).1 rfl
  have hl := log2_le52 h0 h
  constructor
  · calc 2 ^ 52 = 2 ^ n.log2 * 2 ^ (52 - n.log2) := by rw [← Nat.pow_add]; congr 1; omega
      _ ≤ _ := Nat.mul_le_mul_right _ h1.1
  · calc n * 2 ^ (52 - n.log2) < 2 ^ (n.log2 + 1) * 2 ^ (52 - n.log2) := Nat.mul_lt_mul_of_pos_right h1.2 (Nat.two_pow_pos _)
      _ = 2 ^ 53 := by rw [← Nat.pow_add]; congr 1; omega
theorem rung_lt {n : Nat} (h0 : 0 < n) (h : n < 2 ^ 53) : rungOf n < 2047 * 2 ^ 52 := by
  have hl := log2_le52 h0 h
  have hfb := frac_bounds h0 h
  unfold rungOf
  have : (n.log2 + 1022) * 2 ^ 52 ≤ 1074 * 2 ^ 52 := Nat.mul_le_mul_right _ (by omega)
  omega
theorem cut_zero (neg : Bool) (n : Nat) : Toward.even.cut neg n 0 = n := by
  unfold Toward.cut
  simp [Nat.mod_one]
theorem cut_exact (neg : Bool) (n r : Nat) (hn : 0 < n) : Toward.even.cut neg (n * 2 ^ r) r = n := by
  unfold Toward.cut
  have hm : min r ((n * 2 ^ r).log2 + 2) = r := by rw [log2_pow n r hn]; omega
  rw [hm, Nat.one_shiftLeft]
  simp only [Nat.mul_mod_left, Nat.mul_div_cancel _ (Nat.two_pow_pos r)]
  have := Nat.two_pow_pos r
  have e1 : (2 ^ r < 2 * 0) = False := by simp
  have e2 : (2 ^ r == 2 * 0) = false := by simp
  simp [e2]
/-- A whole number, however it is scaled, has one word. -/
theorem nearest_scale (neg : Bool) (n s : Nat) (h0 : 0 < n) (h : n < 2 ^ 53) : double.nearest neg (n * 2 ^ s) (-(s : Int)) = double.word neg (rungOf n) := by
  have hl := log2_le52 h0 h
  have hfb := frac_bounds h0 h
  have hne : n * 2 ^ s ≠ 0 := Nat.mul_ne_zero (by omega) (by have := Nat.two_pow_pos s; omega)
  have hlp : double.leastPlace = -1074 := by decide
  have hlast : max (-(s : Int) + ((n * 2 ^ s).log2 : Nat) - (double.fractionBits : Nat)) (-1074) = (n.log2 : Int) - 52 := by
    rw [log2_pow n s h0]
    have : (double.fractionBits : Nat) = 52 := rfl
    rw [this]
    omega
  unfold Format.nearest
  rw [if_neg hne]
  simp only [hlp]
  rw [hlast]
  have hkept : Toward.even.cut neg ((n * 2 ^ s) <<< (-(s : Int) - ((n.log2 : Int) - 52)).toNat) (((n.log2 : Int) - 52) - -(s : Int)).toNat = n * 2 ^ (52 - n.log2) := by
    by_cases hs : s ≤ 52 - n.log2
    · have e1 : (-(s : Int) - ((n.log2 : Int) - 52)).toNat = 52 - n.log2 - s := by omega
      have e2 : (((n.log2 : Int) - 52) - -(s : Int)).toNat = 0 := by omega
      rw [e1, e2, cut_zero, Nat.shiftLeft_eq, Nat.mul_assoc, ← Nat.pow_add]
      congr 2
      omega
    · have e1 : (-(s : Int) - ((n.log2 : Int) - 52)).toNat = 0 := by omega
      obtain ⟨r, hr⟩ : ∃ r, s = (52 - n.log2) + r := ⟨s - (52 - n.log2), by omega⟩
      have e2 : (((n.log2 : Int) - 52) - -(s : Int)).toNat = r := by omega
      rw [e1, e2, Nat.shiftLeft_zero, hr, Nat.pow_add, ← Nat.mul_assoc]
      exact cut_exact neg _ r (by omega)
  rw [hkept]
  have ei : ((n.log2 : Int) - 52 - -1074).toNat = n.log2 + 1022 := by omega
  have hinf : double.infRung = 2047 * 2 ^ 52 := by decide
  have hbin : double.binade = 2 ^ 52 := by decide
  have hmin : min ((n.log2 + 1022) * 2 ^ 52 + n * 2 ^ (52 - n.log2)) (2047 * 2 ^ 52) = rungOf n := by
    show min (rungOf n) (2047 * 2 ^ 52) = rungOf n
    exact Nat.min_eq_left (Nat.le_of_lt (rung_lt h0 h))
  rw [ei, hinf, hbin, hmin]
/-- What the word of a whole number stands for. -/
theorem read_word (neg : Bool) (n : Nat) (h0 : 0 < n) (h : n < 2 ^ 53) : double.read (double.word neg (rungOf n)) = .number neg (n * 2 ^ (52 - n.log2)) ((n.log2 : Int) - 52) := by
  have hl := log2_le52 h0 h
  have hfb := frac_bounds h0 h
  have hinf : double.infRung = 2047 * 2 ^ 52 := by decide
  have hbin : double.binade = 2 ^ 52 := by decide
  have hsw : double.signWeight = 2 ^ 63 := by decide
  have hlp : double.leastPlace = -1074 := by decide
  have hr1 := rung_lt h0 h
  have hr2 : 2 ^ 52 ≤ rungOf n := by unfold rungOf; omega
  have hdiv : rungOf n / 2 ^ 52 = n.log2 + 1023 := by unfold rungOf; omega
  have hmod : rungOf n % 2 ^ 52 = n * 2 ^ (52 - n.log2) - 2 ^ 52 := by unfold rungOf; omega
  have hw : double.word neg (rungOf n) % 2 ^ 63 = rungOf n := by
    unfold Format.word
    rw [hsw]
    cases neg
    · simp only [Bool.false_eq_true, if_false]; exact Nat.mod_eq_of_lt (by omega)
    · simp only [if_true]; rw [Nat.add_mod_left]; exact Nat.mod_eq_of_lt (by omega)
  have hneg : (double.word neg (rungOf n) / 2 ^ 63 % 2 == 1) = neg := by
    unfold Format.word
    rw [hsw]
    cases neg
    · simp only [Bool.false_eq_true, if_false]
      have : rungOf n / 2 ^ 63 = 0 := Nat.div_eq_of_lt (by omega)
      rw [this]; rfl
    · simp only [if_true]
      have : (2 ^ 63 + rungOf n) / 2 ^ 63 = 1 := by omega
      rw [this]; rfl
  unfold Format.read
  simp only [hsw, hw, hneg, hbin, hinf, hlp]
  rw [if_neg (by omega), if_pos hr1, hdiv, hmod]
  have a : 2 ^ 52 + (n * 2 ^ (52 - n.log2) - 2 ^ 52) = n * 2 ^ (52 - n.log2) := by omega
  have b : (-1074 : Int) + ((n.log2 + 1023 - 1 : Nat) : Int) = (n.log2 : Int) - 52 := by omega
  rw [a, b]
/-- A whole number's word. -/
def fv (n : Nat) : Nat := floatOfInt .f64 (n : Int)
theorem fv_zero : fv 0 = 0 := by decide +kernel
theorem fv_eq (n : Nat) (h0 : 0 < n) (h : n < 2 ^ 53) : fv n = double.word false (rungOf n) := by
  have := nearest_scale false n 0 h0 h
  simp only [Nat.pow_zero, Nat.mul_one, Int.ofNat_zero, Int.neg_zero] at this
  rw [← this]
  have hn : decide ((n : Int) < 0) = false := by simp
  show double.write (.number (decide ((n : Int) < 0)) (n : Int).natAbs 0) = _
  rw [hn, Int.natAbs_natCast]
  rfl
theorem read_zero : double.read 0 = .number false 0 (-1074) := by decide +kernel
/-- What it stands for, zero or not: the number is its magnitude, scaled. -/
theorem read_fv (n : Nat) (h : n < 2 ^ 53) : ∃ s : Nat, double.read (fv n) = .number false (n * 2 ^ s) (-(s : Int)) := by
  rcases Nat.eq_zero_or_pos n with rfl | h0
  · obtain ⟨s, hs⟩ : ∃ s : Nat, s = 1074 := ⟨_, rfl⟩
    exact ⟨s, by rw [fv_zero, read_zero, Nat.zero_mul, hs]; rfl⟩
  · refine ⟨52 - n.log2, ?_⟩
    have hl := log2_le52 h0 h
    rw [fv_eq n h0 h, read_word false n h0 h]
    have b : (n.log2 : Int) - 52 = -((52 - n.log2 : Nat) : Int) := by omega
    rw [b]
/-- The word of what is a whole number, scaled. -/
theorem write_scale (n s : Nat) (h : n < 2 ^ 53) : double.write (.number false (n * 2 ^ s) (-(s : Int))) = fv n := by
  rcases Nat.eq_zero_or_pos n with rfl | h0
  · rw [Nat.zero_mul, fv_zero]; rfl
  · rw [fv_eq n h0 h]; exact nearest_scale false n s h0 h
theorem mul_fv (a b : Nat) (ha : a < 2 ^ 53) (hb : b < 2 ^ 53) (h : a * b < 2 ^ 53) : floatBits .mul .f64 (fv a) (fv b) = some (fv (a * b)) := by
  obtain ⟨s, hs⟩ := read_fv a ha
  obtain ⟨t, ht⟩ := read_fv b hb
  show double.mul (fv a) (fv b) = _
  unfold Format.mul
  rw [hs, ht]
  show some (double.write (.number (false ^^ false) (a * 2 ^ s * (b * 2 ^ t)) (-(s : Int) + -(t : Int)))) = _
  have e1 : a * 2 ^ s * (b * 2 ^ t) = a * b * 2 ^ (s + t) := by rw [Nat.pow_add]; simp only [Nat.mul_assoc, Nat.mul_left_comm]
  have e2 : -(s : Int) + -(t : Int) = -((s + t : Nat) : Int) := by omega
  rw [e1, e2]
  exact congrArg some (write_scale (a * b) (s + t) h)
theorem sum_scale (a b s t : Nat) : ∃ r : Nat, Datum.sum (.number false (a * 2 ^ s) (-(s : Int))) (.number false (b * 2 ^ t) (-(t : Int))) = some (.number false ((a + b) * 2 ^ r) (-(r : Int))) := by
  refine ⟨max s t, ?_⟩
  have hb : min (-(s : Int)) (-(t : Int)) = -((max s t : Nat) : Int) := by omega
  have e1 : (-(s : Int) - -((max s t : Nat) : Int)).toNat = max s t - s := by omega
  have e2 : (-(t : Int) - -((max s t : Nat) : Int)).toNat = max s t - t := by omega
  have k1 : a * 2 ^ s * 2 ^ (max s t - s) = a * 2 ^ (max s t) := by rw [Nat.mul_assoc, ← Nat.pow_add]; congr 2; omega
  have k2 : b * 2 ^ t * 2 ^ (max s t - t) = b * 2 ^ (max s t) := by rw [Nat.mul_assoc, ← Nat.pow_add]; congr 2; omega
  have tot : signed false (a * 2 ^ s) (max s t - s) + signed false (b * 2 ^ t) (max s t - t) = (((a + b) * 2 ^ (max s t) : Nat) : Int) := by
    unfold signed
    rw [Nat.shiftLeft_eq, Nat.shiftLeft_eq, k1, k2, Nat.add_mul]
    simp
  unfold Datum.sum
  simp only [hb, e1, e2, tot]
  generalize (a + b) * 2 ^ (max s t) = x
  have hn : decide ((x : Int) < 0) = false := by simp
  rw [hn, Int.natAbs_natCast]
  split <;> rfl
theorem add_fv (a b : Nat) (ha : a < 2 ^ 53) (hb : b < 2 ^ 53) (h : a + b < 2 ^ 53) : floatBits .add .f64 (fv a) (fv b) = some (fv (a + b)) := by
  obtain ⟨s, hs⟩ := read_fv a ha
  obtain ⟨t, ht⟩ := read_fv b hb
  show double.add (fv a) (fv b) = _
  unfold Format.add
  rw [hs, ht]
  obtain ⟨r, hr⟩ := sum_scale a b s t
  rw [hr]
  exact congrArg some (write_scale (a + b) r h)
theorem int_fv (n : Nat) (h : n < 2 ^ 53) : floatToIntVal .f64 (fv n) .i64 = some (n : Int) := by
  obtain ⟨s, hs⟩ := read_fv n h
  unfold floatToIntVal
  have : (FloatKind.f64.decode (fv n)).toInt .zero = some (n : Int) := by
    show (double.read (fv n)).toInt .zero = _
    rw [hs]
    unfold Datum.toInt Datum.integral
    have e1 : (-(s : Int)).toNat = 0 := by omega
    have e2 : (- -(s : Int)).toNat = s := by omega
    simp only [e1, e2, Nat.shiftLeft_zero]
    have hc : Toward.zero.cut false (n * 2 ^ s) s = n := by
      rcases Nat.eq_zero_or_pos n with rfl | h0
      · unfold Toward.cut; simp
      · unfold Toward.cut
        have hm : min s ((n * 2 ^ s).log2 + 2) = s := by rw [log2_pow n s h0]; omega
        rw [hm, Nat.one_shiftLeft]
        simp [Nat.mul_div_cancel _ (Nat.two_pow_pos s)]
    rw [hc]
    simp [signed]
  rw [this]
  have h1 : IntKind.i64.min ≤ (n : Int) ∧ (n : Int) ≤ IntKind.i64.max := by
    have e1 : IntKind.i64.min = -9223372036854775808 := by decide
    have e2 : IntKind.i64.max = 9223372036854775807 := by decide
    rw [e1, e2]
    omega
  simp only [h1, and_self, if_true]
end Go.Proofs.Ytmkpfdcnikgokaa
