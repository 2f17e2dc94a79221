/-
  What point.Check, strings.HasPrefix, utf8.AppendRune do (AppendRune of a code point, onto bytes of the call's own). Condition: fewer than 2^30 bytes.
-/
import Derived.Test.YtllmlnbgfikeaaaRows
import Derived.Test.YtllmlnbgfikeaaaWords
import Derived.Test.YtllmlnbgfikeaaaPointMath
namespace Go.Proofs.Ytllmlnbgfikeaaa
open Go.RowKit

set_option maxHeartbeats 400000 in
set_option maxRecDepth 100000 in
theorem check_yes (p : Nat) (w : World) (h : isP p) :
    Calls Try.prog 26 #[.int .i64 (p : Int)] w fun e w' => e = .returned (.int .i64 0) ∧ w = w' := by
  obtain ⟨h1, h2⟩ := h
  have h3 : ¬ (p : Int) < 0 := by omega
  have h4 : ¬ (1114111 : Int) < p := by omega
  rcases h2 with h2 | h2
  · have h5 : (p : Int) < 55296 := by omega
    clear h1 h2
    go_enter Try.func26, Try.ntmps26
    go_wp2
    go_ret
    exact ⟨rfl, rfl⟩
  · have h5 : (57343 : Int) < p := by omega
    have h6 : ¬ (p : Int) < 55296 := by omega
    have h7 : (p : Int) ≤ 1114111 := by omega
    clear h1 h2
    go_enter Try.func26, Try.ntmps26
    go_wp2
    go_ret
    exact ⟨rfl, rfl⟩

/-- Is a number a code point? -/
def isZ (z : Int) : Prop := 0 ≤ z ∧ isP z.toNat
instance (z : Int) : Decidable (isZ z) := by unfold isZ; infer_instance

set_option maxHeartbeats 400000 in
set_option maxRecDepth 100000 in
theorem check_no (z : Int) (w : World) (h : ¬ isZ z) :
    Calls Try.prog 26 #[.int .i64 z] w fun e w' => e = .returned (.int .i64 40) ∧ w = w' := by
  have hc : z < 0 ∨ 1114111 < z ∨ (55296 ≤ z ∧ z ≤ 57343) := by unfold isZ isP at h; omega
  clear h
  rcases hc with h1 | h1 | ⟨h1, h2⟩
  · go_enter Try.func26, Try.ntmps26
    go_wp2
    go_ret
    exact ⟨rfl, rfl⟩
  · have h3 : ¬ z < 0 := by omega
    go_enter Try.func26, Try.ntmps26
    go_wp2
    go_ret
    exact ⟨rfl, rfl⟩
  · have h3 : ¬ z < 0 := by omega
    have h4 : ¬ (1114111 : Int) < z := by omega
    have h5 : ¬ z < 55296 := by omega
    have h6 : ¬ (57343 : Int) < z := by omega
    go_enter Try.func26, Try.ntmps26
    go_wp2
    go_ret
    exact ⟨rfl, rfl⟩

theorem u8info : (Try.prog.info? 5).map (fun i => (i.zero, i.size, i.bytes)) = some (some (.int .u8 0), 1, 1) := by kernel_rfl

theorem enc_cells1 {p : Nat} (h : p < 128) : u8s (encP p) = [.int .u8 (p : Int)] := by
  rw [enc1 h]
  simp only [u8s, List.map_cons, List.map_nil, bt_nat p (by omega)]
theorem enc_cells2 {p : Nat} (h1 : 128 ≤ p) (h : p < 2048) : u8s (encP p) = [.int .u8 (192 + (p : Int) / 64), .int .u8 (128 + (p : Int) % 64)] := by
  rw [enc2 h1 h]
  simp only [u8s, List.map_cons, List.map_nil, bt_nat (192 + p / 64) (by omega), bt_nat (128 + p % 64) (by omega)]
  rfl
theorem enc_cells3 {p : Nat} (h1 : 2048 ≤ p) (h : p < 65536) : u8s (encP p) = [.int .u8 (224 + (p : Int) / 4096), .int .u8 (128 + (p : Int) / 64 % 64), .int .u8 (128 + (p : Int) % 64)] := by
  rw [enc3 h1 h]
  simp only [u8s, List.map_cons, List.map_nil, bt_nat (224 + p / 4096) (by omega), bt_nat (128 + p / 64 % 64) (by omega), bt_nat (128 + p % 64) (by omega)]
  rfl
theorem enc_cells4 {p : Nat} (h1 : 65536 ≤ p) (h : p ≤ 1114111) : u8s (encP p) = [.int .u8 (240 + (p : Int) / 262144), .int .u8 (128 + (p : Int) / 4096 % 64), .int .u8 (128 + (p : Int) / 64 % 64), .int .u8 (128 + (p : Int) % 64)] := by
  rw [enc4 h1]
  simp only [u8s, List.map_cons, List.map_nil, bt_nat (240 + p / 262144) (by omega), bt_nat (128 + p / 4096 % 64) (by omega), bt_nat (128 + p / 64 % 64) (by omega), bt_nat (128 + p % 64) (by omega)]
  rfl

section
variable {P : Program}
/-- append of cells that lie in a new block of their own, onto a row of the call's own. -/
theorem wpList_pushes {w0 : World} {cur : Array Value} {e : TypeId} {ops : Array Oper} {rest : List Oper} {o : Oper} {a : Act} {Q : Exit → Act → World → Prop} (hgd : o.guard = none) (s x : Operand) (t : TypeId)
    (ho : o.op = .call { callee := .builtin .append, args := #[s, x], argTypes := #[t, t] })
    (base : Nat) (i : TypeInfo) (z : Value) (size bytes : Nat) (ht : P.underlying t = some (.slice e)) (hi : P.info? e = some i) (hz : i.zero = some z)
    (hsize : i.size = size) (hby : i.bytes = bytes) (hzs : z.cells.size = size) (hsz : 0 < size)
    (v : Value) (n m : Nat) (xs : List Value) (hs : a.eval s = v) (hown : w0.ownsRow base e size v n xs) (c : Nat)
    (hx : a.eval x = .slice (some ⟨w0.heap.size, 0, none⟩) m c) (hl : cur.size = m * size) (h1 : cur.toList.all (fun u => u.oneCell') = true)
    (h63 : n + m < 1073741824) (hbytes : bytes ≤ 65536) (hbase : base ≤ w0.heap.size)
    (h : ∀ v' w', w'.ownsRow base e size v' (n + m) (xs ++ cur.toList) → Below base w0 w' → wpList P ops Q rest (a.put o.dst v') w') :
    wpList P ops Q (o :: rest) a (w0.alloc (.cells cur e)) := by
  refine wpList_append_own (w := w0.alloc (.cells cur e)) hgd s x t ho base e i z size bytes ht hi hz hsize hby hzs hsz v n xs hs (hown.alloc _) ⟨w0.heap.size, 0, none⟩ m c cur.toList hx (by simpa using hl) ?_ ?_
    (by unfold maxLen; omega) ?_ (by simp; omega) ?_
  · intro j u hu
    rw [add_none, Nat.zero_add, cell_of_row _ _ _ _ _ (0, 0) (heap_alloc_new w0 _), ← Array.getElem?_toList]
    exact hu
  · intro u hu
    exact (List.all_eq_true.1 h1) u hu
  · have : (n + m) * bytes ≤ (n + m) * 65536 := Nat.mul_le_mul_left _ hbytes
    omega
  · intro v' w' hown' hg _
    exact h v' w' hown' (((Below.refl base w0).alloc hbase _).trans (grown_below (hown.alloc _) hg (by simp; omega)))
end

set_option maxHeartbeats 1000000 in
set_option maxRecDepth 100000 in
theorem rune_add (B : Nat) (v : Value) (l : List UInt8) (p : Nat) (hp : isP p) (w : World) (hown : w.ownsRow B 5 1 v l.length (u8s l)) (hlen : l.length < 1073741820) (hB : B ≤ w.heap.size) :
    Calls Try.prog 34 #[v, .int .i32 (p : Int)] w fun e w' => ∃ v', e = .returned v' ∧ w'.ownsRow B 5 1 v' (l ++ encP p).length (u8s (l ++ encP p)) ∧ Below B w w' := by
  obtain ⟨i0, hi, hz0, hz1, hz2⟩ := info_parts u8info
  obtain ⟨hp1, hp2⟩ := hp
  rw [List.length_append, u8s_append, ← u8s_len (encP p)]
  obtain ⟨r, hr⟩ : ∃ r : Int, r = (p : Int) := ⟨_, rfl⟩
  by_cases h1 : p < 128
  · rw [enc_cells1 h1, ← hr]
    have a0 : 0 ≤ r := by omega
    have a1 : r ≤ 127 := by omega
    clear h1 hp1 hp2 hr
    go_enter Try.func34, Try.ntmps34
    go_wp2_with (at_builtin; refine wpList_pushes rfl _ _ 46 rfl B i0 (.int .u8 0) 1 1 Try.underlying46 hi hz0 hz1 hz2 rfl (by decide) _ _ 1 _ rfl hown 1 rfl rfl rfl (by omega) (by decide) hB ?_; intro v1 w1 hown1 hb1)
    go_ret
    exact ⟨_, rfl, hown1, hb1⟩
  by_cases h2 : p < 2048
  · rw [enc_cells2 (by omega) h2, ← hr]
    have a0 : 128 ≤ r := by omega
    have a1 : r ≤ 2047 := by omega
    clear h1 h2 hp1 hp2 hr
    go_enter Try.func34, Try.ntmps34
    go_wp2_with (first | (at_builtin; refine wpList_pushes rfl _ _ 46 rfl B i0 (.int .u8 0) 1 1 Try.underlying46 hi hz0 hz1 hz2 rfl (by decide) _ _ 2 _ rfl hown 2 rfl rfl rfl (by omega) (by decide) hB ?_; intro v1 w1 hown1 hb1) | go_in)
    go_ret
    exact ⟨_, rfl, hown1, hb1⟩
  by_cases h3 : p < 65536
  · rw [enc_cells3 (by omega) h3, ← hr]
    have a0 : 2048 ≤ r := by omega
    have a1 : r ≤ 65535 := by omega
    have aa : r < 55296 ∨ 57343 < r := by omega
    clear h1 h2 h3 hp1 hp2 hr
    rcases aa with a2 | a2
    · go_enter Try.func34, Try.ntmps34
      go_wp2_with (first | (at_builtin; refine wpList_pushes rfl _ _ 46 rfl B i0 (.int .u8 0) 1 1 Try.underlying46 hi hz0 hz1 hz2 rfl (by decide) _ _ 3 _ rfl hown 3 rfl rfl rfl (by omega) (by decide) hB ?_; intro v1 w1 hown1 hb1) | go_in)
      go_ret
      exact ⟨_, rfl, hown1, hb1⟩
    · go_enter Try.func34, Try.ntmps34
      go_wp2_with (first | (at_builtin; refine wpList_pushes rfl _ _ 46 rfl B i0 (.int .u8 0) 1 1 Try.underlying46 hi hz0 hz1 hz2 rfl (by decide) _ _ 3 _ rfl hown 3 rfl rfl rfl (by omega) (by decide) hB ?_; intro v1 w1 hown1 hb1) | go_in)
      go_ret
      exact ⟨_, rfl, hown1, hb1⟩
  · rw [enc_cells4 (by omega) hp1, ← hr]
    have a0 : 65536 ≤ r := by omega
    have a1 : r ≤ 1114111 := by omega
    clear h1 h2 h3 hp1 hp2 hr
    go_enter Try.func34, Try.ntmps34
    go_wp2_with (first | (at_builtin; refine wpList_pushes rfl _ _ 46 rfl B i0 (.int .u8 0) 1 1 Try.underlying46 hi hz0 hz1 hz2 rfl (by decide) _ _ 4 _ rfl hown 4 rfl rfl rfl (by omega) (by decide) hB ?_; intro v1 w1 hown1 hb1) | go_in)
    go_ret
    exact ⟨_, rfl, hown1, hb1⟩
end Go.Proofs.Ytllmlnbgfikeaaa
