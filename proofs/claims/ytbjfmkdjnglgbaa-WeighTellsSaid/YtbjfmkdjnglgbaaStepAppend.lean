/-
  append of a whole slice onto a row of the call's own, at a step of a region that draws its order. Condition: the sizes that Go's own run time asks.
-/
import Derived.Test.YtbjfmkdjnglgbaaAppend
import Derived.Deep.RegionHeld3
namespace Go.Proofs.Ytbjfmkdjnglgbaa
open Go.RowKit

/-- To see which operation comes up. -/
theorem is_op {P : Program} {w : World} {ops : Array Oper} {o : Oper} {a : Act} {K : Act → World → Prop} {Q : Exit → Act → World → Prop} {E : Prop} (h : if Region.wanted o (yielded ops a.tmps) = true then Oper.wp P o a w K Q else E) : if Region.wanted o (yielded ops a.tmps) = true then Oper.wp P o a w K Q else E := h

theorem step_append_src {P : Program} {w : World} {ops : Array Oper} {o : Oper} {a : Act} {K : Act → World → Prop} {Q : Exit → Act → World → Prop} {E : Prop} (hgd : o.guard = none) (s x : Operand) (t : TypeId)
    (ho : o.op = .call { callee := .builtin .append, args := #[s, x], argTypes := #[t, t] })
    (base : Nat) (e : TypeId) (i : TypeInfo) (z : Value) (size bytes : Nat) (ht : P.underlying t = some (.slice e)) (hi : P.info? e = some i) (hz : i.zero = some z)
    (hsize : i.size = size) (hby : i.bytes = bytes) (hzs : z.cells.size = size) (hsz : 0 < size)
    (v : Value) (n : Nat) (xs : List Value) (hs : a.eval s = v) (hown : w.ownsRow base e size v n xs)
    (B : Nat) (A : Option Addr) (m c : Nat) (news : List Value) (hx : a.eval x = .slice A m c) (hr : RD w B size A m news) (h1 : ∀ u ∈ news, u.oneCell' = true)
    (h63 : n + m ≤ 1073741824) (hbytes : bytes ≤ 65536) (hbase : base ≤ w.heap.size)
    (h : ∀ v' w', w'.ownsRow base e size v' (n + m) (xs ++ news) → Below base w w' → K (a.put o.dst v') w') :
    if Region.wanted o (yielded ops a.tmps) = true then Oper.wp P o a w K Q else E := by
  have hw : Region.wanted o (yielded ops a.tmps) = true := by simp [Region.wanted, hgd]
  rw [if_pos hw]
  exact wp_append_src w s x t ho base e i z size bytes ht hi hz hsize hby hzs hsz v n xs hs hown B A m c news hx hr h1 h63 hbytes hbase h

/-- A slice that reads as xs, wherever it lies. -/
def RX (w : World) (size : Nat) (A : Option Addr) (n : Nat) (xs : List Value) : Prop := ∃ B, B ≤ w.heap.size ∧ RD w B size A n xs
theorem RX.of {w : World} {B size n : Nat} {A : Option Addr} {xs : List Value} (h : RD w B size A n xs) (hB : B ≤ w.heap.size) : RX w size A n xs := ⟨B, hB, h⟩
theorem RX.alloc {w : World} {size n : Nat} {A : Option Addr} {xs : List Value} (h : RX w size A n xs) (o : Obj) : RX (w.alloc o) size A n xs := by
  obtain ⟨B, hB, h⟩ := h
  exact ⟨B, by simp; omega, RD.alloc h hB o⟩
theorem RX.drew {w : World} {size n : Nat} {A : Option Addr} {xs : List Value} (h : RX w size A n xs) : RX w.drew size A n xs := h
theorem RX.new (w : World) (cs : Array Value) (T : TypeId) (size n : Nat) (h : cs.size = n * size) : RX (w.alloc (.cells cs T)) size (some ⟨w.heap.size, 0, none⟩) n cs.toList := by
  refine ⟨_, Nat.le_refl _, by simpa using h, fun _ => ⟨_, _, rfl, by rw [World.size_alloc]; omega, fun j u hu => ?_⟩⟩
  rw [Nat.zero_add, World.cell?_alloc_new, ← Array.getElem?_toList]
  exact hu
theorem step_append_rx {P : Program} {w : World} {ops : Array Oper} {o : Oper} {a : Act} {K : Act → World → Prop} {Q : Exit → Act → World → Prop} {E : Prop} (hgd : o.guard = none) (s x : Operand) (t : TypeId)
    (ho : o.op = .call { callee := .builtin .append, args := #[s, x], argTypes := #[t, t] })
    (base : Nat) (e : TypeId) (i : TypeInfo) (z : Value) (size bytes : Nat) (ht : P.underlying t = some (.slice e)) (hi : P.info? e = some i) (hz : i.zero = some z)
    (hsize : i.size = size) (hby : i.bytes = bytes) (hzs : z.cells.size = size) (hsz : 0 < size)
    (v : Value) (n : Nat) (xs : List Value) (hs : a.eval s = v) (hown : w.ownsRow base e size v n xs)
    (A : Option Addr) (m c : Nat) (news : List Value) (hx : a.eval x = .slice A m c) (hr : RX w size A m news) (h1 : ∀ u ∈ news, u.oneCell' = true)
    (h63 : n + m ≤ 1073741824) (hbytes : bytes ≤ 65536) (hbase : base ≤ w.heap.size)
    (h : ∀ v' w', w'.ownsRow base e size v' (n + m) (xs ++ news) → Below base w w' → K (a.put o.dst v') w') :
    if Region.wanted o (yielded ops a.tmps) = true then Oper.wp P o a w K Q else E := by
  obtain ⟨B, _, hr⟩ := hr
  exact step_append_src hgd s x t ho base e i z size bytes ht hi hz hsize hby hzs hsz v n xs hs hown B A m c news hx hr h1 h63 hbytes hbase h
end Go.Proofs.Ytbjfmkdjnglgbaa
