/-
  Texts of this claim, put together: LinkMath, Past, PastQ. What each theorem asks stands in its statement.
-/
import Derived.Test.YtmkpfdcnikgokaaProg
import Derived.Test.YtmkpfdcnikgokaaGa1
namespace Go.Proofs.Ytmkpfdcnikgokaa
open Go.RowKit
theorem fboxF (w : World) (o : Obj) : Below w.heap.size w (w.alloc o) := (Below.refl w.heap.size w).alloc (Nat.le_refl _) o
/-- A frame of a list, as it lies. -/
structure FrL where
  A : Option Addr
  c : Nat
  b : List UInt8
def FrL.cell (x : FrL) : Value := .slice x.A x.b.length x.c
def frs (L : List FrL) : List Value := L.map FrL.cell
theorem frs_len (L : List FrL) : (frs L).length = L.length := by simp [frs]
theorem frs_append (L M : List FrL) : frs (L ++ M) = frs L ++ frs M := by simp [frs]
theorem frs_one (L : List FrL) : ∀ u ∈ frs L, u.oneCell' = true := by
  intro u hu
  obtain ⟨x, -, rfl⟩ := List.mem_map.1 hu
  rfl
/-- A list of frames that is read. -/
def RF (w : World) (B : Nat) (A : Option Addr) (L : List FrL) : Prop := RD w B 1 A L.length (frs L) ∧ ∀ x ∈ L, RB w B x.A x.b
theorem RF.below {w w' : World} {B : Nat} {A : Option Addr} {L : List FrL} (h : RF w B A L) (hb : Below B w w') : RF w' B A L := ⟨RD.below h.1 hb, fun x hx => RD.below (h.2 x hx) hb⟩
theorem RF.more {w : World} {B B' : Nat} {A : Option Addr} {L : List FrL} (h : RF w B A L) (hB : B ≤ B') : RF w B' A L := ⟨RD.more h.1 hB, fun x hx => RD.more (h.2 x hx) hB⟩
theorem RF.nil (w : World) (B : Nat) (A : Option Addr) : RF w B A [] := ⟨RD.nil_, fun x hx => by cases hx⟩
theorem RF.cell {w : World} {B : Nat} {A : Option Addr} {L : List FrL} (h : RF w B A L) (hl : 0 < L.length) : ∃ b off, A = some ⟨b, off, none⟩ ∧ b < B ∧ ∀ j (hj : j < L.length), w.cell? ⟨b, off + j, none⟩ = some (.slice L[j].A L[j].b.length L[j].c) := by
  obtain ⟨b, off, e, hb, hc⟩ := h.1.2 hl
  refine ⟨b, off, e, hb, fun j hj => hc j _ ?_⟩
  simp [frs, hj, FrL.cell]
theorem RF.less {w : World} {B : Nat} {A : Option Addr} {L : List FrL} (h : RF w B A L) (k : Nat) : RF w B A (L.take k) := by
  refine ⟨⟨by rw [frs_len, Nat.mul_one], fun h0 => ?_⟩, fun x hx => h.2 x (List.mem_of_mem_take hx)⟩
  rw [List.length_take] at h0
  obtain ⟨b, off, e, hb, hc⟩ := h.1.2 (by omega)
  refine ⟨b, off, e, hb, fun j u hu => hc j u ?_⟩
  have e2 : frs L = frs (L.take k) ++ frs (L.drop k) := by rw [← frs_append, List.take_append_drop]
  rw [e2, List.getElem?_append_left (List.getElem?_eq_some_iff.1 hu).1]
  exact hu
/-- A list of frames in memory of the call's own. -/
def OF (w : World) (base : Nat) (A : Option Addr) (c : Nat) (L : List FrL) : Prop :=
  w.ownsRow base 28 1 (.slice A L.length c) L.length (frs L) ∧ ∀ x ∈ L, w.ownsRow base 5 1 (.slice x.A x.b.length x.c) x.b.length (u8s x.b)
theorem OF.below {w w' : World} {base c : Nat} {A : Option Addr} {L : List FrL} (h : OF w base A c L) (hb : Below w.heap.size w w') : OF w' base A c L :=
  ⟨own_below h.1 hb (Nat.le_refl _), fun x hx => own_below (h.2 x hx) hb (Nat.le_refl _)⟩
theorem OF.rf {w : World} {base c : Nat} {A : Option Addr} {L : List FrL} (h : OF w base A c L) : RF w w.heap.size A L :=
  ⟨RD.of_own h.1, fun x hx => RD.of_own (h.2 x hx)⟩
theorem OF.nil (w : World) (base : Nat) : OF w base none 0 [] := ⟨World.ownsRow_nil _ _ _ _, fun x hx => by cases hx⟩
theorem fr_less {w : World} {base B : Nat} {e : TypeId} {size n : Nat} {v : Value} {L : List Value} (h : w.ownsRow base e size v n L) (hB : B ≤ base) : w.ownsRow B e size v n L := by
  refine ⟨h.1, ?_⟩
  rcases h.2 with h0 | ⟨g, cap, cur, h1, h2, h3⟩
  · exact .inl h0
  · exact .inr ⟨g, cap, cur, h1, Nat.le_trans hB h2, h3⟩
theorem OF.less {w : World} {base B c : Nat} {A : Option Addr} {L : List FrL} (h : OF w base A c L) (hB : B ≤ base) : OF w B A c L := ⟨fr_less h.1 hB, fun x hx => fr_less (h.2 x hx) hB⟩
theorem fr_kept {w w' : World} {base : Nat} {e e' : TypeId} {size n : Nat} {v : Value} {L : List Value} (h : w.ownsRow base e size v n L) (hne : e ≠ e') (hk : ∀ (b : Nat) (o' : Obj), w.heap[b]? = some o' → (∀ cur, o' ≠ .cells cur e' (0, 0)) → w'.heap[b]? = some o') : w'.ownsRow base e size v n L := by
  refine ⟨h.1, ?_⟩
  rcases h.2 with h0 | ⟨g, cap, cur, h1, h2, h3, h4⟩
  · exact .inl h0
  · exact .inr ⟨g, cap, cur, h1, h2, hk g _ h3 (fun cur e => by simp only [Obj.cells.injEq] at e; exact hne e.2.1), h4⟩
theorem frinfo : (Try.prog.info? 28).map (fun i => (i.zero, i.size, i.bytes)) = some (some (.slice none 0 0), 1, 24) := by kernel_rfl
theorem fru8 : (Try.prog.info? 5).map (fun i => (i.zero, i.size, i.bytes)) = some (some (.int .u8 0), 1, 1) := by kernel_rfl
/-- append of frames onto a list of the call's own, the rows that it leaves being said. -/
theorem wpList_append_kept {P : Program} (w : World) {ops : Array Oper} {rest : List Oper} {o : Oper} {a : Act} {Q : Exit → Act → World → Prop} (hgd : o.guard = none) (s x : Operand) (t : TypeId)
    (ho : o.op = .call { callee := .builtin .append, args := #[s, x], argTypes := #[t, t] })
    (base : Nat) (e : TypeId) (i : TypeInfo) (z : Value) (size bytes : Nat) (ht : P.underlying t = some (.slice e)) (hi : P.info? e = some i) (hz : i.zero = some z)
    (hsize : i.size = size) (hby : i.bytes = bytes) (hzs : z.cells.size = size) (hsz : 0 < size)
    (v : Value) (n : Nat) (xs : List Value) (hs : a.eval s = v) (hown : w.ownsRow base e size v n xs)
    (B : Nat) (A : Option Addr) (m c : Nat) (news : List Value) (hx : a.eval x = .slice A m c) (hr : RD w B size A m news) (h1 : ∀ u ∈ news, u.oneCell' = true)
    (h63 : n + m ≤ 1073741824) (hbytes : bytes ≤ 65536) (hbase : base ≤ w.heap.size)
    (h : ∀ v' w', w'.ownsRow base e size v' (n + m) (xs ++ news) → Below base w w' → (∀ (b : Nat) (o' : Obj), w.heap[b]? = some o' → (∀ cur, o' ≠ .cells cur e (0, 0)) → w'.heap[b]? = some o') → wpList P ops Q rest (a.put o.dst v') w') : wpList P ops Q (o :: rest) a w := by
  refine wpList_plain hgd fun K hK => ?_
  have hb' : (n + m) * bytes ≤ 140737488355328 := by
    have : (n + m) * bytes ≤ (n + m) * 65536 := Nat.mul_le_mul_left _ hbytes
    omega
  obtain ⟨v', w', hrun, h2, h3⟩ := run_append_src (P := P) w base t o.type e i z size bytes ht hi hz hsize hby hzs hsz v n xs hown B A m c news hr h1 (by unfold maxLen; omega) hb' hbase
  have hkeep : ∀ (b : Nat) (o' : Obj), w.heap[b]? = some o' → (∀ cur, o' ≠ .cells cur e (0, 0)) → w'.heap[b]? = some o' := by
    intro b o' hb hne
    obtain ⟨-, -, -, -, hk⟩ := h3
    rw [hk b (Array.getElem?_eq_some_iff.1 hb).1 ?_]
    · exact hb
    · rcases hown.2 with ⟨rfl, _⟩ | ⟨g, cap, cur, rfl, _, hg, _⟩
      · intro e1; cases e1
      · intro e1
        simp only [Value.ownBlock, Option.some.injEq] at e1
        subst e1
        rw [hg] at hb
        exact hne cur (Option.some.inj hb).symm
  unfold Oper.wp execOp
  simp only [ho, resolve, invoke, builtin, Sem.run_bind, Sem.run_pure, Result.andThen_ok, List.map_toArray, List.map_cons, List.map_nil, hs, hx, hrun]
  exact hK _ _ (h v' w' h2 (grown_below hown h3 hbase) hkeep)
/-- append of one frame of the call's own. -/
theorem wpList_append_fr (w : World) {ops : Array Oper} {rest : List Oper} {o : Oper} {a : Act} {Q : Exit → Act → World → Prop} (hgd : o.guard = none) (s x : Operand)
    (ho : o.op = .call { callee := .builtin .append, args := #[s, x], argTypes := #[22, 22] })
    (base : Nat) (A : Option Addr) (c n : Nat) (L : List FrL) (hn : L.length = n) (hs : a.eval s = .slice A n c) (hO : OF w base A c L)
    (y : FrL) (hy : w.ownsRow base 5 1 (.slice y.A y.b.length y.c) y.b.length (u8s y.b)) (B : Option Addr) (hx : a.eval x = .slice B 1 1) (hr : RD w w.heap.size 1 B 1 [y.cell])
    (h63 : n + 1 ≤ 1073741824) (hbase : base ≤ w.heap.size)
    (h : ∀ A' c' w', OF w' base A' c' (L ++ [y]) → Below base w w' → wpList Try.prog ops Q rest (a.put o.dst (.slice A' (n + 1) c')) w') : wpList Try.prog ops Q (o :: rest) a w := by
  obtain ⟨i0, hi0, hz0, hz1, hz2⟩ := info_parts frinfo
  subst hn
  refine wpList_append_kept w hgd s x 22 ho base 28 i0 (.slice none 0 0) 1 24 Try.underlying22 hi0 hz0 hz1 hz2 rfl (by decide) _ L.length (frs L) hs hO.1 w.heap.size B 1 1 [y.cell] hx hr (frs_one [y]) h63 (by decide) hbase fun v' w' h1 h2 h3 => ?_
  obtain ⟨A', c', rfl, -, -, -⟩ := own_slice h1
  refine h A' c' w' ⟨?_, fun q hq => ?_⟩ h2
  · rw [frs_append, List.length_append, List.length_singleton]
    exact h1
  · rcases List.mem_append.1 hq with hq | hq
    · exact fr_kept (hO.2 q hq) (by decide) h3
    · simp only [List.mem_singleton] at hq
      subst hq
      exact fr_kept hy (by decide) h3
theorem fr_row (w : World) (y : FrL) : RD (w.alloc (.cells #[.slice y.A y.b.length y.c] 28)) (w.alloc (.cells #[.slice y.A y.b.length y.c] 28)).heap.size 1 (some ⟨w.heap.size, 0, none⟩) 1 [y.cell] := by
  refine ⟨rfl, fun _ => ⟨_, _, rfl, by rw [World.size_alloc]; omega, fun j u hu => ?_⟩⟩
  rw [Nat.zero_add, World.cell?_alloc_new, ← Array.getElem?_toList]
  exact hu
end Go.Proofs.Ytmkpfdcnikgokaa
namespace Go.Proofs.Ytmkpfdcnikgokaa
open Go.RowKit
/-- A world in which all that w holds stands as it does in w. -/
noncomputable def past (w W : World) : World := @ite World (Below w.heap.size w W) (Classical.propDecidable _) W w
theorem below_past (w W : World) : Below w.heap.size w (past w W) := by
  unfold past
  by_cases h : Below w.heap.size w W
  · rw [if_pos h]; exact h
  · rw [if_neg h]; exact Below.refl _ _
theorem past_of {w W : World} (h : Below w.heap.size w W) : W = past w W := by unfold past; rw [if_pos h]
@[go_sem] theorem cell?_past (w W : World) (a : Addr) (h : a.block < w.heap.size) : (past w W).cell? a = w.cell? a := (below_past w W).cell h
@[go_sem] theorem frozen?_past (w W : World) (a : Addr) (h : a.block < w.heap.size) : (past w W).frozen? a = w.frozen? a := (below_past w W).frozen h
/-- A callee's contract met in such a world. -/
theorem past_call {P : Program} {f : FuncId} {args : Array Value} {w W : World} {v : Value}
    (h : Calls P f args (past w W) fun e w' => e = .returned v ∧ Below (past w W).heap.size (past w W) w') : Calls P f args (past w W) fun e w' => e = .returned v ∧ ∃ u, w' = past w u :=
  h.mono fun _ w' ⟨he, hb⟩ => ⟨he, w', past_of ((below_past w W).trans (hb.mono (below_past w W).size))⟩
/-- The region, its operations written out. -/
theorem wp_region_past {P : Program} {id : Nat} {Q : Exit → Act → World → Prop} {a : Act} {w : World} {l : List Oper} (hm : P.follows .mixedOrders = true) (hB : Region.lexB .any l.toArray = true)
    (h : wpQuiet P l.toArray (fun w' => ∃ u, w' = past w u) (fun a' => ∀ w', (∃ u, w' = past w u) → Q .normal a' w') l a) : (Code.region id l.toArray true).wp P Q a w :=
  wp_region_quiet (C := fun w' => ∃ u, w' = past w u) hm hB ⟨w.drew, past_of (Below.refl _ _).drew⟩ (by simpa using h)
end Go.Proofs.Ytmkpfdcnikgokaa
namespace Go.Proofs.Ytmkpfdcnikgokaa
open Go.RowKit
/-- The kit's lexical walk, in a box. -/
structure WQ (P : Program) (ops : Array Oper) (C : World → Prop) (Q : Act → Prop) (l : List Oper) (a : Act) : Prop where
  out : wpQuiet P ops C Q l a
theorem WQ.step {P : Program} {ops : Array Oper} {C : World → Prop} {Q : Act → Prop} {a : Act} {o : Oper} {rest : List Oper}
    (h : ∀ K : Act → Prop, (∀ a, WQ P ops C Q rest a → K a) → if Region.wanted o (yielded ops a.tmps) then o.quiet P a C K else K (a.put o.dst undef)) : WQ P ops C Q (o :: rest) a :=
  ⟨wpQuiet_step fun K hK => h K fun a ha => hK a ha.out⟩
theorem WQ.nil {P : Program} {ops : Array Oper} {C : World → Prop} {Q : Act → Prop} {a : Act} (h : Q a) : WQ P ops C Q [] a := ⟨wpQuiet_nil h⟩
/-- The region, its operations written out. -/
theorem wp_region_wq {P : Program} {id : Nat} {Q : Exit → Act → World → Prop} {a : Act} {w : World} {l : List Oper} (hm : P.follows .mixedOrders = true) (hB : Region.lexB .any l.toArray = true)
    (h : WQ P l.toArray (fun w' => ∃ u, w' = past w u) (fun a' => ∀ u, Q .normal a' (past w u)) l a) : (Code.region id l.toArray true).wp P Q a w := by
  refine wp_region_past hm hB ?_
  have := h.out
  simpa only [forall_exists_index, forall_eq_apply_imp_iff] using this
end Go.Proofs.Ytmkpfdcnikgokaa
