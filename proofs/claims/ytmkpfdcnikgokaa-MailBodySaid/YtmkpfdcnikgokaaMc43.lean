/-
  Texts of this claim, put together: OpenMail. What each theorem asks stands in its statement.
-/
import Derived.Test.YtmkpfdcnikgokaaMc41
import Derived.Test.YtmkpfdcnikgokaaMc42
set_option linter.unusedVariables false
set_option linter.unusedSimpArgs false
namespace Go.Proofs.Ytmkpfdcnikgokaa
open Go.Joins Go.ChangeShapes Go.WideShapes Go.ChangeAt Go.RowKit Go.Deep
/-- A slice whose elements open, opened. -/
theorem opens_list {H : Type} {enc : TypeId × Value → H} {P : Program} {W : World} {base : Nat} {spare : Nat → Bool} {held : Bool} {ts t : TypeId} {k : Nat} {α : Type} (dflt : α) (cells : α → List Value) (ok : α → Prop) (wt : Nat → α → Prop)
    (hts : P.underlying ts = some (.slice t)) (hC : P.cellsOf t = k) (hk : 0 < k) (hlen : ∀ x, (cells x).length = k)
    (helem : ∀ fuel cs y, DataW.trod enc P W base spare held fuel t cs = some y → ∃ x, cs = cells x ∧ ok x ∧ ∀ N, (∀ n ∈ y.1.weights P t, n ≤ N) → wt N x)
    {cs : List Value} {y : DataW H × List MemPlace} {fuel : Nat} (hf : DataW.trod enc P W base spare held fuel ts cs = some y) :
    ∃ A L c, cs = [.slice A (List.length (α := α) L) c] ∧ RD W W.heap.size k A L.length (L.flatMap cells) ∧ (A = none → c = 0) ∧ (∀ x ∈ L, ok x) ∧ ∀ N, (∀ n ∈ y.1.weights P ts, n ≤ N) → L.length * P.bytesOf t ≤ N ∧ ∀ x ∈ L, wt N x := by
  rcases open_slice hts hf with ⟨hcs, _⟩ | ⟨x, n, c, m, n', D, Pl, hcs, _, hl, hm, hmm, hy, hx⟩
  · exact ⟨none, [], 0, hcs, RD.nil_, fun _ => rfl, fun a ha => (by cases ha), fun N _ => ⟨by simp, fun a ha => by cases ha⟩⟩
  · have hwt : ∀ N, (∀ n ∈ y.1.weights P ts, n ≤ N) → n * P.bytesOf t ≤ N := fun N hN => weight_slice hts (hcs ▸ hf) hN
    have hnm : n ≤ m := by rw [hmm]; split <;> omega
    have hel : ∀ i, ∃ q : α, i < n → (∀ j, j < k → ∀ u, (cells q)[j]? = some u → W.cell? (x.add (i * k + j)) = some u) ∧ ok q ∧ ∀ N, (∀ n ∈ (D i).weights P t, n ≤ N) → wt N q := by
      intro i
      by_cases hi : i < n
      · obtain ⟨cs', k1', k2'⟩ := hx i (by omega)
        rw [hC] at k1'
        obtain ⟨_, hlen', hcell⟩ := World.cells?_some k1'
        obtain ⟨q, rfl, q1, q2⟩ := helem _ _ _ k2'
        refine ⟨q, fun _ => ⟨fun j hj u hu => ?_, q1, q2⟩⟩
        have e := hcell j (by omega)
        rw [add_add] at e
        rw [e]
        simpa using hu
      · exact ⟨dflt, fun h => absurd h hi⟩
    obtain ⟨F, hF⟩ := Classical.axiomOfChoice hel
    refine ⟨some x, (List.range n).map F, c, by simpa using hcs, ?_, fun h => (by cases h), ?_, fun N hN => ⟨by simpa using hwt N hN, ?_⟩⟩
    · rw [List.length_map, List.length_range]
      have hfl : ((List.range n).map F).length = n := by simp
      refine ⟨by rw [flatK_len cells k hlen, hfl], fun hn => ?_⟩
      obtain ⟨k0', -⟩ := hF 0 hn
      obtain ⟨u0, hu0⟩ : ∃ u, (cells (F 0))[0]? = some u := ⟨_, List.getElem?_eq_getElem (by rw [hlen]; exact hk)⟩
      have k0'' := k0' 0 hk _ hu0
      have hsp : x.spot = none := by
        have := World.cell?_spot k0''
        simpa [Addr.add] using this
      obtain ⟨bk, off, spot⟩ := x
      simp only at hsp
      subst hsp
      refine ⟨bk, off, rfl, by have := World.block_lt_of_cell? W _ k0''; simpa [Addr.add] using this, fun j u hu => ?_⟩
      have hj : j < n * k := by
        have := (List.getElem?_eq_some_iff.1 hu).1
        rwa [flatK_len cells k hlen, hfl] at this
      have hi : j / k < n := Nat.div_lt_of_lt_mul (by rwa [Nat.mul_comm])
      have hjk : j / k * k + j % k = j := by rw [Nat.mul_comm]; exact Nat.div_add_mod j k
      have hg := flatK_get cells k hlen ((List.range n).map F) (j / k) (by simpa using hi) (j % k) (Nat.mod_lt _ hk)
      rw [hjk] at hg
      have hk' := (hF (j / k) hi).1 (j % k) (Nat.mod_lt _ hk) u (by
        rw [hg] at hu
        simpa using hu)
      rw [hjk, add_none] at hk'
      exact hk'
    · intro a ha
      simp only [List.mem_map, List.mem_range] at ha
      obtain ⟨i, hi, rfl⟩ := ha
      exact (hF i hi).2.1
    · intro a ha
      simp only [List.mem_map, List.mem_range] at ha
      obtain ⟨i, hi, rfl⟩ := ha
      refine (hF i hi).2.2 N fun n hn => hN n ?_
      rw [hy]
      simp only [DataW.weights, hts, List.mem_cons, List.mem_append]
      exact .inr (.inl (weightsAll_in (List.mem_map.2 ⟨i, List.mem_range.2 hi, rfl⟩) n hn))
section
variable {H : Type} {enc : TypeId × Value → H} {W : World} {base : Nat} {spare : Nat → Bool} {held : Bool}
theorem u32_of {t : Int} (h : (Lit.int .u32 t).wf = true) : 0 ≤ t ∧ t < 4294967296 := by
  simp [Lit.wf, IntKind.min, IntKind.max, IntKind.signed, IntKind.bits] at h
  omega
theorem u8_of {t : Int} (h : (Lit.int .u8 t).wf = true) : 0 ≤ t ∧ t < 256 := by
  simp [Lit.wf, IntKind.min, IntKind.max, IntKind.signed, IntKind.bits] at h
  omega
def blc (b : Bool) : List Value := [.bool b]
def spc (x : Sp) : List Value := [.int .u32 x.1, .int .u32 x.2]
theorem bls_flat (l : List Bool) : l.flatMap blc = bls l := by
  induction l with
  | nil => rfl
  | cons b l ih => rw [List.flatMap_cons, ih]; rfl
theorem sps_flat (l : List Sp) : l.flatMap spc = sps l := rfl
set_option maxRecDepth 100000 in
/-- A slice of truths. -/
theorem open_bls {cs : List Value} {y : DataW H × List MemPlace} {fuel : Nat} (hf : DataW.trod enc Try.prog W base spare held fuel 70 cs = some y) :
    ∃ A l c, cs = [.slice A (List.length (α := Bool) l) c] ∧ RBl W W.heap.size A l := by
  obtain ⟨A, l, c, e, hr, -⟩ := opens_list (k := 1) false blc (fun _ => True) (fun _ _ => True) Try.underlying70 (by kernel_rfl) (by decide) (fun _ => rfl) (fun fuel cs y h => by
    obtain ⟨b, rfl, -⟩ := DataW.trod_bool Try.underlying4 h
    exact ⟨b, rfl, trivial, fun _ _ => trivial⟩) hf
  exact ⟨A, l, c, e, by rw [bls_flat] at hr; exact hr⟩
set_option maxRecDepth 100000 in
/-- A slice of spans. -/
theorem open_sps {cs : List Value} {y : DataW H × List MemPlace} {fuel : Nat} (hf : DataW.trod enc Try.prog W base spare held fuel 77 cs = some y) :
    ∃ A l c, cs = [.slice A (List.length (α := Sp) l) c] ∧ RS W W.heap.size A l ∧ (∀ x ∈ l, okS x) ∧ ∀ N, (∀ n ∈ y.1.weights Try.prog 77, n ≤ N) → l.length * Try.prog.bytesOf 76 ≤ N := by
  obtain ⟨A, l, c, e, hr, -, hok, hw⟩ := opens_list (k := 2) (0, 0) spc okS (fun _ _ => True) Try.underlying77 (by kernel_rfl) (by decide) (fun _ => rfl) (fun fuel cs y h => by
    obtain ⟨xs, n, _, _, hlen2, hlen, hg⟩ := DataW.trod_struct Try.underlying76 h
    rw [show Try.prog.cellsOf 76 = 2 by kernel_rfl] at hlen2
    match cs, hlen2 with
    | [v0, v1], _ =>
    match xs, hlen with
    | [q0, q1], _ =>
      have j0 := hg 0 _ rfl
      have j1 := hg 1 _ rfl
      simp [show Try.prog.cellsOf 34 = 1 by kernel_rfl] at j0 j1
      obtain ⟨a, e0, -, w0⟩ := DataW.trod_int Try.underlying34 j0
      obtain ⟨b, e1, -, w1⟩ := DataW.trod_int Try.underlying34 j1
      simp only [List.cons.injEq, and_true] at e0 e1
      subst e0 e1
      have := u32_of w0
      have := u32_of w1
      exact ⟨(a, b), rfl, ⟨by simp only; omega, by simp only; omega, by simp only; omega, by simp only; omega⟩, fun _ _ => trivial⟩) hf
  exact ⟨A, l, c, e, by rw [sps_flat] at hr; exact hr, hok, fun N hN => (hw N hN).1⟩
/-- What of a replica's times is of its type; how large it may be. -/
def typT (x : TmL) : Prop := 0 ≤ x.R ∧ x.R < 256 ∧ ∀ y ∈ x.s, okS y
set_option maxRecDepth 100000 in
/-- A clock. -/
theorem open_tms {cs : List Value} {y : DataW H × List MemPlace} {fuel : Nat} (hf : DataW.trod enc Try.prog W base spare held fuel 37 cs = some y) :
    ∃ A L c, cs = [.slice A (List.length (α := TmL) L) c] ∧ RT W W.heap.size A L ∧ (∀ x ∈ L, typT x) ∧ ∀ N, (∀ n ∈ y.1.weights Try.prog 37, n ≤ N) → ∀ x ∈ L, x.s.length * Try.prog.bytesOf 76 ≤ N := by
  obtain ⟨A, l, c, e, hr, -, hok, hw⟩ := opens_list (k := 2) (⟨0, none, 0, []⟩ : TmL) TmL.cells (fun x => typT x ∧ RS W W.heap.size x.A x.s) (fun N x => x.s.length * Try.prog.bytesOf 76 ≤ N) Try.underlying37 (by kernel_rfl) (by decide) (fun _ => rfl) (fun fuel cs y h => by
    obtain ⟨xs, n, _, hy, hlen2, hlen, hg⟩ := DataW.trod_struct Try.underlying79 h
    rw [show Try.prog.cellsOf 79 = 2 by kernel_rfl] at hlen2
    match cs, hlen2 with
    | [v0, v1], _ =>
    match xs, hlen with
    | [q0, q1], _ =>
      have j0 := hg 0 _ rfl
      have j1 := hg 1 _ rfl
      simp [show Try.prog.cellsOf 5 = 1 by kernel_rfl, show Try.prog.cellsOf 77 = 1 by kernel_rfl] at j0 j1
      obtain ⟨a, e0, -, w0⟩ := DataW.trod_int Try.underlying5 j0
      obtain ⟨A, l, c, e1, hr, hok, hw⟩ := open_sps j1
      simp only [List.cons.injEq, and_true] at e0 e1
      subst e0 e1
      have := u8_of w0
      refine ⟨⟨a, A, c, l⟩, rfl, ⟨⟨by simp only; omega, by simp only; omega, hok⟩, hr⟩, fun N hN => hw N fun n hn => hN n ?_⟩
      rw [hy]
      simp only [DataW.weights, Try.underlying79]
      exact DataW.weights_mem_each (j := 1) (d := q1.1) rfl rfl n hn) hf
  exact ⟨A, l, c, e, ⟨hr, fun x hx => (hok x hx).2⟩, fun x hx => (hok x hx).1, fun N hN => (hw N hN).2⟩
def typW (x : WsL) : Prop := (0 ≤ x.t ∧ x.t < 4294967296 ∧ 0 ≤ x.r ∧ x.r < 256) ∧ (∀ z ∈ x.h, typT z) ∧ ∀ z ∈ x.s, typT z
set_option maxRecDepth 100000 in
/-- Wishes. -/
theorem open_wss {cs : List Value} {y : DataW H × List MemPlace} {fuel : Nat} (hf : DataW.trod enc Try.prog W base spare held fuel 39 cs = some y) :
    ∃ A L c, cs = [.slice A (List.length (α := WsL) L) c] ∧ RW W W.heap.size A L ∧ (∀ x ∈ L, typW x) ∧ ∀ N, (∀ n ∈ y.1.weights Try.prog 39, n ≤ N) → ∀ x ∈ L, (∀ z ∈ x.h, z.s.length * Try.prog.bytesOf 76 ≤ N) ∧ ∀ z ∈ x.s, z.s.length * Try.prog.bytesOf 76 ≤ N := by
  obtain ⟨A, l, c, e, hr, -, hok, hw⟩ := opens_list (k := 7) (⟨0, 0, false, false, none, 0, [], none, 0, [], none, 0, []⟩ : WsL) WsL.cells (fun x => typW x ∧ RT W W.heap.size x.hA x.h ∧ RT W W.heap.size x.sA x.s ∧ RBl W W.heap.size x.gA x.g) (fun N x => (∀ z ∈ x.h, z.s.length * Try.prog.bytesOf 76 ≤ N) ∧ ∀ z ∈ x.s, z.s.length * Try.prog.bytesOf 76 ≤ N) Try.underlying39 (by kernel_rfl) (by decide) (fun _ => rfl) (fun fuel cs y h => by
    obtain ⟨xs, n, _, hy, hlen7, hlen, hg⟩ := DataW.trod_struct Try.underlying72 h
    rw [show Try.prog.cellsOf 72 = 7 by kernel_rfl] at hlen7
    match cs, hlen7 with
    | [v0, v1, v2, v3, v4, v5, v6], _ =>
    match xs, hlen with
    | [q0, q1, q2, q3, q4, q5], _ =>
      have j0 := hg 0 _ rfl
      have j1 := hg 1 _ rfl
      have j2 := hg 2 _ rfl
      have j3 := hg 3 _ rfl
      have j4 := hg 4 _ rfl
      have j5 := hg 5 _ rfl
      simp [show Try.prog.cellsOf 36 = 2 by kernel_rfl, show Try.prog.cellsOf 4 = 1 by kernel_rfl, show Try.prog.cellsOf 37 = 1 by kernel_rfl, show Try.prog.cellsOf 70 = 1 by kernel_rfl] at j0 j1 j2 j3 j4 j5
      obtain ⟨z0, z1, m, _, _, i0, i1⟩ := trod_struct2 Try.underlying36 j0
      simp [show Try.prog.cellsOf 34 = 1 by kernel_rfl, show Try.prog.cellsOf 5 = 1 by kernel_rfl] at i0 i1
      obtain ⟨t, e0, -, w0⟩ := DataW.trod_int Try.underlying34 i0
      obtain ⟨r, e1, -, w1⟩ := DataW.trod_int Try.underlying5 i1
      obtain ⟨rd, e2, -⟩ := DataW.trod_bool Try.underlying4 j1
      obtain ⟨hA, hl, hc, e3, h1, h2, h3⟩ := open_tms j2
      obtain ⟨kn, e4, -⟩ := DataW.trod_bool Try.underlying4 j3
      obtain ⟨sA, sl, sc, e5, k1, k2, k3⟩ := open_tms j4
      obtain ⟨gA, gl, gc, e6, l1⟩ := open_bls j5
      simp only [List.cons.injEq, and_true] at e0 e1 e2 e3 e4 e5 e6
      subst e0 e1 e2 e3 e4 e5 e6
      have := u32_of w0
      have := u8_of w1
      refine ⟨⟨t, r, rd, kn, hA, hc, hl, sA, sc, sl, gA, gc, gl⟩, rfl, ⟨⟨⟨by simp only; omega, by simp only; omega, by simp only; omega, by simp only; omega⟩, h2, k2⟩, h1, k1, l1⟩, fun N hN => ⟨h3 N fun n hn => hN n ?_, k3 N fun n hn => hN n ?_⟩⟩
      · rw [hy]
        simp only [DataW.weights, Try.underlying72]
        exact DataW.weights_mem_each (j := 2) (d := q2.1) rfl rfl n hn
      · rw [hy]
        simp only [DataW.weights, Try.underlying72]
        exact DataW.weights_mem_each (j := 4) (d := q4.1) rfl rfl n hn) hf
  exact ⟨A, l, c, e, ⟨hr, fun x hx => (hok x hx).2⟩, fun x hx => (hok x hx).1, fun N hN => (hw N hN).2⟩
set_option maxRecDepth 100000 in
/-- Operations. -/
theorem open_opl {cs : List Value} {y : DataW H × List MemPlace} {fuel : Nat} (hf : DataW.trod enc Try.prog W base spare held fuel 38 cs = some y) :
    ∃ A L c, cs = [.slice A (List.length (α := OpL) L) c] ∧ RO W W.heap.size A L ∧ ∀ x ∈ L, 0 ≤ x.k ∧ okI (x.t, x.r) ∧ ∀ q ∈ x.p, okR q := by
  obtain ⟨A, l, c, e, hr, -, hok, hw⟩ := opens_list (k := 5) (⟨0, 0, 0, none, 0, [], 0⟩ : OpL) OpL.cells (fun x => (0 ≤ x.k ∧ okI (x.t, x.r) ∧ ∀ q ∈ x.p, okR q) ∧ RR W W.heap.size x.A x.p) (fun _ _ => True) Try.underlying38 (by kernel_rfl) (by decide) (fun _ => rfl) (fun fuel cs y h => by
    obtain ⟨x, e, h1, h2, -⟩ := open_op_cs Try.underlying115 (by kernel_rfl) rfl rfl rfl rfl (by kernel_rfl) (by kernel_rfl) (by kernel_rfl) (by kernel_rfl) Try.underlying5 Try.underlying36 Try.underlying113 Try.underlying3 rfl rfl (by kernel_rfl) (by kernel_rfl) Try.underlying34 Try.underlying5 Try.underlying123 (by kernel_rfl) rfl rfl rfl (by kernel_rfl) (by kernel_rfl) (by kernel_rfl) Try.underlying34 Try.underlying5 Try.underlying3 h
    exact ⟨x, e, ⟨h1, h2⟩, fun _ _ => trivial⟩) hf
  exact ⟨A, l, c, e, ⟨hr, fun x hx => (hok x hx).2⟩, fun x hx => (hok x hx).1⟩
/-- The parts of mail are of their types. -/
def typM (x : MlL) : Prop := (0 ≤ x.t ∧ x.t < 4294967296 ∧ 0 ≤ x.r ∧ x.r < 256) ∧ (∀ y ∈ x.i, typT y) ∧ (∀ y ∈ x.o, 0 ≤ y.k ∧ okI (y.t, y.r) ∧ ∀ q ∈ y.p, okR q) ∧ ∀ y ∈ x.s, typW y
theorem okM_of {x : MlL} (h : typM x) (s : smallM x) : okM x := by
  obtain ⟨⟨a, b, c, d⟩, e, f, g⟩ := h
  obtain ⟨⟨s1, s2⟩, ⟨s3, s4⟩, s5, s6⟩ := s
  refine ⟨⟨a, b, c, by omega⟩, ⟨fun y hy => ?_, fun y hy => ?_, fun y hy => ?_⟩, by omega, by omega, by omega⟩
  · obtain ⟨q1, q2, q3⟩ := e y hy
    exact ⟨q1, q2, q3, by have := s2 y hy; omega⟩
  · obtain ⟨q1, q2, q3⟩ := f y hy
    exact ⟨q1, q2, q3, by have := s4 y hy; omega⟩
  · obtain ⟨⟨q1, q2, q3, q4⟩, q5, q6⟩ := g y hy
    obtain ⟨⟨u1, u2⟩, ⟨u3, u4⟩, u5⟩ := s6 y hy
    refine ⟨q1, q2, q3, by omega, fun z hz => ?_, fun z hz => ?_, by omega, by omega, by omega⟩
    · obtain ⟨r1, r2, r3⟩ := q5 z hz
      exact ⟨r1, r2, r3, by have := u2 z hz; omega⟩
    · obtain ⟨r1, r2, r3⟩ := q6 z hz
      exact ⟨r1, r2, r3, by have := u4 z hz; omega⟩
set_option maxRecDepth 100000 in
/-- Mail by value. -/
theorem open_mail {b0 : Nat} {r : Reach} {v : Value} {d : DataW H} {p : List MemPlace} (hv : Value.okWide Try.prog W r b0 41 v) (h : DataW.Trod enc Try.prog W base spare held 41 v d p) :
    ∃ x : MlL, v = x.val ∧ RM W W.heap.size x ∧ typM x ∧ ((∀ n ∈ d.weights Try.prog 41, n ≤ reachBytes) → bigM x) := by
  obtain ⟨cs, rfl, hsz⟩ := okWide_struct Try.underlying41 hv
  obtain ⟨v0, v1, v2, v3, v4, v5, v6, rfl⟩ : ∃ v0 v1 v2 v3 v4 v5 v6, cs = #[v0, v1, v2, v3, v4, v5, v6] := by
    have h7 : cs.size = 7 := hsz.trans (by kernel_rfl)
    obtain ⟨l⟩ := cs
    match l, h7 with
    | [v0, v1, v2, v3, v4, v5, v6], _ => exact ⟨v0, v1, v2, v3, v4, v5, v6, rfl⟩
  obtain ⟨fuel, hf⟩ := h
  obtain ⟨xs, n, _, hy, _, hlen, hg⟩ := DataW.trod_struct Try.underlying41 hf
  match xs, hlen with
  | [q0, q1, q2, q3, q4, q5], _ =>
    have j0 := hg 0 _ rfl
    have j1 := hg 1 _ rfl
    have j2 := hg 2 _ rfl
    have j3 := hg 3 _ rfl
    have j4 := hg 4 _ rfl
    have j5 := hg 5 _ rfl
    simp [Value.cells, show Try.prog.cellsOf 36 = 2 by kernel_rfl, show Try.prog.cellsOf 5 = 1 by kernel_rfl, show Try.prog.cellsOf 3 = 1 by kernel_rfl, show Try.prog.cellsOf 37 = 1 by kernel_rfl, show Try.prog.cellsOf 38 = 1 by kernel_rfl, show Try.prog.cellsOf 39 = 1 by kernel_rfl] at j0 j1 j2 j3 j4 j5
    obtain ⟨k, e0, -, w0⟩ := DataW.trod_int Try.underlying5 j0
    obtain ⟨z0, z1, m, _, _, i0, i1⟩ := trod_struct2 Try.underlying36 j1
    simp [show Try.prog.cellsOf 34 = 1 by kernel_rfl, show Try.prog.cellsOf 5 = 1 by kernel_rfl] at i0 i1
    obtain ⟨t, e1, -, w1⟩ := DataW.trod_int Try.underlying34 i0
    obtain ⟨r, e2, -, w2⟩ := DataW.trod_int Try.underlying5 i1
    obtain ⟨ix, e3, -, w3⟩ := DataW.trod_int Try.underlying3 j2
    obtain ⟨iA, il, ic, e4, h1, h2, h3⟩ := open_tms j3
    obtain ⟨oA, ol, oc, e5, k1, k2⟩ := open_opl j4
    obtain ⟨sA, sl, sc, e6, l1, l2, l3⟩ := open_wss j5
    simp only [List.cons.injEq, and_true] at e0 e1 e2 e3 e4 e5 e6
    subst e0 e1 e2 e3 e4 e5 e6
    have := u32_of w1
    have := u8_of w2
    have hb8 : Try.prog.bytesOf 76 = 8 := by kernel_rfl
    refine ⟨⟨k, t, r, ix, iA, ic, il, oA, oc, ol, sA, sc, sl⟩, rfl, ⟨h1, k1, l1⟩, ⟨⟨by simp only; omega, by simp only; omega, by simp only; omega, by simp only; omega⟩, h2, k2, l2⟩, fun hN => ?_⟩
    have hd : d = .agg ([q0, q1, q2, q3, q4, q5].map (·.1)) := congrArg Prod.fst hy
    have m3 := h3 reachBytes fun n hn => hN n (by
      rw [hd]
      simp only [DataW.weights, Try.underlying41]
      exact DataW.weights_mem_each (j := 3) (d := q3.1) rfl rfl n hn)
    have m5 := l3 reachBytes fun n hn => hN n (by
      rw [hd]
      simp only [DataW.weights, Try.underlying41]
      exact DataW.weights_mem_each (j := 5) (d := q5.1) rfl rfl n hn)
    rw [hb8, show reachBytes = 140737488351232 from rfl] at m3 m5
    exact ⟨fun y hy => by have := m3 y hy; omega, fun y hy => (k2 y hy).2.2, fun y hy => ⟨fun z hz => by have := (m5 y hy).1 z hz; omega, fun z hz => by have := (m5 y hy).2 z hz; omega⟩⟩
end
end Go.Proofs.Ytmkpfdcnikgokaa
