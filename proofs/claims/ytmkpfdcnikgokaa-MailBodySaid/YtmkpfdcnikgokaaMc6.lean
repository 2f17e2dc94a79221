/-
  Texts of this claim, put together: NumBackMath, PlaceIds, PlaceChildMath, CodeMath, NumPut. What each theorem asks stands in its statement.
-/
import Derived.Test.YtmkpfdcnikgokaaRows
import Derived.Test.YtmkpfdcnikgokaaMc1
import Derived.Test.YtmkpfdcnikgokaaMc4
import Derived.Test.YtmkpfdcnikgokaaMc5
set_option linter.unusedVariables false
set_option linter.unusedSimpArgs false
namespace Go.Proofs.Ytmkpfdcnikgokaa
theorem gg_nb (r : List UInt8) : ∀ (n k acc : Nat), acc + n * 128 ^ k ≤ 1099511627776 → k + (nb n).length ≤ 6 → (n = 0 → k = 0) → gg k acc (nb n ++ r) = some (acc + n * 128 ^ k, k + (nb n).length) := by
  intro n
  induction n using nb.induct with
  | case1 n h =>
    intro k acc hm hk h0
    rw [nb_small h] at hk ⊢
    have hb : (UInt8.ofNat n).toNat = n := by rw [UInt8.toNat_ofNat', Nat.mod_eq_of_lt (by omega)]
    have hn : n % 128 = n := Nat.mod_eq_of_lt h
    simp only [List.length_cons, List.length_nil, List.cons_append, List.nil_append] at hk ⊢
    rw [gg_good (by omega) (by omega) (by rw [hb, hn]; omega), hb, hn]
  | case2 n h ih =>
    intro k acc hm hk h0
    rw [nb_big h] at hk ⊢
    have hb : (UInt8.ofNat (n % 128 + 128)).toNat = n % 128 + 128 := by rw [UInt8.toNat_ofNat', Nat.mod_eq_of_lt (by omega)]
    have hs : 128 ^ (k + 1) = 128 ^ k * 128 := Nat.pow_succ _ _
    have hsplit : acc + (n % 128 + 128) % 128 * 128 ^ k + n / 128 * 128 ^ (k + 1) = acc + n * 128 ^ k := by
      have e1 : (n % 128 + 128) % 128 = n % 128 := by omega
      have e2 : n / 128 * 128 ^ (k + 1) = 128 * (n / 128) * 128 ^ k := by rw [hs]; simp only [Nat.mul_assoc, Nat.mul_comm, Nat.mul_left_comm]
      rw [e1, e2, Nat.add_assoc, ← Nat.add_mul]
      congr 2
      omega
    simp only [List.length_cons, List.cons_append] at hk ⊢
    rw [gg_more (by omega) (by omega), hb, ih (k + 1) _ (by rw [hsplit]; exact hm) (by omega) (by omega), hsplit]
    congr 2
    omega
theorem gget_nb (n : Nat) (r : List UInt8) (h : n ≤ 1099511627776) : gget (nb n ++ r) = some (n, (nb n).length) := by
  have := gg_nb r n 0 0 (by omega) (by have := nb_six h; omega) (fun _ => rfl)
  simpa [gget] using this
theorem gg_inv : ∀ (l : List UInt8) (k acc m s : Nat), gg k acc l = some (m, s) → ∃ n, m = acc + n * 128 ^ k ∧ m ≤ 1099511627776 ∧ k < s ∧ s - k ≤ l.length ∧ nb n = l.take (s - k) ∧ (n = 0 → k = 0)
  | [], k, acc, m, s, h => by simp [gg] at h
  | b :: r, k, acc, m, s, h => by
    have hb := b.toNat_lt
    rw [gg] at h
    by_cases h6 : k = 6
    · rw [if_pos h6] at h; cases h
    rw [if_neg h6] at h
    by_cases h128 : 128 ≤ b.toNat
    · rw [if_pos h128] at h
      obtain ⟨n1, e1, e2, e3, e4, e5, e6⟩ := gg_inv r (k + 1) _ m s h
      have hn1 : n1 ≠ 0 := fun e => by have := e6 e; omega
      have hs : 128 ^ (k + 1) = 128 ^ k * 128 := Nat.pow_succ _ _
      refine ⟨b.toNat % 128 + 128 * n1, ?_, e2, by omega, by simp; omega, ?_, by omega⟩
      · rw [e1, Nat.add_mul, ← Nat.add_assoc]
        congr 1
        rw [hs]; simp only [Nat.mul_assoc, Nat.mul_comm]
      · rw [nb_big (by omega)]
        have d1 : (b.toNat % 128 + 128 * n1) % 128 + 128 = b.toNat := by omega
        have d2 : (b.toNat % 128 + 128 * n1) / 128 = n1 := by omega
        rw [d1, d2, e5]
        obtain ⟨t, ht⟩ : ∃ t, s - k = t + 1 := ⟨s - k - 1, by omega⟩
        rw [ht, List.take_succ_cons, show s - (k + 1) = t by omega]
        simp
    · rw [if_neg h128] at h
      by_cases hbad : 1099511627776 < acc + b.toNat % 128 * 128 ^ k ∨ (b.toNat = 0 ∧ 0 < k)
      · rw [if_pos hbad] at h; cases h
      · rw [if_neg hbad] at h
        simp only [Option.some.injEq, Prod.mk.injEq] at h
        obtain ⟨rfl, rfl⟩ := h
        have hm : b.toNat % 128 = b.toNat := Nat.mod_eq_of_lt (by omega)
        rw [hm] at hbad
        refine ⟨b.toNat, by rw [hm], by rw [hm]; omega, by omega, by simp, ?_, by omega⟩
        rw [nb_small (by omega), show k + 1 - k = 1 by omega]
        simp
theorem gget_inv {l : List UInt8} {m s : Nat} (h : gget l = some (m, s)) : m ≤ 1099511627776 ∧ s ≤ l.length ∧ nb m = l.take s ∧ (nb m).length = s := by
  obtain ⟨n, e1, e2, e3, e4, e5, _⟩ := gg_inv l 0 0 m s h
  have : m = n := by simpa using e1
  subst this
  have e4' : s ≤ l.length := by simpa using e4
  refine ⟨e2, e4', by simpa using e5, ?_⟩
  rw [e5, List.length_take]
  omega
end Go.Proofs.Ytmkpfdcnikgokaa
namespace Go.Proofs.Ytmkpfdcnikgokaa
open Go.RowKit
/-- append onto an own row: every block that is no row of that type stays. -/
theorem wpList_append_held {P : Program} (w : World) {ops : Array Oper} {rest : List Oper} {o : Oper} {a : Act} {Q : Exit → Act → World → Prop} (hgd : o.guard = none) (s x : Operand) (t : TypeId)
    (ho : o.op = .call { callee := .builtin .append, args := #[s, x], argTypes := #[t, t] })
    (base : Nat) (e : TypeId) (i : TypeInfo) (z : Value) (size bytes : Nat) (ht : P.underlying t = some (.slice e)) (hi : P.info? e = some i) (hz : i.zero = some z)
    (hsize : i.size = size) (hby : i.bytes = bytes) (hzs : z.cells.size = size) (hsz : 0 < size)
    (v : Value) (n : Nat) (xs : List Value) (hs : a.eval s = v) (hown : w.ownsRow base e size v n xs)
    (B : Nat) (A : Option Addr) (m c : Nat) (news : List Value) (hx : a.eval x = .slice A m c) (hr : RD w B size A m news) (h1 : ∀ u ∈ news, u.oneCell' = true)
    (h63 : n + m ≤ 1073741824) (hbytes : bytes ≤ 65536) (hbase : base ≤ w.heap.size)
    (h : ∀ v' w', w'.ownsRow base e size v' (n + m) (xs ++ news) → Below base w w' → (∀ (b : Nat) (o' : Obj), w.heap[b]? = some o' → (∀ cur, o' ≠ .cells cur e (0, 0)) → w'.heap[b]? = some o') → wpList P ops Q rest (a.put o.dst v') w') : wpList P ops Q (o :: rest) a w := by
  refine wpList_plain hgd fun K hK => ?_
  have hb' : (n + m) * bytes ≤ 140737488355328 := by
    have : (n + m) * bytes ≤ (n + m) * 65536 := Nat.mul_le_mul_left _ hbytes
    omega
  obtain ⟨v', w', hrun, h2, h3⟩ := run_append_src (P := P) w base t o.type e i z size bytes ht hi hz hsize hby hzs hsz v n xs hown B A m c news hr h1 (by unfold maxLen; omega) hb' hbase
  have hkeep : ∀ (b : Nat) (o' : Obj), w.heap[b]? = some o' → (∀ cur, o' ≠ .cells cur e (0, 0)) → w'.heap[b]? = some o' := by
    intro b o' hb hne
    obtain ⟨-, -, -, -, hk⟩ := h3
    rw [hk b (Array.getElem?_eq_some_iff.1 hb).1 ?_]
    · exact hb
    · rcases hown.2 with ⟨rfl, _⟩ | ⟨g, cap, cur, rfl, _, hg, _⟩
      · intro e1; cases e1
      · intro e1
        simp only [Value.ownBlock, Option.some.injEq] at e1
        subst e1
        rw [hg] at hb
        exact hne cur (Option.some.inj hb).symm
  unfold Oper.wp execOp
  simp only [ho, resolve, invoke, builtin, Sem.run_bind, Sem.run_pure, Result.andThen_ok, List.map_toArray, List.map_cons, List.map_nil, hs, hx, hrun]
  exact hK _ _ (h v' w' h2 (grown_below hown h3 hbase) hkeep)
end Go.Proofs.Ytmkpfdcnikgokaa
namespace Go.Proofs.Ytmkpfdcnikgokaa
theorem lastR_snoc (q : List Rn) (x : Rn) (h : mayR (q ++ [x])) : lastR (q ++ [x]) = (rend x, x.2.1) := by
  unfold lastR
  rw [if_pos h]
  simp
end Go.Proofs.Ytmkpfdcnikgokaa
namespace Go.Proofs.Ytmkpfdcnikgokaa
/-- The bytes of numbers. -/
def nbs (L : List Int) : List UInt8 := L.flatMap fun z => nb z.toNat
theorem nbs_nil : nbs [] = [] := rfl
theorem nbs_append (L M : List Int) : nbs (L ++ M) = nbs L ++ nbs M := by simp [nbs]
theorem nbs_cons (z : Int) (L : List Int) : nbs (z :: L) = nb z.toNat ++ nbs L := by simp [nbs]
/-- A place's numbers, from a time on; its last time. -/
def runNums : Int → List Rn → List Int
  | _, [] => []
  | was, x :: p => (x.1 - was) :: x.2.1 :: x.2.2 :: runNums (x.1 + x.2.2 - 1) p
def wasR : Int → List Rn → Int
  | was, [] => was
  | _, x :: p => wasR (x.1 + x.2.2 - 1) p
theorem runNums_append : ∀ (p q : List Rn) (was : Int), runNums was (p ++ q) = runNums was p ++ runNums (wasR was p) q
  | [], _, _ => rfl
  | x :: p, q, was => by simp [runNums, wasR, runNums_append p q]
theorem wasR_append : ∀ (p q : List Rn) (was : Int), wasR was (p ++ q) = wasR (wasR was p) q
  | [], _, _ => rfl
  | x :: p, q, was => by simp [wasR, wasR_append p q]
/-- What stands behind the runs. -/
def tailNums (k t r was z : Int) : List Int := if k = 1 then [z] else if k = 2 then [] else [t - was, r]
/-- An operation's numbers, and bytes. -/
def opNums (k t r : Int) (p : List Rn) (z : Int) : List Int := k :: (p.length : Int) :: (runNums 0 p ++ tailNums k t r (wasR 0 p) z)
def opB (k t r : Int) (p : List Rn) (z : Int) : List UInt8 := nbs (opNums k t r p z)
/-- The next number of bytes, from a place on; none: there is none between these. -/
def nxt (b : List UInt8) (a : Nat) (lo hi : Int) : Option (Int × Nat) :=
  match gget (b.drop a) with
  | some (n, s) => if (n : Int) < lo ∨ hi < (n : Int) then none else some ((n : Int), a + s)
  | none => none
theorem nxt_inv {b : List UInt8} {a a' : Nat} {lo hi n : Int} (h : nxt b a lo hi = some (n, a')) : lo ≤ n ∧ n ≤ hi ∧ 0 ≤ n ∧ n ≤ 1099511627776 ∧ a < a' ∧ (a ≤ b.length → a' ≤ b.length) ∧ (a ≤ b.length → b.take a' = b.take a ++ nb n.toNat) := by
  unfold nxt at h
  split at h
  · rename_i m s hg
    split at h
    · cases h
    · rename_i hb
      simp only [Option.some.injEq, Prod.mk.injEq] at h
      obtain ⟨rfl, rfl⟩ := h
      obtain ⟨h1, h2, h3, h4⟩ := gget_inv hg
      have h5 := nb_pos m
      rw [List.length_drop] at h2
      refine ⟨by omega, by omega, by omega, by omega, by omega, fun h => by omega, fun h => ?_⟩
      rw [Int.toNat_natCast, h3, List.take_add]
  · cases h
theorem nxt_take {b : List UInt8} {a a' : Nat} {lo hi n : Int} {L : List Int} (h : nxt b a lo hi = some (n, a')) (ha : a ≤ b.length) (hL : b.take a = nbs L) : b.take a' = nbs (L ++ [n]) ∧ a' ≤ b.length := by
  obtain ⟨-, -, -, -, -, h1, h2⟩ := nxt_inv h
  refine ⟨?_, h1 ha⟩
  rw [h2 ha, hL, nbs_append, nbs_cons, nbs_nil, List.append_nil]
theorem nxt_fwd {b rest : List UInt8} {L M : List Int} {n lo hi : Int} (hb : b = nbs (L ++ n :: M) ++ rest) (h0 : 0 ≤ n) (h1 : lo ≤ n) (h2 : n ≤ hi) (h3 : n ≤ 1099511627776) : nxt b (nbs L).length lo hi = some (n, (nbs (L ++ [n])).length) := by
  have hd : b.drop (nbs L).length = nb n.toNat ++ (nbs M ++ rest) := by
    rw [hb, nbs_append, nbs_cons, List.append_assoc, List.append_assoc, List.drop_left]
  unfold nxt
  rw [hd, gget_nb n.toNat _ (by omega)]
  simp only
  rw [if_neg (by omega), nbs_append, nbs_cons, nbs_nil, List.append_nil, List.length_append, Int.toNat_of_nonneg h0]
/-- So many runs that bytes have from a place on, behind a time. -/
def rdRuns (b : List UInt8) : Nat → Nat → Int → Option (List Rn × Int × Nat)
  | 0, a, was => some ([], was, a)
  | m + 1, a, was => (nxt b a 1 1073741824).bind fun d => (nxt b d.2 0 7).bind fun r => (nxt b r.2 1 4096).bind fun mm =>
    if 1073741824 < was + d.1 + mm.1 - 1 then none else (rdRuns b m mm.2 (was + d.1 + mm.1 - 1)).map fun q => ((was + d.1, r.1, mm.1) :: q.1, q.2)
theorem rdRuns_inv {b : List UInt8} : ∀ (m a : Nat) (was : Int) (L : List Int) (p : List Rn) (w : Int) (a' : Nat), 0 ≤ was → a ≤ b.length → b.take a = nbs L → rdRuns b m a was = some (p, w, a') →
    b.take a' = nbs (L ++ runNums was p) ∧ a' ≤ b.length ∧ w = wasR was p ∧ p.length = m ∧ (∀ x ∈ p, okR x) ∧ 0 ≤ w ∧ (w ≤ 1073741824 ∨ m = 0)
  | 0, a, was, L, p, w, a', h0, ha, hL, h => by
    simp only [rdRuns, Option.some.injEq, Prod.mk.injEq] at h
    obtain ⟨rfl, rfl, rfl⟩ := h
    exact ⟨by simpa [runNums] using hL, ha, rfl, rfl, fun x hx => (by cases hx), h0, .inr rfl⟩
  | m + 1, a, was, L, p, w, a', h0, ha, hL, h => by
    simp only [rdRuns, Option.bind_eq_some_iff] at h
    obtain ⟨⟨d, a1⟩, hd, ⟨r, a2⟩, hr, ⟨mm, a3⟩, hm, h⟩ := h
    simp only at hd hr hm h
    split at h
    · cases h
    · rename_i hle
      rw [Option.map_eq_some_iff] at h
      obtain ⟨⟨q, w', a''⟩, hq, he⟩ := h
      simp only [Prod.mk.injEq] at he
      obtain ⟨rfl, rfl, rfl⟩ := he
      obtain ⟨d1, d2, -⟩ := nxt_inv hd
      obtain ⟨r1, r2, -⟩ := nxt_inv hr
      obtain ⟨m1, m2, -⟩ := nxt_inv hm
      obtain ⟨t1, l1⟩ := nxt_take hd ha hL
      obtain ⟨t2, l2⟩ := nxt_take hr l1 t1
      obtain ⟨t3, l3⟩ := nxt_take hm l2 t2
      obtain ⟨g1, g2, g3, g4, g5, g6, g7⟩ := rdRuns_inv m a3 _ _ q w' a'' (by omega) l3 t3 hq
      refine ⟨?_, g2, ?_, by simp [g4], ?_, g6, .inl ?_⟩
      · rw [g1]
        simp [runNums, show was + d - was = d by omega]
      · rw [g3]; rfl
      · intro x hx
        rcases List.mem_cons.1 hx with rfl | hx
        · exact ⟨by simp only; omega, by simp only; omega, by simp only; omega, by simp only; omega, by simp only; omega, by simp only; omega⟩
        · exact g5 x hx
      · rcases g7 with g7 | rfl
        · exact g7
        · simp only [rdRuns, Option.some.injEq, Prod.mk.injEq] at hq
          obtain ⟨-, rfl, -⟩ := hq
          omega
/-- May runs be read behind a time? -/
def goodR : Int → List Rn → Prop
  | _, [] => True
  | was, x :: p => 1 ≤ x.1 - was ∧ x.1 - was ≤ 1073741824 ∧ 0 ≤ x.2.1 ∧ x.2.1 ≤ 7 ∧ 1 ≤ x.2.2 ∧ x.2.2 ≤ 4096 ∧ x.1 + x.2.2 - 1 ≤ 1073741824 ∧ goodR (x.1 + x.2.2 - 1) p
theorem chain_good : ∀ (p : List Rn) (x : Rn), oneR x → chainA x p → (∀ y ∈ p, okR y) → goodR (x.1 + x.2.2 - 1) p
  | [], _, _, _, _ => trivial
  | y :: p, x, hx, hc, ho => by
    obtain ⟨h1, h2, h3⟩ := hc
    obtain ⟨o1, o2, o3, o4, o5, o6⟩ := h1
    obtain ⟨x1, x2, x3, x4, x5, x6⟩ := hx
    have := ho y List.mem_cons_self
    unfold okR at this
    have hs := h2.1
    exact ⟨by omega, by omega, by omega, by omega, o4, o5, o6, chain_good p y ⟨o1, o2, o3, o4, o5, o6⟩ h3 fun z hz => ho z (List.mem_cons_of_mem _ hz)⟩
theorem may_good {p : List Rn} (hp : mayR p) (ho : ∀ y ∈ p, okR y) : goodR 0 p := by
  cases p with
  | nil => trivial
  | cons x p =>
    obtain ⟨h1, h2⟩ := hp.2.2.1
    obtain ⟨o1, o2, o3, o4, o5, o6⟩ := h1
    have := ho x List.mem_cons_self
    unfold okR at this
    exact ⟨by omega, by omega, by omega, by omega, o4, o5, o6, chain_good p x ⟨o1, o2, o3, o4, o5, o6⟩ h2 fun z hz => ho z (List.mem_cons_of_mem _ hz)⟩
theorem good_nums : ∀ (p : List Rn) (was : Int), goodR was p → ∀ a ∈ runNums was p, 0 ≤ a ∧ a ≤ 1073741824
  | [], _, _ => fun a ha => by cases ha
  | x :: p, was, h => fun a ha => by
    obtain ⟨h1, h2, h3, h4, h5, h6, h7, h8⟩ := h
    simp only [runNums, List.mem_cons] at ha
    rcases ha with rfl | rfl | rfl | ha
    · omega
    · omega
    · omega
    · exact good_nums p _ h8 a ha
theorem rdRuns_fwd {b rest : List UInt8} : ∀ (p : List Rn) (was : Int) (L M : List Int), goodR was p → b = nbs (L ++ (runNums was p ++ M)) ++ rest → rdRuns b p.length (nbs L).length was = some (p, wasR was p, (nbs (L ++ runNums was p)).length)
  | [], was, L, M, _, _ => by simp [rdRuns, runNums, wasR]
  | x :: p, was, L, M, h, hb => by
    obtain ⟨h1, h2, h3, h4, h5, h6, h7, h8⟩ := h
    have e1 := nxt_fwd (L := L) (n := x.1 - was) (M := x.2.1 :: x.2.2 :: runNums (x.1 + x.2.2 - 1) p ++ M) (lo := 1) (hi := 1073741824) (rest := rest) (b := b) (by rw [hb]; simp [runNums]) (by omega) h1 h2 (by omega)
    have e2 := nxt_fwd (L := L ++ [x.1 - was]) (n := x.2.1) (M := x.2.2 :: runNums (x.1 + x.2.2 - 1) p ++ M) (lo := 0) (hi := 7) (rest := rest) (b := b) (by rw [hb]; simp [runNums]) h3 h3 h4 (by omega)
    have e3 := nxt_fwd (L := L ++ [x.1 - was] ++ [x.2.1]) (n := x.2.2) (M := runNums (x.1 + x.2.2 - 1) p ++ M) (lo := 1) (hi := 4096) (rest := rest) (b := b) (by rw [hb]; simp [runNums]) (by omega) h5 h6 (by omega)
    have e4 := rdRuns_fwd (b := b) (rest := rest) p (x.1 + x.2.2 - 1) (L ++ [x.1 - was] ++ [x.2.1] ++ [x.2.2]) M h8 (by rw [hb]; simp [runNums])
    simp only [List.length_cons, rdRuns, e1, Option.bind_some, e2, e3]
    have ew : was + (x.1 - was) + x.2.2 - 1 = x.1 + x.2.2 - 1 := by omega
    have ex : was + (x.1 - was) = x.1 := by omega
    rw [ew, ex, if_neg (by omega), e4]
    simp [runNums, wasR]
/-- An operation that was read: kind, stamp, place, point; and how many bytes. -/
abbrev Rd := Int × Int × Int × List Rn × Int × Nat
/-- What stands behind the runs, read. -/
def rdTail (b : List UInt8) (k : Int) (p : List Rn) (was : Int) (a : Nat) : Option Rd :=
  if k = 1 then (nxt b a 0 1114111).map fun z => (k, (lastR p).1, (lastR p).2, p, z.1, z.2)
  else if k = 2 then some (k, (lastR p).1, (lastR p).2, p, 0, a)
  else (nxt b a 1 1073741824).bind fun d => (nxt b d.2 0 7).map fun r => (k, was + d.1, r.1, p, 0, r.2)
/-- The operation that bytes begin with. -/
def getP (b : List UInt8) : Option Rd :=
  (nxt b 0 1 4).bind fun k => (nxt b k.2 1 64).bind fun m => (rdRuns b m.1.toNat m.2 0).bind fun q => (rdTail b k.1 q.1 q.2.1 q.2.2).bind fun o =>
    if mayO o.1 o.2.1 o.2.2.1 o.2.2.2.1 o.2.2.2.2.1 then some o else none
theorem lastR_was {p : List Rn} (hp : mayR p) (was : Int) : (lastR p).1 = wasR was p := by
  have hne : p ≠ [] := fun e => by rw [e] at hp; have := hp.1; simp at this
  obtain ⟨q, x, rfl⟩ : ∃ q x, p = q ++ [x] := ⟨p.dropLast, p.getLast hne, (List.dropLast_concat_getLast hne).symm⟩
  rw [lastR_snoc q x hp, wasR_append]
  rfl
theorem mayR_last_pos {p : List Rn} (hp : mayR p) : 1 ≤ (lastR p).1 := by
  have hne : p ≠ [] := fun e => by rw [e] at hp; have := hp.1; simp at this
  obtain ⟨q, x, rfl⟩ : ∃ q x, p = q ++ [x] := ⟨p.dropLast, p.getLast hne, (List.dropLast_concat_getLast hne).symm⟩
  rw [lastR_snoc q x hp]
  obtain ⟨h1, -, -, h4, -⟩ := chainR_mem hp.2.2.1 x (by simp)
  unfold rend
  simp only
  omega
/-- What is read may be, and is written as just these bytes. -/
theorem getP_inv {b : List UInt8} {k t r : Int} {p : List Rn} {z : Int} {n : Nat} (h : getP b = some (k, t, r, p, z, n)) :
    mayO k t r p z ∧ b.take n = opB k t r p z ∧ n ≤ b.length ∧ (∀ x ∈ p, okR x) ∧ 1 ≤ k ∧ k ≤ 4 := by
  simp only [getP, Option.bind_eq_some_iff] at h
  obtain ⟨⟨k', a1⟩, hk, ⟨m, a2⟩, hm, ⟨p', w, a3⟩, hr, ⟨k2, t2, r2, p2, z2, n2⟩, ht, h⟩ := h
  simp only at hm hr ht h
  split at h
  · rename_i hmay
    simp only [Option.some.injEq, Prod.mk.injEq] at h
    obtain ⟨rfl, rfl, rfl, rfl, rfl, rfl⟩ := h
    obtain ⟨k1, k2', -⟩ := nxt_inv hk
    obtain ⟨m1, m2, -⟩ := nxt_inv hm
    obtain ⟨t1, l1⟩ := nxt_take (L := []) hk (by omega) (by simp [nbs])
    obtain ⟨t2', l2⟩ := nxt_take hm l1 t1
    obtain ⟨g1, g2, g3, g4, g5, g6, -⟩ := rdRuns_inv m.toNat a2 0 _ p' w a3 (by omega) l2 t2' hr
    have hpl : (p'.length : Int) = m := by omega
    unfold rdTail at ht
    split at ht
    · rename_i hk1
      subst hk1
      rw [Option.map_eq_some_iff] at ht
      obtain ⟨⟨z', a4⟩, hz, he⟩ := ht
      simp only [Prod.mk.injEq] at he
      obtain ⟨rfl, rfl, rfl, rfl, rfl, rfl⟩ := he
      obtain ⟨t4, l4⟩ := nxt_take hz g2 g1
      refine ⟨hmay, ?_, l4, g5, k1, k2'⟩
      rw [t4]
      simp [opB, opNums, tailNums, hpl]
    · split at ht
      · rename_i hk1 hk2
        subst hk2
        simp only [Option.some.injEq, Prod.mk.injEq] at ht
        obtain ⟨rfl, rfl, rfl, rfl, rfl, rfl⟩ := ht
        refine ⟨hmay, ?_, g2, g5, k1, k2'⟩
        rw [g1]
        simp [opB, opNums, tailNums, hpl]
      · rename_i hk1 hk2
        simp only [Option.bind_eq_some_iff, Option.map_eq_some_iff] at ht
        obtain ⟨⟨d, a4⟩, hd, ⟨r', a5⟩, hr', he⟩ := ht
        simp only [Prod.mk.injEq] at hd hr' he
        obtain ⟨rfl, rfl, rfl, rfl, rfl, rfl⟩ := he
        obtain ⟨t4, l4⟩ := nxt_take hd g2 g1
        obtain ⟨t5, l5⟩ := nxt_take hr' l4 t4
        refine ⟨hmay, ?_, l5, g5, k1, k2'⟩
        rw [t5]
        subst g3
        have hdd : wasR 0 p' + d - wasR 0 p' = d := by omega
        simp [opB, opNums, tailNums, hpl, hk1, hk2, hdd]
  · cases h
/-- What is written is read back, whatever stands behind. -/
theorem getP_fwd {k t r : Int} {p : List Rn} {z : Int} (rest : List UInt8) (h : mayO k t r p z) (ho : ∀ x ∈ p, okR x) (hr0 : 0 ≤ r) : getP (opB k t r p z ++ rest) = some (k, t, r, p, z, (opB k t r p z).length) := by
  have hp := h.2.1
  have hg := may_good hp ho
  have hlw := lastR_was hp 0
  obtain ⟨hi1, hi2, hi3⟩ := h.1
  have h1 := hp.1
  have h2 := hp.2.1
  have hk : 1 ≤ k ∧ k ≤ 4 := by
    have := h.2.2
    unfold rightO at this
    omega
  generalize hb : opB k t r p z ++ rest = b
  have hb' : b = nbs ([] ++ k :: ((p.length : Int) :: (runNums 0 p ++ tailNums k t r (wasR 0 p) z))) ++ rest := by rw [← hb]; rfl
  have e1 := nxt_fwd (lo := 1) (hi := 4) hb' (by omega) hk.1 hk.2 (by omega)
  have e2 := nxt_fwd (b := b) (rest := rest) (L := [k]) (n := (p.length : Int)) (M := runNums 0 p ++ tailNums k t r (wasR 0 p) z) (lo := 1) (hi := 64) (by rw [hb']; rfl) (by omega) (by omega) (by omega) (by omega)
  have e3 := rdRuns_fwd (b := b) (rest := rest) p 0 [k, (p.length : Int)] (tailNums k t r (wasR 0 p) z) hg (by rw [hb']; rfl)
  have e1' : nxt b 0 1 4 = some (k, (nbs [k]).length) := e1
  have e2' : nxt b (nbs [k]).length 1 64 = some ((p.length : Int), (nbs [k, (p.length : Int)]).length) := e2
  have et : rdTail b k p (wasR 0 p) (nbs ([k, (p.length : Int)] ++ runNums 0 p)).length = some (k, t, r, p, z, (opB k t r p z).length) := by
    unfold rdTail
    rcases h.2.2 with ⟨rfl, hl, hz⟩ | ⟨rfl, hl, rfl⟩ | ⟨hk34, rfl, hl⟩
    · rw [if_pos rfl]
      have e4 := nxt_fwd (b := b) (rest := rest) (L := [1, (p.length : Int)] ++ runNums 0 p) (n := z) (M := []) (lo := 0) (hi := 1114111) (by rw [hb']; simp [tailNums]) hz.1 hz.1 hz.2.1 (by have := hz.2.1; omega)
      rw [e4, hl]
      simp [opB, opNums, tailNums]
    · rw [if_neg (by omega), if_pos rfl, hl]
      simp [opB, opNums, tailNums]
    · rw [if_neg (by omega), if_neg (by omega)]
      have htn : tailNums k t r (wasR 0 p) 0 = [t - wasR 0 p, r] := by unfold tailNums; rw [if_neg (by omega), if_neg (by omega)]
      rw [hlw] at hl
      have hw0 : 0 ≤ wasR 0 p := by
        rw [← hlw]
        have := mayR_last_pos hp
        omega
      have e4 := nxt_fwd (b := b) (rest := rest) (L := [k, (p.length : Int)] ++ runNums 0 p) (n := t - wasR 0 p) (M := [r]) (lo := 1) (hi := 1073741824) (by rw [hb', htn]; simp) (by omega) (by omega) (by omega) (by omega)
      have e5 := nxt_fwd (b := b) (rest := rest) (L := [k, (p.length : Int)] ++ runNums 0 p ++ [t - wasR 0 p]) (n := r) (M := []) (lo := 0) (hi := 7) (by rw [hb', htn]; simp) hr0 hr0 (by omega) (by omega)
      rw [e4]
      simp only [Option.bind_some, e5, Option.map_some]
      have : wasR 0 p + (t - wasR 0 p) = t := by omega
      rw [this]
      simp [opB, opNums, htn]
  unfold getP
  rw [e1']
  simp only [Option.bind_some, e2']
  rw [Int.toNat_natCast, e3]
  simp only [Option.bind_some, et]
  rw [if_pos h]
end Go.Proofs.Ytmkpfdcnikgokaa
namespace Go.Proofs.Ytmkpfdcnikgokaa
open Go.RowKit
theorem u8info : (Try.prog.info? 5).map (fun i => (i.zero, i.size, i.bytes)) = some (some (.int .u8 0), 1, 1) := by kernel_rfl
theorem or128_all : ∀ k : Fin 256, bits .or .u8 ((k.val : Nat) : Int) 128 = ((UInt8.ofNat (k.val % 128 + 128)).toNat : Int) := by decide +kernel
theorem or128 (m : Nat) : bits .or .u8 ((m : Int) % 256) 128 = ((UInt8.ofNat (m % 128 + 128)).toNat : Int) := by
  have h := or128_all ⟨m % 256, Nat.mod_lt _ (by omega)⟩
  have e1 : (((m % 256 : Nat)) : Int) = (m : Int) % 256 := by omega
  have e2 : m % 256 % 128 = m % 128 := by omega
  simp only [e1, e2] at h
  exact h
set_option maxHeartbeats 400000 in
set_option maxRecDepth 100000 in
theorem put_ok (n : Nat) (w : World) (h : n ≤ 1099511627776) :
    Calls Try.prog 39 #[.int .i64 (n : Int)] w fun e w' => ∃ v, e = .returned (.tuple #[v, .int .i64 0]) ∧ w'.ownsRow w.heap.size 5 1 v (nb n).length (u8s (nb n)) ∧ Below w.heap.size w w' := by
  have h1 : ¬ (n : Int) < 0 := by omega
  have h2 : ¬ (1099511627776 : Int) < n := by omega
  obtain ⟨i0, hi0, hz0, hz1, hz2⟩ := info_parts u8info
  go_enter Try.func39, Try.ntmps39
  go_wp2
  have H := hide h
  clear h h1 h2
  go_loopw [0, 4] (fun x b wr => ∃ (m : Nat) (pre : List UInt8), x = .int .i64 (m : Int) ∧ Hid (nb n = pre ++ nb m) ∧ m ≤ n ∧ wr.ownsRow w.heap.size 5 1 b pre.length (u8s pre) ∧ Below w.heap.size w wr) (fun x _ _ => (intOf x).toNat)
  case atStart => exact ⟨n, [], rfl, hide rfl, Nat.le_refl _, World.ownsRow_nil _ _ _ _, Below.refl _ _⟩
  case round =>
    obtain ⟨m, pre, rfl, hb, hm, hown, hbel⟩ := hrel
    have hlen : pre.length < 1073741824 := by
      have h1 := nb_six H.out
      have h2 := congrArg List.length hb.out
      rw [List.length_append] at h2
      omega
    by_cases hlt : m < 128
    · go_wp2_with (at_builtin; refine wpList_push rfl _ _ 28 rfl w.heap.size i0 (.int .u8 0) 1 1 Try.underlying28 hi0 hz0 hz1 hz2 rfl (by decide) _ _ _ rfl hown 1 rfl rfl rfl hlen (by decide) hbel.size ?_; intro v1 w1 hown1 hb1)
      go_ret2
      refine ⟨v1, rfl, ?_, hbel.trans hb1⟩
      rw [hb.out, nb_small hlt]
      rw [u8s_append]
      have e : (m : Int) % 256 = (m : Int) := by omega
      simpa [u8s, e] using hown1
    · go_wp2_with (at_builtin; refine wpList_push rfl _ _ 28 rfl w.heap.size i0 (.int .u8 0) 1 1 Try.underlying28 hi0 hz0 hz1 hz2 rfl (by decide) _ _ _ rfl hown 1 rfl rfl rfl hlen (by decide) hbel.size ?_; intro v1 w1 hown1 hb1)
      go_roundw
      case rel =>
        refine ⟨m / 128, pre ++ [UInt8.ofNat (m % 128 + 128)], by go_num, hide ?_, by omega, ?_, hbel.trans hb1⟩
        · rw [hb.out, nb_big hlt]
          simp
        · rw [or128] at hown1
          simpa [u8s] using hown1
      case measure => simp [intOf]; omega
/-- The same, the number given as an Int. -/
theorem put_int (z : Int) (w : World) (h0 : 0 ≤ z) (h : z ≤ 1099511627776) :
    Calls Try.prog 39 #[.int .i64 z] w fun e w' => ∃ v, e = .returned (.tuple #[v, .int .i64 0]) ∧ w'.ownsRow w.heap.size 5 1 v (nb z.toNat).length (u8s (nb z.toNat)) ∧ Below w.heap.size w w' := by
  obtain ⟨n, rfl⟩ := Int.eq_ofNat_of_zero_le h0
  have := put_ok n w (by omega)
  simpa using this
end Go.Proofs.Ytmkpfdcnikgokaa
