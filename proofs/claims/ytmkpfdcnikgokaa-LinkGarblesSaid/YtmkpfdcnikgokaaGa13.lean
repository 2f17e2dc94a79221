/-
  Texts of this claim, put together: PlaceIds, PlaceChildMath, CodeMath, NumPut, NumGet, CodePut, OpBox, CodeWrite. What each theorem asks stands in its statement.
-/
import Derived.Test.YtmkpfdcnikgokaaRows
import Derived.IntWalk
import Derived.Test.YtmkpfdcnikgokaaGa1
import Derived.Test.YtmkpfdcnikgokaaGa8
import Derived.Test.YtmkpfdcnikgokaaGa11
import Derived.Test.YtmkpfdcnikgokaaGa12
namespace Go.Proofs.Ytmkpfdcnikgokaa
open Go.RowKit
/-- append onto an own row: every block that is no row of that type stays. -/
theorem wpList_append_held {P : Program} (w : World) {ops : Array Oper} {rest : List Oper} {o : Oper} {a : Act} {Q : Exit → Act → World → Prop} (hgd : o.guard = none) (s x : Operand) (t : TypeId)
    (ho : o.op = .call { callee := .builtin .append, args := #[s, x], argTypes := #[t, t] })
    (base : Nat) (e : TypeId) (i : TypeInfo) (z : Value) (size bytes : Nat) (ht : P.underlying t = some (.slice e)) (hi : P.info? e = some i) (hz : i.zero = some z)
    (hsize : i.size = size) (hby : i.bytes = bytes) (hzs : z.cells.size = size) (hsz : 0 < size)
    (v : Value) (n : Nat) (xs : List Value) (hs : a.eval s = v) (hown : w.ownsRow base e size v n xs)
    (B : Nat) (A : Option Addr) (m c : Nat) (news : List Value) (hx : a.eval x = .slice A m c) (hr : RD w B size A m news) (h1 : ∀ u ∈ news, u.oneCell' = true)
    (h63 : n + m ≤ 1073741824) (hbytes : bytes ≤ 65536) (hbase : base ≤ w.heap.size)
    (h : ∀ v' w', w'.ownsRow base e size v' (n + m) (xs ++ news) → Below base w w' → (∀ (b : Nat) (o' : Obj), w.heap[b]? = some o' → (∀ cur, o' ≠ .cells cur e (0, 0)) → w'.heap[b]? = some o') → wpList P ops Q rest (a.put o.dst v') w') : wpList P ops Q (o :: rest) a w := by
  refine wpList_plain hgd fun K hK => ?_
  have hb' : (n + m) * bytes ≤ 140737488355328 := by
    have : (n + m) * bytes ≤ (n + m) * 65536 := Nat.mul_le_mul_left _ hbytes
    omega
  obtain ⟨v', w', hrun, h2, h3⟩ := run_append_src (P := P) w base t o.type e i z size bytes ht hi hz hsize hby hzs hsz v n xs hown B A m c news hr h1 (by unfold maxLen; omega) hb' hbase
  have hkeep : ∀ (b : Nat) (o' : Obj), w.heap[b]? = some o' → (∀ cur, o' ≠ .cells cur e (0, 0)) → w'.heap[b]? = some o' := by
    intro b o' hb hne
    obtain ⟨-, -, -, -, hk⟩ := h3
    rw [hk b (Array.getElem?_eq_some_iff.1 hb).1 ?_]
    · exact hb
    · rcases hown.2 with ⟨rfl, _⟩ | ⟨g, cap, cur, rfl, _, hg, _⟩
      · intro e1; cases e1
      · intro e1
        simp only [Value.ownBlock, Option.some.injEq] at e1
        subst e1
        rw [hg] at hb
        exact hne cur (Option.some.inj hb).symm
  unfold Oper.wp execOp
  simp only [ho, resolve, invoke, builtin, Sem.run_bind, Sem.run_pure, Result.andThen_ok, List.map_toArray, List.map_cons, List.map_nil, hs, hx, hrun]
  exact hK _ _ (h v' w' h2 (grown_below hown h3 hbase) hkeep)
end Go.Proofs.Ytmkpfdcnikgokaa
namespace Go.Proofs.Ytmkpfdcnikgokaa
theorem lastR_snoc (q : List Rn) (x : Rn) (h : mayR (q ++ [x])) : lastR (q ++ [x]) = (rend x, x.2.1) := by
  unfold lastR
  rw [if_pos h]
  simp
end Go.Proofs.Ytmkpfdcnikgokaa
namespace Go.Proofs.Ytmkpfdcnikgokaa
/-- The bytes of numbers. -/
def nbs (L : List Int) : List UInt8 := L.flatMap fun z => nb z.toNat
theorem nbs_nil : nbs [] = [] := rfl
theorem nbs_append (L M : List Int) : nbs (L ++ M) = nbs L ++ nbs M := by simp [nbs]
theorem nbs_cons (z : Int) (L : List Int) : nbs (z :: L) = nb z.toNat ++ nbs L := by simp [nbs]
/-- A place's numbers, from a time on; its last time. -/
def runNums : Int → List Rn → List Int
  | _, [] => []
  | was, x :: p => (x.1 - was) :: x.2.1 :: x.2.2 :: runNums (x.1 + x.2.2 - 1) p
def wasR : Int → List Rn → Int
  | was, [] => was
  | _, x :: p => wasR (x.1 + x.2.2 - 1) p
/-- What stands behind the runs. -/
def tailNums (k t r was z : Int) : List Int := if k = 1 then [z] else if k = 2 then [] else [t - was, r]
/-- An operation's numbers, and bytes. -/
def opNums (k t r : Int) (p : List Rn) (z : Int) : List Int := k :: (p.length : Int) :: (runNums 0 p ++ tailNums k t r (wasR 0 p) z)
def opB (k t r : Int) (p : List Rn) (z : Int) : List UInt8 := nbs (opNums k t r p z)
/-- The next number of bytes, from a place on; none: there is none between these. -/
def nxt (b : List UInt8) (a : Nat) (lo hi : Int) : Option (Int × Nat) :=
  match gget (b.drop a) with
  | some (n, s) => if (n : Int) < lo ∨ hi < (n : Int) then none else some ((n : Int), a + s)
  | none => none
theorem nxt_inv {b : List UInt8} {a a' : Nat} {lo hi n : Int} (h : nxt b a lo hi = some (n, a')) : lo ≤ n ∧ n ≤ hi ∧ 0 ≤ n ∧ n ≤ 1099511627776 ∧ a < a' ∧ (a ≤ b.length → a' ≤ b.length) ∧ (a ≤ b.length → b.take a' = b.take a ++ nb n.toNat) := by
  unfold nxt at h
  split at h
  · rename_i m s hg
    split at h
    · cases h
    · rename_i hb
      simp only [Option.some.injEq, Prod.mk.injEq] at h
      obtain ⟨rfl, rfl⟩ := h
      obtain ⟨h1, h2, h3, h4⟩ := gget_inv hg
      have h5 := nb_pos m
      rw [List.length_drop] at h2
      refine ⟨by omega, by omega, by omega, by omega, by omega, fun h => by omega, fun h => ?_⟩
      rw [Int.toNat_natCast, h3, List.take_add]
  · cases h
theorem nxt_take {b : List UInt8} {a a' : Nat} {lo hi n : Int} {L : List Int} (h : nxt b a lo hi = some (n, a')) (ha : a ≤ b.length) (hL : b.take a = nbs L) : b.take a' = nbs (L ++ [n]) ∧ a' ≤ b.length := by
  obtain ⟨-, -, -, -, -, h1, h2⟩ := nxt_inv h
  refine ⟨?_, h1 ha⟩
  rw [h2 ha, hL, nbs_append, nbs_cons, nbs_nil, List.append_nil]
/-- So many runs that bytes have from a place on, behind a time. -/
def rdRuns (b : List UInt8) : Nat → Nat → Int → Option (List Rn × Int × Nat)
  | 0, a, was => some ([], was, a)
  | m + 1, a, was => (nxt b a 1 1073741824).bind fun d => (nxt b d.2 0 7).bind fun r => (nxt b r.2 1 4096).bind fun mm =>
    if 1073741824 < was + d.1 + mm.1 - 1 then none else (rdRuns b m mm.2 (was + d.1 + mm.1 - 1)).map fun q => ((was + d.1, r.1, mm.1) :: q.1, q.2)
theorem rdRuns_inv {b : List UInt8} : ∀ (m a : Nat) (was : Int) (L : List Int) (p : List Rn) (w : Int) (a' : Nat), 0 ≤ was → a ≤ b.length → b.take a = nbs L → rdRuns b m a was = some (p, w, a') →
    b.take a' = nbs (L ++ runNums was p) ∧ a' ≤ b.length ∧ w = wasR was p ∧ p.length = m ∧ (∀ x ∈ p, okR x) ∧ 0 ≤ w ∧ (w ≤ 1073741824 ∨ m = 0)
  | 0, a, was, L, p, w, a', h0, ha, hL, h => by
    simp only [rdRuns, Option.some.injEq, Prod.mk.injEq] at h
    obtain ⟨rfl, rfl, rfl⟩ := h
    exact ⟨by simpa [runNums] using hL, ha, rfl, rfl, fun x hx => (by cases hx), h0, .inr rfl⟩
  | m + 1, a, was, L, p, w, a', h0, ha, hL, h => by
    simp only [rdRuns, Option.bind_eq_some_iff] at h
    obtain ⟨⟨d, a1⟩, hd, ⟨r, a2⟩, hr, ⟨mm, a3⟩, hm, h⟩ := h
    simp only at hd hr hm h
    split at h
    · cases h
    · rename_i hle
      rw [Option.map_eq_some_iff] at h
      obtain ⟨⟨q, w', a''⟩, hq, he⟩ := h
      simp only [Prod.mk.injEq] at he
      obtain ⟨rfl, rfl, rfl⟩ := he
      obtain ⟨d1, d2, -⟩ := nxt_inv hd
      obtain ⟨r1, r2, -⟩ := nxt_inv hr
      obtain ⟨m1, m2, -⟩ := nxt_inv hm
      obtain ⟨t1, l1⟩ := nxt_take hd ha hL
      obtain ⟨t2, l2⟩ := nxt_take hr l1 t1
      obtain ⟨t3, l3⟩ := nxt_take hm l2 t2
      obtain ⟨g1, g2, g3, g4, g5, g6, g7⟩ := rdRuns_inv m a3 _ _ q w' a'' (by omega) l3 t3 hq
      refine ⟨?_, g2, ?_, by simp [g4], ?_, g6, .inl ?_⟩
      · rw [g1]
        simp [runNums, show was + d - was = d by omega]
      · rw [g3]; rfl
      · intro x hx
        rcases List.mem_cons.1 hx with rfl | hx
        · exact ⟨by simp only; omega, by simp only; omega, by simp only; omega, by simp only; omega, by simp only; omega, by simp only; omega⟩
        · exact g5 x hx
      · rcases g7 with g7 | rfl
        · exact g7
        · simp only [rdRuns, Option.some.injEq, Prod.mk.injEq] at hq
          obtain ⟨-, rfl, -⟩ := hq
          omega
/-- An operation that was read: kind, stamp, place, point; and how many bytes. -/
abbrev Rd := Int × Int × Int × List Rn × Int × Nat
/-- What stands behind the runs, read. -/
def rdTail (b : List UInt8) (k : Int) (p : List Rn) (was : Int) (a : Nat) : Option Rd :=
  if k = 1 then (nxt b a 0 1114111).map fun z => (k, (lastR p).1, (lastR p).2, p, z.1, z.2)
  else if k = 2 then some (k, (lastR p).1, (lastR p).2, p, 0, a)
  else (nxt b a 1 1073741824).bind fun d => (nxt b d.2 0 7).map fun r => (k, was + d.1, r.1, p, 0, r.2)
/-- The operation that bytes begin with. -/
def getP (b : List UInt8) : Option Rd :=
  (nxt b 0 1 4).bind fun k => (nxt b k.2 1 64).bind fun m => (rdRuns b m.1.toNat m.2 0).bind fun q => (rdTail b k.1 q.1 q.2.1 q.2.2).bind fun o =>
    if mayO o.1 o.2.1 o.2.2.1 o.2.2.2.1 o.2.2.2.2.1 then some o else none
/-- What is read may be, and is written as just these bytes. -/
theorem getP_inv {b : List UInt8} {k t r : Int} {p : List Rn} {z : Int} {n : Nat} (h : getP b = some (k, t, r, p, z, n)) :
    mayO k t r p z ∧ b.take n = opB k t r p z ∧ n ≤ b.length ∧ (∀ x ∈ p, okR x) ∧ 1 ≤ k ∧ k ≤ 4 := by
  simp only [getP, Option.bind_eq_some_iff] at h
  obtain ⟨⟨k', a1⟩, hk, ⟨m, a2⟩, hm, ⟨p', w, a3⟩, hr, ⟨k2, t2, r2, p2, z2, n2⟩, ht, h⟩ := h
  simp only at hm hr ht h
  split at h
  · rename_i hmay
    simp only [Option.some.injEq, Prod.mk.injEq] at h
    obtain ⟨rfl, rfl, rfl, rfl, rfl, rfl⟩ := h
    obtain ⟨k1, k2', -⟩ := nxt_inv hk
    obtain ⟨m1, m2, -⟩ := nxt_inv hm
    obtain ⟨t1, l1⟩ := nxt_take (L := []) hk (by omega) (by simp [nbs])
    obtain ⟨t2', l2⟩ := nxt_take hm l1 t1
    obtain ⟨g1, g2, g3, g4, g5, g6, -⟩ := rdRuns_inv m.toNat a2 0 _ p' w a3 (by omega) l2 t2' hr
    have hpl : (p'.length : Int) = m := by omega
    unfold rdTail at ht
    split at ht
    · rename_i hk1
      subst hk1
      rw [Option.map_eq_some_iff] at ht
      obtain ⟨⟨z', a4⟩, hz, he⟩ := ht
      simp only [Prod.mk.injEq] at he
      obtain ⟨rfl, rfl, rfl, rfl, rfl, rfl⟩ := he
      obtain ⟨t4, l4⟩ := nxt_take hz g2 g1
      refine ⟨hmay, ?_, l4, g5, k1, k2'⟩
      rw [t4]
      simp [opB, opNums, tailNums, hpl]
    · split at ht
      · rename_i hk1 hk2
        subst hk2
        simp only [Option.some.injEq, Prod.mk.injEq] at ht
        obtain ⟨rfl, rfl, rfl, rfl, rfl, rfl⟩ := ht
        refine ⟨hmay, ?_, g2, g5, k1, k2'⟩
        rw [g1]
        simp [opB, opNums, tailNums, hpl]
      · rename_i hk1 hk2
        simp only [Option.bind_eq_some_iff, Option.map_eq_some_iff] at ht
        obtain ⟨⟨d, a4⟩, hd, ⟨r', a5⟩, hr', he⟩ := ht
        simp only [Prod.mk.injEq] at hd hr' he
        obtain ⟨rfl, rfl, rfl, rfl, rfl, rfl⟩ := he
        obtain ⟨t4, l4⟩ := nxt_take hd g2 g1
        obtain ⟨t5, l5⟩ := nxt_take hr' l4 t4
        refine ⟨hmay, ?_, l5, g5, k1, k2'⟩
        rw [t5]
        subst g3
        have hdd : wasR 0 p' + d - wasR 0 p' = d := by omega
        simp [opB, opNums, tailNums, hpl, hk1, hk2, hdd]
  · cases h
end Go.Proofs.Ytmkpfdcnikgokaa
namespace Go.Proofs.Ytmkpfdcnikgokaa
open Go.RowKit
theorem u8info : (Try.prog.info? 5).map (fun i => (i.zero, i.size, i.bytes)) = some (some (.int .u8 0), 1, 1) := by kernel_rfl
end Go.Proofs.Ytmkpfdcnikgokaa
namespace Go.Proofs.Ytmkpfdcnikgokaa
open Go.RowKit
/-- Get's three results. -/
def gval : Option (Nat × Nat) → Value
  | some (n, s) => .tuple #[.int .i64 (n : Int), .int .i64 (s : Int), .int .i64 0]
  | none => .tuple #[.int .i64 0, .int .i64 0, .int .i64 8]
theorem fv_one : fv 1 = 4607182418800017408 := by decide +kernel
theorem fv_128 : fv 128 = 4638707616191610880 := by decide +kernel
theorem get_facts (n k : Nat) (x : UInt8) (hn : n < 128 ^ k) (hk : k < 6) : ∃ m v n' u', m = x.toNat % 128 ∧ v = 128 ^ k ∧ n' = n + m * v ∧ u' = 128 ^ (k + 1) ∧ n' < 128 ^ (k + 1) ∧ n' < 4398046511104 ∧
    bits .and .u8 (x.toNat : Int) 127 = (m : Int) ∧ floatBits .mul .f64 (fv m) (fv v) = some (fv (m * v)) ∧ floatBits .add .f64 (fv n) (fv (m * v)) = some (fv n') ∧
    floatBits .mul .f64 4638707616191610880 (fv v) = some (fv u') ∧ floatToIntVal .f64 (fv n') .i64 = some (n' : Int) := by
  have hx := x.toNat_lt
  have hp : 128 ^ k ≤ 34359738368 := by
    have : 128 ^ k ≤ 128 ^ 5 := Nat.pow_le_pow_right (by omega) (by omega)
    omega
  have hm : x.toNat % 128 < 128 := Nat.mod_lt _ (by omega)
  have hmv : x.toNat % 128 * 128 ^ k ≤ 127 * 128 ^ k := Nat.mul_le_mul_right _ (by omega)
  have hs : 128 ^ (k + 1) = 128 ^ k * 128 := Nat.pow_succ _ _
  refine ⟨x.toNat % 128, 128 ^ k, _, _, rfl, rfl, rfl, rfl, by omega, by omega, ?_, mul_fv _ _ (by omega) (by omega) (by omega), add_fv _ _ (by omega) (by omega) (by omega), ?_, int_fv _ (by omega)⟩
  · have := u8_and_nat x.toNat 127 (by omega) (by omega)
    refine this.trans ?_
    rw [show (127 : Nat) = 2 ^ 7 - 1 from rfl, Nat.and_two_pow_sub_one_eq_mod]
  · rw [← fv_128, mul_fv _ _ (by omega) (by omega) (by omega), hs, Nat.mul_comm]
set_option maxHeartbeats 1000000 in
set_option maxRecDepth 100000 in
theorem get_any (A : Option Addr) (c : Nat) (l : List UInt8) (w : World) (hr : RB w w.heap.size A l) (hl : l.length < 1073741824) :
    Calls Try.prog 55 #[.slice A l.length c] w fun e w' => e = .returned (gval (gget l)) ∧ w = w' := by
  go_enter Try.func55, Try.ntmps55
  go_wp2_with fail
  refine wp_scope_goto 0 (fun a' w' => w' = w ∧ ∃ (k n u : Nat) (u6 u7 u8 u9 u10 u11 u12 u13 u14 u15 u16 u17 u18 u19 u20 u21 u22 u23 u24 u25 u26 u27 u28 u29 u30 u31 u32 u33 u34 u35 u36 u37 u38 u39 u40 u41 u42 u43 u44 u45 u46 u47 u48 u49 u50 : Value), a' = { tmps := #[.slice A l.length c, undef, .int .i64 0, .int .i64 (k : Int), .int .i64 0, .complex .f64 (fv n) (fv u), u6, u7, u8, u9, u10, u11, u12, u13, u14, u15, u16, u17, u18, u19, u20, u21, u22, u23, u24, u25, u26, u27, u28, u29, u30, u31, u32, u33, u34, u35, u36, u37, u38, u39, u40, u41, u42, u43, u44, u45, u46, u47, u48, u49, u50], defers := [] } ∧ gget l = gg k n (l.drop k) ∧ n < 128 ^ k ∧ u = 128 ^ k ∧ k ≤ 6 ∧ k ≤ l.length) (fun a' _ => (6 - (intOf (a'.tmps.getD 3 undef)).toNat)) rfl ?_ ?_
  · intro K hK
    go_wp2_with fail
    go_step3
    go_step
    go_step
    refine hK _ _ ⟨rfl, 0, 0, 1, undef, undef, undef, undef, undef, undef, undef, undef, undef, undef, undef, undef, undef, undef, undef, undef, undef, undef, undef, undef, undef, undef, undef, undef, undef, undef, undef, undef, undef, undef, undef, undef, undef, undef, undef, undef, undef, undef, undef, undef, undef, undef, undef, undef, undef, ?_, rfl, by omega, rfl, by omega, by omega⟩
    rw [fv_zero, fv_one]
    rfl
  · rintro a' w' ⟨rfl, k, n, u, u6, u7, u8, u9, u10, u11, u12, u13, u14, u15, u16, u17, u18, u19, u20, u21, u22, u23, u24, u25, u26, u27, u28, u29, u30, u31, u32, u33, u34, u35, u36, u37, u38, u39, u40, u41, u42, u43, u44, u45, u46, u47, u48, u49, u50, rfl, hg, hn, hu, hk6, hkl⟩
    have hu' := hide hu
    clear hu
    by_cases hend : k = l.length
    · subst hend
      rw [List.drop_length, gg_nil] at hg
      have hg' := hide hg
      clear hg
      go_wp2_with fail
      simp only [Exit.jump]
      go_ret3
      exact ⟨by rw [hg'.out]; rfl, rfl⟩
    have hne : ((k : Int) == (l.length : Int)) = false := by simp; omega
    by_cases h6 : k = 6
    · subst h6
      rw [gg_six] at hg
      have hg' := hide hg
      clear hg
      go_wp2_with fail
      simp only [Exit.jump]
      go_ret3
      exact ⟨by rw [hg'.out]; rfl, rfl⟩
    have hn6 : ((k : Int) == 6) = false := by simp; omega
    have hlt : k < l.length := by omega
    obtain ⟨b, off, rfl, hbb, hc⟩ := RB.cell hr (by omega)
    have hck := hc k hlt
    clear hc hr hbb
    rw [List.drop_eq_getElem_cons hlt] at hg
    have hx := l[k].toNat_lt
    obtain ⟨m, v, n', u', hm, hv, hn', hu2, hlt', hbig, e1, e2, e3, e4, e5⟩ := get_facts n k l[k] hn (by omega)
    obtain rfl : u = v := hu'.out.trans hv.symm
    clear hu'
    have E2 := fun w : World => run_float_arith (P := Try.prog) w .mul 129 .f64 _ _ _ e2
    have E3 := fun w : World => run_float_arith (P := Try.prog) w .add 129 .f64 _ _ _ e3
    have E4 := fun w : World => run_float_arith (P := Try.prog) w .mul 129 .f64 _ _ _ e4
    have E5 := fun w : World => run_convert_float_int (P := Try.prog) w 129 3 .f64 .i64 _ _ (by kernel_rfl) Try.underlying3 e5
    have E1 : floatOfInt .f64 (m : Int) = fv m := rfl
    have hm' := hide hm
    have hv' := hide hv
    have hn2 := hide hn'
    have hu3 := hide hu2
    clear e2 e3 e4 e5 hm hv hn' hu2
    generalize hxv : l[k].toNat = x at *
    have hxv' := hide hxv
    clear hxv
    have hval := hide (show n + l[k].toNat % 128 * 128 ^ k = n' by rw [hxv'.out, hn2.out, hm'.out, hv'.out])
    by_cases h128 : 128 ≤ x
    · have hgm := hide (gg_more (n := n) (r := l.drop (k + 1)) h6 (show 128 ≤ l[k].toNat by rw [hxv'.out]; exact h128))
      have hg' := hide hg
      clear hg
      have h128' : (128 : Int) ≤ x := by omega
      go_wp2_with fail
      go_step3
      have ek : (k : Int) + 1 = ((k + 1 : Nat) : Int) := by omega
      rw [ek]
      refine ⟨rfl, ⟨rfl, k + 1, n', u', _, _, _, _, _, _, _, _, _, _, _, _, _, _, _, _, _, _, _, _, _, _, _, _, _, _, _, _, _, _, _, _, _, _, _, _, _, _, _, _, _, _, _, _, _, rfl, ?_, hlt', hu3.out, by omega, by omega⟩, ?_⟩
      · rw [hg'.out, hgm.out, hval.out]
      · simp [intOf]; omega
    · have hsmall : (x : Int) < 128 := by omega
      have hlk : l[k].toNat < 128 := by rw [hxv'.out]; omega
      by_cases hbad : 1099511627776 < n'
      · have hgm := hide (gg_bad (k := k) (n := n) (r := l.drop (k + 1)) hlk (.inl (by rw [hval.out]; exact hbad)))
        have hg' := hide hg
        clear hg hlk
        have hb' : (1099511627776 : Int) < n' := by omega
        go_wp2_with fail
        simp only [Exit.jump]
        go_ret3
        exact ⟨by rw [hg'.out, hgm.out]; rfl, rfl⟩
      · have hb' : (n' : Int) ≤ 1099511627776 := by omega
        by_cases hz : x = 0 ∧ 0 < k
        · have hgm := hide (gg_bad (k := k) (n := n) (r := l.drop (k + 1)) hlk (.inr (by rw [hxv'.out]; exact hz)))
          have hg' := hide hg
          clear hg hlk
          have z1 : ((x : Int) == 0) = true := by simp [hz.1]
          have z2 : (1 : Int) < (k : Int) + 1 := by omega
          clear hz
          go_wp2_with fail
          simp only [Exit.jump]
          go_ret3
          exact ⟨by rw [hg'.out, hgm.out]; rfl, rfl⟩
        · have hgm := hide (gg_good (k := k) (n := n) (r := l.drop (k + 1)) h6 hlk (by rw [hval.out, hxv'.out]; omega))
          have hg' := hide hg
          clear hg hlk
          have fin : gval (gget l) = .tuple #[.int .i64 (n' : Int), .int .i64 ((k : Int) + 1), .int .i64 0] := by
            rw [hg'.out, hgm.out, hval.out]; rfl
          have fin' := hide fin
          clear fin
          by_cases hx0 : x = 0
          · have z1 : ((x : Int) == 0) = true := by simp [hx0]
            have z2 : ¬ (1 : Int) < (k : Int) + 1 := by omega
            clear hz hx0
            go_wp2_with fail
            simp only [Exit.jump]
            go_ret3
            exact ⟨by rw [fin'.out]; rfl, rfl⟩
          · have z1 : ((x : Int) == 0) = false := by simp; omega
            clear hz hx0
            go_wp2_with fail
            simp only [Exit.jump]
            go_ret3
            exact ⟨by rw [fin'.out]; rfl, rfl⟩
end Go.Proofs.Ytmkpfdcnikgokaa
namespace Go.Proofs.Ytmkpfdcnikgokaa
open Go.RowKit
/-- Blocks that hold no bytes stay. -/
def Kept (w w' : World) : Prop := ∀ (b : Nat) (o : Obj), w.heap[b]? = some o → (∀ cur, o ≠ .cells cur 5 (0, 0)) → w'.heap[b]? = some o
theorem Kept.refl (w : World) : Kept w w := fun _ _ h _ => h
theorem Kept.trans {a b c : World} (h : Kept a b) (k : Kept b c) : Kept a c := fun x o hx hn => k x o (h x o hx hn) hn
theorem Kept.below {w w' : World} (h : Below w.heap.size w w') : Kept w w' := fun b _ hb _ => (h.block b (Array.getElem?_eq_some_iff.1 hb).1).trans hb
end Go.Proofs.Ytmkpfdcnikgokaa
namespace Go.Proofs.Ytmkpfdcnikgokaa
open Go.RowKit
/-- An operation in a box. -/
def FB (w : World) (g : Nat) (k t r s z : Value) : Prop := w.heap[g]? = some (.cells #[k, t, r, s, z] 115 (0, 0))
theorem five_fb (w : World) (k t r s z : Value) : ∃ w2, w.alloc (.cells #[k, t, r, s, z] 115) = w2 ∧ FB w2 w.heap.size k t r s z ∧ w.heap.size < w2.heap.size ∧ Below w.heap.size w w2 :=
  ⟨_, rfl, heap_alloc_new _ _, by simp, boxed _ _⟩
theorem FB.cells {w : World} {g : Nat} {k t r s z : Value} (h : FB w g k t r s z) : w.cell? ⟨g, 0, none⟩ = some k ∧ w.cell? ⟨g, 1, none⟩ = some t ∧ w.cell? ⟨g, 2, none⟩ = some r ∧ w.cell? ⟨g, 3, none⟩ = some s ∧ w.cell? ⟨g, 4, none⟩ = some z := by
  refine ⟨?_, ?_, ?_, ?_, ?_⟩ <;> (rw [cell_of_row _ _ _ _ _ _ h]; rfl)
theorem FB.fr {w : World} {g : Nat} {k t r s z : Value} (h : FB w g k t r s z) (j : Nat) : w.frozen? ⟨g, j, none⟩ = false := frozen_of_row _ _ _ _ _ h
theorem FB.lt {w : World} {g : Nat} {k t r s z : Value} (h : FB w g k t r s z) : g < w.heap.size := (Array.getElem?_eq_some_iff.1 h).1
theorem FB.below {w w' : World} {g : Nat} {k t r s z : Value} (h : FB w g k t r s z) (hb : Below w.heap.size w w') : FB w' g k t r s z := (hb.block g h.lt).trans h
theorem FB.set3 {w : World} {g : Nat} {k t r s z : Value} (h : FB w g k t r s z) (v : Value) : FB (w.setCell ⟨g, 3, none⟩ v) g k t r v z := heap_setCell_same _ _ _ _ _ _ h
theorem FB.set4 {w : World} {g : Nat} {k t r s z : Value} (h : FB w g k t r s z) (v : Value) : FB (w.setCell ⟨g, 4, none⟩ v) g k t r s v := heap_setCell_same _ _ _ _ _ _ h
theorem FB.other {w : World} {g : Nat} {k t r s z : Value} (h : FB w g k t r s z) {g' : Nat} (hne : g ≠ g') (off : Nat) (v : Value) : FB (w.setCell ⟨g', off, none⟩ v) g k t r s z := (heap_setCell_other _ _ _ _ hne).trans h
/-- The five stores of an operation. -/
def put5 (w : World) (g : Nat) (k t r s z : Value) : World := ((((w.setCell ⟨g, 0, none⟩ k).setCell ⟨g, 1, none⟩ t).setCell ⟨g, 2, none⟩ r).setCell ⟨g, 3, none⟩ s).setCell ⟨g, 4, none⟩ z
theorem put5_fb {w : World} {g : Nat} {k' t' r' s' z' : Value} (h : FB w g k' t' r' s' z') (k t r s z : Value) : FB (put5 w g k t r s z) g k t r s z := by
  unfold put5
  exact heap_setCell_same _ _ _ _ _ _ (heap_setCell_same _ _ _ _ _ _ (heap_setCell_same _ _ _ _ _ _ (heap_setCell_same _ _ _ _ _ _ (heap_setCell_same _ _ _ _ _ _ h))))
theorem put5_below {B : Nat} {w W : World} (h : Below B w W) (g : Nat) (k t r s z : Value) (hB : B ≤ g) : Below B w (put5 W g k t r s z) := ((((h.setCell hB _).setCell hB _).setCell hB _).setCell hB _).setCell hB _
theorem put5_other {w : World} {g : Nat} {k t r s z : Value} {g' : Nat} (hne : g' ≠ g) : (put5 w g k t r s z).heap[g']? = w.heap[g']? := by
  unfold put5
  rw [heap_setCell_other _ _ _ _ hne, heap_setCell_other _ _ _ _ hne, heap_setCell_other _ _ _ _ hne, heap_setCell_other _ _ _ _ hne, heap_setCell_other _ _ _ _ hne]
end Go.Proofs.Ytmkpfdcnikgokaa
namespace Go.Proofs.Ytmkpfdcnikgokaa
open Go.RowKit
/-- A run in a box. -/
def XB (w : World) (g : Nat) (a b c : Value) : Prop := w.heap[g]? = some (.cells #[a, b, c] 123 (0, 0))
theorem three_xb (w : World) (a b c : Value) : ∃ w2, w.alloc (.cells #[a, b, c] 123) = w2 ∧ XB w2 w.heap.size a b c ∧ w.heap.size < w2.heap.size ∧ Below w.heap.size w w2 :=
  ⟨_, rfl, heap_alloc_new _ _, by simp, boxed _ _⟩
theorem XB.cells {w : World} {g : Nat} {a b c : Value} (h : XB w g a b c) : w.cell? ⟨g, 0, none⟩ = some a ∧ w.cell? ⟨g, 1, none⟩ = some b ∧ w.cell? ⟨g, 2, none⟩ = some c := by
  refine ⟨?_, ?_, ?_⟩ <;> (rw [cell_of_row _ _ _ _ _ _ h]; rfl)
theorem XB.below {w w' : World} {g : Nat} {a b c : Value} (h : XB w g a b c) (hb : Below w.heap.size w w') : XB w' g a b c := (hb.block g (Array.getElem?_eq_some_iff.1 h).1).trans h
theorem XB.kept {w w' : World} {g : Nat} {a b c : Value} (h : XB w g a b c) (hk : Kept w w') : XB w' g a b c := hk g _ h (fun cur e => by simp at e)
theorem FB.kept {w w' : World} {g : Nat} {k t r s z : Value} (h : FB w g k t r s z) (hk : Kept w w') : FB w' g k t r s z := hk g _ h (fun cur e => by simp at e)
end Go.Proofs.Ytmkpfdcnikgokaa
