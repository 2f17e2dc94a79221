/-
  Texts of this claim, put together: EyeOps, CrcMath, CrcTable, CrcSum. What each theorem asks stands in its statement.
-/
import Derived.Test.YtmkpfdcnikgokaaRows
import Derived.Laws.CopyOwn
import Derived.Test.YtmkpfdcnikgokaaGa1
import Derived.Test.YtmkpfdcnikgokaaGa19
import Derived.Test.YtmkpfdcnikgokaaGa32
namespace Go.Proofs.Ytmkpfdcnikgokaa
open Go.RowKit
theorem OO.at {w w' : World} {base c g : Nat} {A : Option Addr} {L : List OpL} (h : OO w base A c L) (hg : g < base) (ho : OnlyAt g w w') : OO w' base A c L :=
  ⟨own_at h.1 hg ho, fun x hx => own_at (h.2 x hx) hg ho⟩
/-- The operations that follow. -/
def eyeO (st : ES) : List OpP × ES :=
  if st.2 = true then ([], st) else match readL st.1 with
    | some (l, n) => (l, (st.1.drop n, false))
    | none => ([], (st.1, true))
theorem eyeO_good (st : ES) : (∀ o ∈ (eyeO st).1, goodP o) ∧ (eyeO st).1.length ≤ 1024 := by
  unfold eyeO
  split
  · exact ⟨fun o h => (by cases h), by simp⟩
  · split
    · rename_i h
      exact ⟨(readL_inv h).1, (readL_inv h).2.1⟩
    · exact ⟨fun o h => (by cases h), by simp⟩
set_option maxHeartbeats 3200000 in
set_option maxRecDepth 100000 in
theorem eyeops (g : Nat) (st : ES) (w : World) (h : EY w g st) (l9 : List OpP) (s9 : ES) (hx : eyeO st = (l9, s9)) :
    Calls Try.prog 35 #[.pointer (some ⟨g, 0, none⟩)] w fun e w' => ∃ A c L, e = .returned (.slice A (List.length (α := OpL) L) c) ∧ L.map OpL.op = l9 ∧ OO w' w.heap.size A c L ∧ EY w' g s9 ∧ OnlyAt g w w' := by
  obtain ⟨A, c, hE, hr, hc, hl, hA⟩ := h
  obtain ⟨b, bad⟩ := st
  simp only at hE hr hc hl
  have hlt := hE.lt
  obtain ⟨c0, c1⟩ := hE.cells
  have G := hide (cread_any A b b.length c w (RD.more hr.1 (Nat.le_of_lt hlt)) rfl hl hc hA)
  cases hg : readL b with
  | none =>
    rw [hg] at G
    have HV := hide (show eyeO (b, bad) = ([], (b, true)) by
      unfold eyeO
      cases bad with
      | true => rfl
      | false => simp [hg])
    rw [HV.out] at hx
    simp only [Prod.mk.injEq] at hx
    obtain ⟨rfl, rfl⟩ := hx
    have HE := hide hE
    have Hr := hide (And.intro hr (And.intro hc (And.intro hl hA)))
    clear hg hE hr hA hc HV
    go_enter Try.func35, Try.ntmps35
    go_wp2_with fail
    refine G.out.mono ?_
    rintro e w2 ⟨A', c', L', rfl, hL, hO, hb⟩
    have HE2 := hide (HE.out.below hb)
    have HR2 := hide (RBT.below Hr.out.1 (hb.mono (Nat.le_of_lt hlt)))
    have HO2 := hide (OnlyAt.below hb (Nat.le_of_lt hlt))
    clear c0 c1
    obtain ⟨c0, c1⟩ := HE2.out.cells
    have f1 := frozen_of_row w2 g 1 _ _ HE2.out
    have HF := hide (show EY (w2.setCell ⟨g, 1, none⟩ (.bool true)) g (b, true) from ⟨A, c, HE2.out.set1 true, RBT.below HR2.out ((Below.refl g w2).setCell (Nat.le_refl _) _), Hr.out.2.1, Hr.out.2.2.1, Hr.out.2.2.2⟩)
    have HO := hide (HO2.out.trans (OnlyAt.set g 1 w2 (.bool true)))
    clear hL hO hb
    cases bad
    all_goals
      go_wp2_with fail
      go_ret
      exact ⟨none, 0, [], rfl, rfl, OO.nil _ _, HF.out, HO.out⟩
  | some q =>
    obtain ⟨l, s⟩ := q
    obtain ⟨-, v1, v2, v3⟩ := readL_inv hg
    rw [hg] at G
    cases bad with
    | true =>
      have hx2 : ([], ((b, true) : ES)) = (l9, s9) := hx
      simp only [Prod.mk.injEq] at hx2
      obtain ⟨rfl, rfl⟩ := hx2
      have HE := hide hE
      have Hr := hide (And.intro hr (And.intro hc (And.intro hl hA)))
      clear hg hE hr hA hc hx v3
      go_enter Try.func35, Try.ntmps35
      go_wp2_with fail
      refine G.out.mono ?_
      rintro e w2 ⟨A', c', L', rfl, hL, hO, hb⟩
      have HE2 := hide (HE.out.below hb)
      have HR2 := hide (RBT.below Hr.out.1 (hb.mono (Nat.le_of_lt hlt)))
      have HO2 := hide (OnlyAt.below hb (Nat.le_of_lt hlt))
      clear c0 c1
      obtain ⟨c0, c1⟩ := HE2.out.cells
      have f1 := frozen_of_row w2 g 1 _ _ HE2.out
      have HF := hide (show EY (w2.setCell ⟨g, 1, none⟩ (.bool true)) g (b, true) from ⟨A, c, HE2.out.set1 true, RBT.below HR2.out ((Below.refl g w2).setCell (Nat.le_refl _) _), Hr.out.2.1, Hr.out.2.2.1, Hr.out.2.2.2⟩)
      have HO := hide (HO2.out.trans (OnlyAt.set g 1 w2 (.bool true)))
      obtain ⟨ln, hln⟩ : ∃ q, q = List.length (outL (some (l, s))).1 := ⟨_, rfl⟩
      clear hL hO hb
      go_wp2_with fail
      go_ret
      exact ⟨none, 0, [], rfl, rfl, OO.nil _ _, HF.out, HO.out⟩
    | false =>
      simp only [outL] at G
      have hx2 : (l, ((b.drop s, false) : ES)) = (l9, s9) := by rw [← hx]; unfold eyeO; simp [hg]
      simp only [Prod.mk.injEq] at hx2
      obtain ⟨rfl, rfl⟩ := hx2
      have hs1 : 1 ≤ s := by
        have h1 := congrArg List.length v3
        rw [List.length_take, List.length_append] at h1
        have h2 : 1 ≤ (nbs [(l.length : Int)]).length := by
          rw [show nbs [(l.length : Int)] = nb (l.length : Int).toNat ++ [] from rfl, List.length_append]
          have := nb_pos (l.length : Int).toNat
          omega
        omega
      obtain ⟨b0, o0, rfl, hB0, -⟩ := RB.cell hr.1 (by omega)
      obtain ⟨SA, SC, hSA⟩ : ∃ (SA : Option Addr) (SC : Nat), (c = s ∧ SA = some ⟨b0, o0, none⟩ ∧ SC = 0 ∨ ¬ c = s ∧ SA = some ⟨b0, o0 + s, none⟩ ∧ SC = c - s) := by
        by_cases h : c = s
        · exact ⟨_, _, .inl ⟨h, rfl, rfl⟩⟩
        · exact ⟨_, _, .inr ⟨h, rfl, rfl⟩⟩
      have hrs0 : RB w g SA (b.drop s) := by
        rcases hSA with ⟨h1, -, -⟩ | ⟨-, rfl, -⟩
        · rw [List.drop_eq_nil_of_le (by omega)]
          exact RD.nil_
        · have := hr.1.sub s b.length (Nat.le_refl _)
          rwa [List.take_length] at this
      have hrs : RBT w g SA (b.drop s) := ⟨hrs0, fun q hq => by rcases hSA with ⟨-, h2, -⟩ | ⟨-, h2, -⟩ <;> (rw [h2] at hq; cases hq; have h9 := hr.2 _ rfl; exact h9)⟩
      have HFin := hide (show (b.drop s).length ≤ SC ∧ (b.drop s).length < 1073741824 ∧ (SA = none → SC = 0) from ⟨by
        rw [List.length_drop]
        rcases hSA with ⟨h1, -, h2⟩ | ⟨h1, -, h2⟩ <;> omega, by rw [List.length_drop]; omega, fun h => by rcases hSA with ⟨-, h2, -⟩ | ⟨-, h2, -⟩ <;> (rw [h2] at h; cases h)⟩)
      have HE := hide hE
      have Hrs := hide hrs
      have zs0 : (0 : Int) ≤ s := by omega
      have zs1 : (s : Int) ≤ b.length := by omega
      have zs2 : (s : Int) ≤ c := by omega
      have zs3 : (b.length : Int) ≤ c := by omega
      have Hll := hide hl
      clear hg hE hr hA hc hx v3 hrs hrs0 v1
      go_enter Try.func35, Try.ntmps35
      go_wp2_with fail
      refine G.out.mono ?_
      rintro e w2 ⟨A', c', L', rfl, hL, hO, hb⟩
      have HE2 := hide (HE.out.below hb)
      have HR2 := hide (RBT.below Hrs.out (hb.mono (Nat.le_of_lt hlt)))
      have HO2 := hide (OnlyAt.below hb (Nat.le_of_lt hlt))
      clear c0 c1
      obtain ⟨c0, c1⟩ := HE2.out.cells
      have f1 := frozen_of_row w2 g 1 _ _ HE2.out
      have E1 := HE2.out.set1 false
      have f2 := frozen_of_row _ g 0 _ _ E1
      obtain ⟨k0, k1⟩ := E1.cells
      have E2 : EYE ((w2.setCell ⟨g, 1, none⟩ (.bool false)).setCell ⟨g, 0, none⟩ (.slice SA (b.length - s) SC)) g SA (b.length - s) SC false := E1.set0
      have HF := hide (show EY ((w2.setCell ⟨g, 1, none⟩ (.bool false)).setCell ⟨g, 0, none⟩ (.slice SA (b.length - s) SC)) g (b.drop s, false) from ⟨SA, SC, by rw [List.length_drop]; exact E2, RBT.below HR2.out (((Below.refl g w2).setCell (Nat.le_refl _) _).setCell (Nat.le_refl _) _), HFin.out⟩)
      have ho3 := (OnlyAt.set g 1 w2 (.bool false)).trans (OnlyAt.set g 0 _ (.slice SA (b.length - s) SC))
      have HO := hide (HO2.out.trans ho3)
      have HOO := hide (hO.at hlt ho3)
      have hLl : l.length = L'.length := by rw [← hL, List.length_map]
      have HL2 := hide hL
      rw [hLl]
      obtain ⟨nl, hnl⟩ : ∃ q, q = L'.length := ⟨_, rfl⟩
      have Hnl := hide hnl
      rw [← hnl]
      clear hL hO hb E1 E2 ho3 hLl hnl
      rcases hSA with ⟨hca, rfl, rfl⟩ | ⟨hca, rfl, rfl⟩
      all_goals
        go_wp2_with fail
        go_ret
        exact ⟨A', c', L', by rw [← Hnl.out]; rfl, HL2.out, HOO.out, HF.out, HO.out⟩
end Go.Proofs.Ytmkpfdcnikgokaa
namespace Go.Proofs.Ytmkpfdcnikgokaa
abbrev B32 := BitVec 32
def poly : B32 := 0xedb88320#32
/-- One bit's step. -/
def bs (n : B32) : B32 := (n >>> 1) ^^^ (if n.getLsbD 0 then poly else 0#32)
/-- k of them. -/
def bsk : Nat → B32 → B32
  | 0, n => n
  | k + 1, n => bsk k (bs n)
/-- The table at a number. -/
def tb (n : B32) : B32 := bsk 8 n
/-- One byte's step, by any table. -/
def stp (T : B32 → B32) (s : B32) (x : UInt8) : B32 := T ((s &&& 255#32) ^^^ BitVec.ofNat 32 x.toNat) ^^^ (s >>> 8)
def run (T : B32 → B32) (s : B32) (l : List UInt8) : B32 := l.foldl (stp T) s
/-- All bits set. -/
def ones : B32 := 4294967295#32
/-- The sum of bytes, by any table. -/
def smT (T : B32 → B32) (l : List UInt8) : B32 := ~~~ (run T ones l)
/-- The sum of bytes. -/
def sm (l : List UInt8) : B32 := smT tb l
theorem bsk_add (j k : Nat) (n : B32) : bsk (j + k) n = bsk k (bsk j n) := by
  induction j generalizing n with
  | zero => simp [bsk]
  | succ j ih => rw [show j + 1 + k = (j + k) + 1 by omega]; simp only [bsk]; rw [ih]
theorem run_append (T : B32 → B32) (s : B32) (a b : List UInt8) : run T s (a ++ b) = run T (run T s a) b := by simp [run]
/-- A byte, eight bits higher for each k, as a number. -/
def hi (k : Nat) (x : UInt8) : B32 := BitVec.ofNat 32 x.toNat <<< (8 * k)
/-- The k-th byte of a number. -/
def byteOf (v : B32) (k : Nat) : UInt8 := UInt8.ofNat (v.toNat / 256 ^ k % 256)
end Go.Proofs.Ytmkpfdcnikgokaa
namespace Go.Proofs.Ytmkpfdcnikgokaa
open Go.RowKit
/-- A number of 32 bits as a value. -/
def u32v (x : B32) : Value := .int .u32 (x.toNat : Int)
/-- A table as the cells of an array. -/
def tcells (T : B32 → B32) : Array Value := Array.ofFn (n := 256) fun i => u32v (T (BitVec.ofNat 32 i.val))
theorem tcells_size (T : B32 → B32) : (tcells T).size = 256 := by simp [tcells]
theorem tcells_get (T : B32 → B32) (i : Nat) (h : i < 256) : (tcells T)[i]? = some (u32v (T (BitVec.ofNat 32 i))) := by
  simp [tcells, h]
theorem bsk_next (j : Nat) (n : B32) : bsk (j + 1) n = bs (bsk j n) := bsk_add j 1 n
theorem bs_val (n : B32) : bits .xor .u32 ((n.toNat : Int) / 2) (bits .and .u32 3988292384 (-bits .and .u32 (n.toNat : Int) 1 % 4294967296)) = ((bs n).toNat : Int) := by
  have hn := n.isLt
  have e1 : bits .and .u32 (n.toNat : Int) 1 = ((n.toNat &&& 1 : Nat) : Int) := u32_and_nat n.toNat 1 (by omega) (by omega)
  rw [e1, Nat.and_one_is_mod]
  have e0 : (bs n).toNat = (n.toNat / 2) ^^^ (if n.toNat % 2 = 1 then 3988292384 else 0) := by
    unfold bs
    rw [BitVec.toNat_xor, BitVec.toNat_ushiftRight, Nat.shiftRight_eq_div_pow]
    have : n.getLsbD 0 = decide (n.toNat % 2 = 1) := by
      rw [← BitVec.testBit_toNat, Nat.testBit_zero]
    rw [this]
    by_cases h : n.toNat % 2 = 1 <;> simp [h, poly]
  rw [e0]
  have d2 : (n.toNat : Int) / 2 = ((n.toNat / 2 : Nat) : Int) := by omega
  rw [d2]
  by_cases h : n.toNat % 2 = 1
  · rw [h, if_pos rfl]
    have e2 : bits .and .u32 3988292384 (-((1 : Nat) : Int) % 4294967296) = ((3988292384 : Nat) : Int) := by
      have := u32_and_nat 3988292384 4294967295 (by omega) (by omega)
      simpa using this
    rw [e2]
    exact u32_xor_nat _ _ (by omega) (by omega)
  · have h0 : n.toNat % 2 = 0 := by omega
    rw [h0, if_neg (by omega)]
    have e2 : bits .and .u32 3988292384 (-((0 : Nat) : Int) % 4294967296) = ((0 : Nat) : Int) := by
      have := u32_and_nat 3988292384 0 (by omega) (by omega)
      simpa using this
    rw [e2]
    exact u32_xor_nat _ _ (by omega) (by omega)
/-- The zero table. -/
def tzero : Array Value := tcells fun _ => 0#32
theorem zero_table (w : World) : (zeroValue 107).run Try.prog w = .ok (.agg tzero) w := by kernel_rfl
theorem info_table (T : B32 → B32) : (Try.prog.info? 107).map (·.size) = some (tcells T).size := by rw [tcells_size]; kernel_rfl
theorem one_table (T : B32 → B32) : (tcells T).all (·.oneCell') = true := by
  rw [Array.all_eq_true]
  intro i hi
  simp [tcells, u32v, Value.oneCell']
set_option maxHeartbeats 400000 in
set_option maxRecDepth 100000 in
theorem table_ok (w : World) : Calls Try.prog 63 #[] w fun e w' => e = .returned (.agg (tcells tb)) ∧ Below w.heap.size w w' := by
  have hz := zero_table
  go_enter Try.func63, Try.ntmps63
  go_wp2_with fail
  clear hz
  go_loopw [3] (fun i wr => ∃ (k : Nat) (cur : Array Value), k ≤ 256 ∧ i = .int .u32 (k : Int) ∧ wr.heap[w.heap.size]? = some (.cells cur 107 (0, 0)) ∧ Hid (cur.size = 256) ∧ Hid (∀ j, j < k → cur[j]? = some (u32v (tb (BitVec.ofNat 32 j)))) ∧ Below w.heap.size w wr) (fun i _ => 256 - (intOf i).toNat)
  case atStart => exact ⟨0, tzero, by omega, rfl, heap_alloc_new w _, hide (tcells_size _), hide (fun j hj => absurd hj (by omega)), (Below.refl _ _).alloc (Nat.le_refl _) _⟩
  case round =>
    obtain ⟨k, cur, hk, rfl, hg, hsz, hcur, hbel⟩ := hrel
    by_cases hlt : (k : Int) < 256
    · go_wp2_with fail
      go_loop [2, 7] (fun n c => ∃ (j : Nat), j ≤ 8 ∧ c = .int .i64 (j : Int) ∧ n = .int .u32 ((bsk j (BitVec.ofNat 32 k)).toNat : Int)) (fun _ c => 8 - (intOf c).toNat)
      case atStart => exact ⟨0, by omega, rfl, ret_val (by simp [bsk]; omega)⟩
      case round =>
        obtain ⟨j, hj, rfl, rfl⟩ := hrel
        by_cases hlt2 : (j : Int) < 8
        · go_wp2_with fail
          go_round
          case rel =>
            exact ⟨j + 1, by omega, by go_num, ret_val (by rw [bs_val, bsk_next])⟩
          case measure => simp [intOf]; omega
        · obtain rfl : j = 8 := by omega
          obtain ⟨v, hv⟩ : ∃ v, cur[k]? = some v := ⟨cur[k]'(by have := hsz.out; omega), Array.getElem?_eq_getElem _⟩
          have hcell : wr.cell? ⟨w.heap.size, k, none⟩ = some v := by rw [cell_of_row wr _ k cur _ _ hg]; exact hv
          have hfr := frozen_of_row wr w.heap.size k cur _ hg
          clear hv
          have hg' := hide hg
          clear hg
          go_wp2_with fail
          go_roundw
          case rel =>
            refine ⟨k + 1, cur.setIfInBounds k (u32v (tb (BitVec.ofNat 32 k))), by omega, by go_num, heap_setCell_same wr _ _ cur _ _ (unhide hg'), hide (by rw [Array.size_setIfInBounds]; exact hsz.out), hide (fun i hi => ?_), hbel.setCell (Nat.le_refl _) _⟩
            rw [Array.getElem?_setIfInBounds]
            by_cases e : k = i
            · subst e
              rw [if_pos rfl, if_pos (by have := hsz.out; omega)]
            · rw [if_neg e]
              exact hcur.out i (by omega)
          case measure => simp [intOf]; omega
    · have hk' : k = 256 := by omega
      have hcut : cur = tcells tb := by
        apply Array.ext_getElem?
        intro i
        by_cases hi : i < 256
        · rw [hcur.out i (by omega), tcells_get tb i hi]
        · rw [Array.getElem?_eq_none (by rw [hsz.out]; omega), Array.getElem?_eq_none (by rw [tcells_size]; omega)]
      have hgt : wr.heap[w.heap.size]? = some (.cells (tcells tb) 107 (0, 0)) := by rw [← hcut]; exact hg
      clear hk' hcut hg hsz hcur
      go_wp2_with (first
        | (with_reducible refine wpList_load_row rfl 107 (.tmp 0) rfl w.heap.size rfl 107 (tcells tb) (0, 0) (.array 256 34) hgt Try.underlying107 rfl (info_table tb) ?_)
        | (with_reducible refine wpList_store_row rfl 107 (.tmp 0) (.tmp 21) rfl w.heap.size (tcells tb) rfl rfl 107 (tcells tb) hgt (info_table tb) rfl (one_table tb) ?_))
      exact bodyPost_ret (results_cell_row rfl _ _ w.heap.size 107 (tcells tb) (0, 0) (.array 256 34) rfl (setRow_heap _ _ _ _ _ _ hgt) Try.underlying107 rfl (info_table tb)) rfl ⟨rfl, below_setRow hbel (Nat.le_refl _) _⟩
end Go.Proofs.Ytmkpfdcnikgokaa
namespace Go.Proofs.Ytmkpfdcnikgokaa
open Go.RowKit
/-- One round of the sum, in the walk's spelling. -/
theorem sum_round (T : B32 → B32) (s : B32) (x : UInt8) : ∃ k : Nat, k < 256 ∧ bits .xor .u8 ((s.toNat : Int) % 256) (x.toNat : Int) = (k : Int) ∧
    (tcells T)[k]? = some (.int .u32 ((T (BitVec.ofNat 32 k)).toNat : Int)) ∧ bits .xor .u32 ((T (BitVec.ofNat 32 k)).toNat : Int) ((s.toNat : Int) / 256) = ((stp T s x).toNat : Int) := by
  have hx := x.toNat_lt
  have hk : (s.toNat % 256) ^^^ x.toNat < 256 := Nat.xor_lt_two_pow (n := 8) (by omega) (by omega)
  have ek : (s &&& 255#32) ^^^ BitVec.ofNat 32 x.toNat = BitVec.ofNat 32 ((s.toNat % 256) ^^^ x.toNat) := by
    apply BitVec.eq_of_toNat_eq
    rw [BitVec.toNat_xor, BitVec.toNat_and, BitVec.toNat_ofNat, BitVec.toNat_ofNat, BitVec.toNat_ofNat, Nat.mod_eq_of_lt (show x.toNat < 2 ^ 32 by omega), Nat.mod_eq_of_lt (show (s.toNat % 256) ^^^ x.toNat < 2 ^ 32 by omega)]
    congr 1
    exact Nat.and_two_pow_sub_one_eq_mod s.toNat 8
  refine ⟨(s.toNat % 256) ^^^ x.toNat, hk, ?_, ?_, ?_⟩
  · have e : (s.toNat : Int) % 256 = ((s.toNat % 256 : Nat) : Int) := by omega
    rw [e]
    exact u8_xor_nat _ _ (by omega) (by omega)
  · rw [tcells_get T _ hk]; rfl
  · have e : (s.toNat : Int) / 256 = ((s.toNat / 256 : Nat) : Int) := by omega
    have hs := s.isLt
    have ht := (T (BitVec.ofNat 32 ((s.toNat % 256) ^^^ x.toNat))).isLt
    rw [e, u32_xor_nat _ _ (by omega) (by omega)]
    unfold stp
    rw [ek, BitVec.toNat_xor, BitVec.toNat_ushiftRight, Nat.shiftRight_eq_div_pow]
theorem run_snoc (T : B32 → B32) (s : B32) (l : List UInt8) (k : Nat) (h : k < l.length) : run T s (l.take (k + 1)) = stp T (run T s (l.take k)) l[k] := by
  rw [List.take_succ_eq_append_getElem h, run_append]
  rfl
theorem flip_val (s : B32) : bits .xor .u32 IntKind.u32.max (s.toNat : Int) = ((~~~ s).toNat : Int) := by
  have hs := s.isLt
  have e : IntKind.u32.max = ((4294967295 : Nat) : Int) := by decide
  rw [e, u32_xor_nat _ _ (by omega) (by omega)]
  have : ~~~ s = ones ^^^ s := by
    apply BitVec.eq_of_getLsbD_eq
    intro i hi'
    have ho : ones.getLsbD i = true := by
      rw [show ones = ~~~ 0#32 by decide, BitVec.getLsbD_not, BitVec.getLsbD_zero]
      simp [hi']
    rw [BitVec.getLsbD_xor, BitVec.getLsbD_not, ho]
    simp [hi']
  rw [this, BitVec.toNat_xor]
  rfl
set_option maxHeartbeats 400000 in
set_option maxRecDepth 100000 in
theorem sum_any (T : B32 → B32) (A : Option Addr) (c : Nat) (l : List UInt8) (w : World) (hr : RB w w.heap.size A l) (hl : l.length < 1000000) :
    Calls Try.prog 62 #[.agg (tcells T), .slice A l.length c] w fun e w' => e = .returned (.int .u32 ((smT T l).toNat : Int)) ∧ Below w.heap.size w w' := by
  go_enter Try.func62, Try.ntmps62
  go_wp2_with fail
  have hb := (Below.refl w.heap.size w).alloc (Nat.le_refl _) (.cells (tcells T) 107)
  have hr' := hr.alloc (Nat.le_refl _) (.cells (tcells T) 107)
  have hg := hide (heap_alloc_new w (.cells (tcells T) 107))
  clear hr
  generalize w.alloc (.cells (tcells T) 107) = W at hb hr' hg ⊢
  go_loop [5, 10] (fun n i => ∃ (k : Nat), k ≤ l.length ∧ i = .int .i64 (k : Int) ∧ n = .int .u32 ((run T ones (l.take k)).toNat : Int)) (fun _ i => l.length - (intOf i).toNat)
  case atStart => exact ⟨0, by omega, rfl, ret_val rfl⟩
  case round =>
    obtain ⟨k, hk, rfl, rfl⟩ := hrel
    by_cases hlt : k < l.length
    · obtain ⟨b, off, rfl, hbb, hc⟩ := RB.cell hr' (by omega)
      have hck := hc k hlt
      clear hc
      have hsn := hide (run_snoc T ones l k hlt)
      generalize run T ones (l.take k) = s at hsn ⊢
      obtain ⟨j, hj, e1, e2, e3⟩ := sum_round T s l[k]
      have hcj : W.cell? ⟨w.heap.size, j, none⟩ = some (.int .u32 ((T (BitVec.ofNat 32 j)).toNat : Int)) := by rw [cell_of_row W _ j _ _ _ (unhide hg)]; exact e2
      have hj' : (j : Int) < 256 := by omega
      clear e2
      have e3' := hide e3
      clear e3
      go_wp2_with fail
      go_round
      case rel => exact ⟨k + 1, by omega, by go_num, ret_val (by rw [e3'.out, hsn.out])⟩
      case measure => simp [intOf]; omega
    · have hk' : k = l.length := by omega
      subst hk'
      rw [List.take_of_length_le (Nat.le_refl _)]
      go_wp2_with fail
      go_ret
      exact ⟨ret_int (flip_val _), hb⟩
end Go.Proofs.Ytmkpfdcnikgokaa
