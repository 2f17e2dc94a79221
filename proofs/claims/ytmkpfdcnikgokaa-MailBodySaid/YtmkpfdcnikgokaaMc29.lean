/-
  Texts of this claim, put together: CrcMath, CrcTable, CrcSum, Slices. What each theorem asks stands in its statement.
-/
import Derived.Test.YtmkpfdcnikgokaaRows
import Derived.Laws.CopyOwn
import Derived.Lib.AppendZeros
import Derived.BigQuiet
import Derived.Test.YtmkpfdcnikgokaaMc1
import Derived.Test.YtmkpfdcnikgokaaMc3
import Derived.Test.YtmkpfdcnikgokaaMc6
set_option linter.unusedVariables false
set_option linter.unusedSimpArgs false
namespace Go.Proofs.Ytmkpfdcnikgokaa
abbrev B32 := BitVec 32
def poly : B32 := 0xedb88320#32
/-- One bit's step. -/
def bs (n : B32) : B32 := (n >>> 1) ^^^ (if n.getLsbD 0 then poly else 0#32)
/-- k of them. -/
def bsk : Nat → B32 → B32
  | 0, n => n
  | k + 1, n => bsk k (bs n)
/-- The table at a number. -/
def tb (n : B32) : B32 := bsk 8 n
/-- One byte's step, by any table. -/
def stp (T : B32 → B32) (s : B32) (x : UInt8) : B32 := T ((s &&& 255#32) ^^^ BitVec.ofNat 32 x.toNat) ^^^ (s >>> 8)
def run (T : B32 → B32) (s : B32) (l : List UInt8) : B32 := l.foldl (stp T) s
/-- All bits set. -/
def ones : B32 := 4294967295#32
/-- The sum of bytes, by any table. -/
def smT (T : B32 → B32) (l : List UInt8) : B32 := ~~~ (run T ones l)
/-- The sum of bytes. -/
def sm (l : List UInt8) : B32 := smT tb l
theorem bsk_add (j k : Nat) (n : B32) : bsk (j + k) n = bsk k (bsk j n) := by
  induction j generalizing n with
  | zero => simp [bsk]
  | succ j ih => rw [show j + 1 + k = (j + k) + 1 by omega]; simp only [bsk]; rw [ih]
theorem run_append (T : B32 → B32) (s : B32) (a b : List UInt8) : run T s (a ++ b) = run T (run T s a) b := by simp [run]
/-- A byte, eight bits higher for each k, as a number. -/
def hi (k : Nat) (x : UInt8) : B32 := BitVec.ofNat 32 x.toNat <<< (8 * k)
/-- The k-th byte of a number. -/
def byteOf (v : B32) (k : Nat) : UInt8 := UInt8.ofNat (v.toNat / 256 ^ k % 256)
end Go.Proofs.Ytmkpfdcnikgokaa
namespace Go.Proofs.Ytmkpfdcnikgokaa
open Go.RowKit
/-- A number of 32 bits as a value. -/
def u32v (x : B32) : Value := .int .u32 (x.toNat : Int)
/-- A table as the cells of an array. -/
def tcells (T : B32 → B32) : Array Value := Array.ofFn (n := 256) fun i => u32v (T (BitVec.ofNat 32 i.val))
theorem tcells_size (T : B32 → B32) : (tcells T).size = 256 := by simp [tcells]
theorem tcells_get (T : B32 → B32) (i : Nat) (h : i < 256) : (tcells T)[i]? = some (u32v (T (BitVec.ofNat 32 i))) := by
  simp [tcells, h]
theorem bsk_next (j : Nat) (n : B32) : bsk (j + 1) n = bs (bsk j n) := bsk_add j 1 n
theorem bs_val (n : B32) : bits .xor .u32 ((n.toNat : Int) / 2) (bits .and .u32 3988292384 (-bits .and .u32 (n.toNat : Int) 1 % 4294967296)) = ((bs n).toNat : Int) := by
  have hn := n.isLt
  have e1 : bits .and .u32 (n.toNat : Int) 1 = ((n.toNat &&& 1 : Nat) : Int) := u32_and_nat n.toNat 1 (by omega) (by omega)
  rw [e1, Nat.and_one_is_mod]
  have e0 : (bs n).toNat = (n.toNat / 2) ^^^ (if n.toNat % 2 = 1 then 3988292384 else 0) := by
    unfold bs
    rw [BitVec.toNat_xor, BitVec.toNat_ushiftRight, Nat.shiftRight_eq_div_pow]
    have : n.getLsbD 0 = decide (n.toNat % 2 = 1) := by
      rw [← BitVec.testBit_toNat, Nat.testBit_zero]
    rw [this]
    by_cases h : n.toNat % 2 = 1 <;> simp [h, poly]
  rw [e0]
  have d2 : (n.toNat : Int) / 2 = ((n.toNat / 2 : Nat) : Int) := by omega
  rw [d2]
  by_cases h : n.toNat % 2 = 1
  · rw [h, if_pos rfl]
    have e2 : bits .and .u32 3988292384 (-((1 : Nat) : Int) % 4294967296) = ((3988292384 : Nat) : Int) := by
      have := u32_and_nat 3988292384 4294967295 (by omega) (by omega)
      simpa using this
    rw [e2]
    exact u32_xor_nat _ _ (by omega) (by omega)
  · have h0 : n.toNat % 2 = 0 := by omega
    rw [h0, if_neg (by omega)]
    have e2 : bits .and .u32 3988292384 (-((0 : Nat) : Int) % 4294967296) = ((0 : Nat) : Int) := by
      have := u32_and_nat 3988292384 0 (by omega) (by omega)
      simpa using this
    rw [e2]
    exact u32_xor_nat _ _ (by omega) (by omega)
/-- The zero table. -/
def tzero : Array Value := tcells fun _ => 0#32
theorem zero_table (w : World) : (zeroValue 107).run Try.prog w = .ok (.agg tzero) w := by kernel_rfl
theorem info_table (T : B32 → B32) : (Try.prog.info? 107).map (·.size) = some (tcells T).size := by rw [tcells_size]; kernel_rfl
theorem one_table (T : B32 → B32) : (tcells T).all (·.oneCell') = true := by
  rw [Array.all_eq_true]
  intro i hi
  simp [tcells, u32v, Value.oneCell']
set_option maxHeartbeats 400000 in
set_option maxRecDepth 100000 in
theorem table_ok (w : World) : Calls Try.prog 63 #[] w fun e w' => e = .returned (.agg (tcells tb)) ∧ Below w.heap.size w w' := by
  have hz := zero_table
  go_enter Try.func63, Try.ntmps63
  go_wp2_with fail
  clear hz
  go_loopw [3] (fun i wr => ∃ (k : Nat) (cur : Array Value), k ≤ 256 ∧ i = .int .u32 (k : Int) ∧ wr.heap[w.heap.size]? = some (.cells cur 107 (0, 0)) ∧ Hid (cur.size = 256) ∧ Hid (∀ j, j < k → cur[j]? = some (u32v (tb (BitVec.ofNat 32 j)))) ∧ Below w.heap.size w wr) (fun i _ => 256 - (intOf i).toNat)
  case atStart => exact ⟨0, tzero, by omega, rfl, heap_alloc_new w _, hide (tcells_size _), hide (fun j hj => absurd hj (by omega)), (Below.refl _ _).alloc (Nat.le_refl _) _⟩
  case round =>
    obtain ⟨k, cur, hk, rfl, hg, hsz, hcur, hbel⟩ := hrel
    by_cases hlt : (k : Int) < 256
    · go_wp2_with fail
      go_loop [2, 7] (fun n c => ∃ (j : Nat), j ≤ 8 ∧ c = .int .i64 (j : Int) ∧ n = .int .u32 ((bsk j (BitVec.ofNat 32 k)).toNat : Int)) (fun _ c => 8 - (intOf c).toNat)
      case atStart => exact ⟨0, by omega, rfl, ret_val (by simp [bsk]; omega)⟩
      case round =>
        obtain ⟨j, hj, rfl, rfl⟩ := hrel
        by_cases hlt2 : (j : Int) < 8
        · go_wp2_with fail
          go_round
          case rel =>
            exact ⟨j + 1, by omega, by go_num, ret_val (by rw [bs_val, bsk_next])⟩
          case measure => simp [intOf]; omega
        · obtain rfl : j = 8 := by omega
          obtain ⟨v, hv⟩ : ∃ v, cur[k]? = some v := ⟨cur[k]'(by have := hsz.out; omega), Array.getElem?_eq_getElem _⟩
          have hcell : wr.cell? ⟨w.heap.size, k, none⟩ = some v := by rw [cell_of_row wr _ k cur _ _ hg]; exact hv
          have hfr := frozen_of_row wr w.heap.size k cur _ hg
          clear hv
          have hg' := hide hg
          clear hg
          go_wp2_with fail
          go_roundw
          case rel =>
            refine ⟨k + 1, cur.setIfInBounds k (u32v (tb (BitVec.ofNat 32 k))), by omega, by go_num, heap_setCell_same wr _ _ cur _ _ (unhide hg'), hide (by rw [Array.size_setIfInBounds]; exact hsz.out), hide (fun i hi => ?_), hbel.setCell (Nat.le_refl _) _⟩
            rw [Array.getElem?_setIfInBounds]
            by_cases e : k = i
            · subst e
              rw [if_pos rfl, if_pos (by have := hsz.out; omega)]
            · rw [if_neg e]
              exact hcur.out i (by omega)
          case measure => simp [intOf]; omega
    · have hk' : k = 256 := by omega
      have hcut : cur = tcells tb := by
        apply Array.ext_getElem?
        intro i
        by_cases hi : i < 256
        · rw [hcur.out i (by omega), tcells_get tb i hi]
        · rw [Array.getElem?_eq_none (by rw [hsz.out]; omega), Array.getElem?_eq_none (by rw [tcells_size]; omega)]
      have hgt : wr.heap[w.heap.size]? = some (.cells (tcells tb) 107 (0, 0)) := by rw [← hcut]; exact hg
      clear hk' hcut hg hsz hcur
      go_wp2_with (first
        | (with_reducible refine wpList_load_row rfl 107 (.tmp 0) rfl w.heap.size rfl 107 (tcells tb) (0, 0) (.array 256 34) hgt Try.underlying107 rfl (info_table tb) ?_)
        | (with_reducible refine wpList_store_row rfl 107 (.tmp 0) (.tmp 21) rfl w.heap.size (tcells tb) rfl rfl 107 (tcells tb) hgt (info_table tb) rfl (one_table tb) ?_))
      exact bodyPost_ret (results_cell_row rfl _ _ w.heap.size 107 (tcells tb) (0, 0) (.array 256 34) rfl (setRow_heap _ _ _ _ _ _ hgt) Try.underlying107 rfl (info_table tb)) rfl ⟨rfl, below_setRow hbel (Nat.le_refl _) _⟩
end Go.Proofs.Ytmkpfdcnikgokaa
namespace Go.Proofs.Ytmkpfdcnikgokaa
open Go.RowKit
/-- One round of the sum, in the walk's spelling. -/
theorem sum_round (T : B32 → B32) (s : B32) (x : UInt8) : ∃ k : Nat, k < 256 ∧ bits .xor .u8 ((s.toNat : Int) % 256) (x.toNat : Int) = (k : Int) ∧
    (tcells T)[k]? = some (.int .u32 ((T (BitVec.ofNat 32 k)).toNat : Int)) ∧ bits .xor .u32 ((T (BitVec.ofNat 32 k)).toNat : Int) ((s.toNat : Int) / 256) = ((stp T s x).toNat : Int) := by
  have hx := x.toNat_lt
  have hk : (s.toNat % 256) ^^^ x.toNat < 256 := Nat.xor_lt_two_pow (n := 8) (by omega) (by omega)
  have ek : (s &&& 255#32) ^^^ BitVec.ofNat 32 x.toNat = BitVec.ofNat 32 ((s.toNat % 256) ^^^ x.toNat) := by
    apply BitVec.eq_of_toNat_eq
    rw [BitVec.toNat_xor, BitVec.toNat_and, BitVec.toNat_ofNat, BitVec.toNat_ofNat, BitVec.toNat_ofNat, Nat.mod_eq_of_lt (show x.toNat < 2 ^ 32 by omega), Nat.mod_eq_of_lt (show (s.toNat % 256) ^^^ x.toNat < 2 ^ 32 by omega)]
    congr 1
    exact Nat.and_two_pow_sub_one_eq_mod s.toNat 8
  refine ⟨(s.toNat % 256) ^^^ x.toNat, hk, ?_, ?_, ?_⟩
  · have e : (s.toNat : Int) % 256 = ((s.toNat % 256 : Nat) : Int) := by omega
    rw [e]
    exact u8_xor_nat _ _ (by omega) (by omega)
  · rw [tcells_get T _ hk]; rfl
  · have e : (s.toNat : Int) / 256 = ((s.toNat / 256 : Nat) : Int) := by omega
    have hs := s.isLt
    have ht := (T (BitVec.ofNat 32 ((s.toNat % 256) ^^^ x.toNat))).isLt
    rw [e, u32_xor_nat _ _ (by omega) (by omega)]
    unfold stp
    rw [ek, BitVec.toNat_xor, BitVec.toNat_ushiftRight, Nat.shiftRight_eq_div_pow]
theorem run_snoc (T : B32 → B32) (s : B32) (l : List UInt8) (k : Nat) (h : k < l.length) : run T s (l.take (k + 1)) = stp T (run T s (l.take k)) l[k] := by
  rw [List.take_succ_eq_append_getElem h, run_append]
  rfl
theorem flip_val (s : B32) : bits .xor .u32 IntKind.u32.max (s.toNat : Int) = ((~~~ s).toNat : Int) := by
  have hs := s.isLt
  have e : IntKind.u32.max = ((4294967295 : Nat) : Int) := by decide
  rw [e, u32_xor_nat _ _ (by omega) (by omega)]
  have : ~~~ s = ones ^^^ s := by
    apply BitVec.eq_of_getLsbD_eq
    intro i hi'
    have ho : ones.getLsbD i = true := by
      rw [show ones = ~~~ 0#32 by decide, BitVec.getLsbD_not, BitVec.getLsbD_zero]
      simp [hi']
    rw [BitVec.getLsbD_xor, BitVec.getLsbD_not, ho]
    simp [hi']
  rw [this, BitVec.toNat_xor]
  rfl
set_option maxHeartbeats 400000 in
set_option maxRecDepth 100000 in
theorem sum_any (T : B32 → B32) (A : Option Addr) (c : Nat) (l : List UInt8) (w : World) (hr : RB w w.heap.size A l) (hl : l.length < 1000000) :
    Calls Try.prog 62 #[.agg (tcells T), .slice A l.length c] w fun e w' => e = .returned (.int .u32 ((smT T l).toNat : Int)) ∧ Below w.heap.size w w' := by
  go_enter Try.func62, Try.ntmps62
  go_wp2_with fail
  have hb := (Below.refl w.heap.size w).alloc (Nat.le_refl _) (.cells (tcells T) 107)
  have hr' := hr.alloc (Nat.le_refl _) (.cells (tcells T) 107)
  have hg := hide (heap_alloc_new w (.cells (tcells T) 107))
  clear hr
  generalize w.alloc (.cells (tcells T) 107) = W at hb hr' hg ⊢
  go_loop [5, 10] (fun n i => ∃ (k : Nat), k ≤ l.length ∧ i = .int .i64 (k : Int) ∧ n = .int .u32 ((run T ones (l.take k)).toNat : Int)) (fun _ i => l.length - (intOf i).toNat)
  case atStart => exact ⟨0, by omega, rfl, ret_val rfl⟩
  case round =>
    obtain ⟨k, hk, rfl, rfl⟩ := hrel
    by_cases hlt : k < l.length
    · obtain ⟨b, off, rfl, hbb, hc⟩ := RB.cell hr' (by omega)
      have hck := hc k hlt
      clear hc
      have hsn := hide (run_snoc T ones l k hlt)
      generalize run T ones (l.take k) = s at hsn ⊢
      obtain ⟨j, hj, e1, e2, e3⟩ := sum_round T s l[k]
      have hcj : W.cell? ⟨w.heap.size, j, none⟩ = some (.int .u32 ((T (BitVec.ofNat 32 j)).toNat : Int)) := by rw [cell_of_row W _ j _ _ _ (unhide hg)]; exact e2
      have hj' : (j : Int) < 256 := by omega
      clear e2
      have e3' := hide e3
      clear e3
      go_wp2_with fail
      go_round
      case rel => exact ⟨k + 1, by omega, by go_num, ret_val (by rw [e3'.out, hsn.out])⟩
      case measure => simp [intOf]; omega
    · have hk' : k = l.length := by omega
      subst hk'
      rw [List.take_of_length_le (Nat.le_refl _)]
      go_wp2_with fail
      go_ret
      exact ⟨ret_int (flip_val _), hb⟩
end Go.Proofs.Ytmkpfdcnikgokaa
namespace Go.Proofs.Ytmkpfdcnikgokaa
open Go.RowKit
set_option maxHeartbeats 800000 in
set_option maxRecDepth 100000 in
/-- slices.Equal: the same bytes. -/
theorem equal_any (A B : Option Addr) (c d : Nat) (l m : List UInt8) (w : World) (hr : RB w w.heap.size A l) (hs : RB w w.heap.size B m) (hl : l.length < 1073741824) (hm : m.length < 1073741824) :
    Calls Try.prog 56 #[.slice A l.length c, .slice B m.length d] w fun e w' => e = .returned (.bool (l == m)) ∧ Below w.heap.size w w' := by
  by_cases hne : (l.length : Int) = (m.length : Int)
  · have hll : l.length = m.length := by omega
    have E := hide hll
    have hbe : ((l.length : Int) == (m.length : Int)) = true := by simpa using hne
    have hbn : ((l.length : Int) != (m.length : Int)) = false := by simpa using hne
    clear hne
    go_enter Try.func56, Try.ntmps56
    clear hll
    go_wp2_with fail
    go_loopw [13] (fun i wr => ∃ k : Nat, k ≤ l.length ∧ i = .int .i64 (k : Int) ∧ Hid (l.take k = m.take k) ∧ Below w.heap.size w wr) (fun i _ => l.length - (intOf i).toNat)
    case atStart => exact ⟨0, by omega, rfl, hide rfl, Below.refl _ _⟩
    case round =>
      obtain ⟨k, hk, rfl, hT, hb⟩ := hrel
      by_cases hlt : k < l.length
      · have hltm : k < m.length := by have := E.out; omega
        obtain ⟨b0, o0, rfl, hB0, hC0⟩ := RB.cell (RD.below hr hb) (by omega)
        obtain ⟨b1, o1, rfl, hB1, hC1⟩ := RB.cell (RD.below hs hb) (by omega)
        have d0 := hC0 k hlt
        have d1 := hC1 k hltm
        clear hC0 hC1
        have z0 : (k : Int) < l.length := by omega
        have z1 : (k : Int) < m.length := by omega
        have z4 : (0 : Int) ≤ k := by omega
        obtain ⟨x, hx⟩ : ∃ x, x = l[k] := ⟨_, rfl⟩
        obtain ⟨y, hy⟩ : ∃ y, y = m[k] := ⟨_, rfl⟩
        rw [← hx] at d0
        rw [← hy] at d1
        have hx' := hide hx
        have hy' := hide hy
        clear hx hy
        by_cases hxy : x = y
        · have hn : ((x.toNat : Int) != (y.toNat : Int)) = false := by simp [hxy]
          have hxy' := hide hxy
          clear hxy
          go_wp2_with fail
          go_quiet (fail)
          go_wp2_with fail
          go_roundw
          case rel =>
            refine ⟨k + 1, by omega, by go_num, hide ?_, below_drewN hb _⟩
            rw [List.take_succ_eq_append_getElem hlt, List.take_succ_eq_append_getElem hltm, hT.out, ← hx'.out, ← hy'.out, hxy'.out]
          case measure => simp [intOf]; omega
        · have hn : ((x.toNat : Int) != (y.toNat : Int)) = true := by
            simp only [bne_iff_ne, ne_eq, Int.natCast_inj]
            exact fun e => hxy (UInt8.toNat_inj.1 e)
          have hxy' := hide hxy
          clear hxy
          go_wp2_with fail
          go_quiet (fail)
          go_wp2_with fail
          go_ret
          refine ⟨ret_bool ?_, below_drewN hb _⟩
          symm
          rw [beq_eq_false_iff_ne]
          intro e
          subst e
          exact hxy'.out (hx'.out.trans hy'.out.symm)
      · have hkl : ¬ (k : Int) < l.length := by omega
        have fin := hide (show (l == m) = true by
          have h1 := hT.out
          rw [List.take_of_length_le (by omega), List.take_of_length_le (by have := E.out; omega)] at h1
          simpa using h1)
        go_wp2_with fail
        go_ret
        exact ⟨ret_bool fin.out.symm, hb⟩
  · have hbe : ((l.length : Int) == (m.length : Int)) = false := by simpa using hne
    have hbn : ((l.length : Int) != (m.length : Int)) = true := by simpa using hne
    have fin := hide (show (l == m) = false by
      rw [beq_eq_false_iff_ne]
      intro e
      exact hne (by rw [e]))
    clear hne
    go_enter Try.func56, Try.ntmps56
    go_wp2_with fail
    go_ret
    exact ⟨ret_bool fin.out.symm, Below.refl _ _⟩
theorem eql_nil (w : World) (a : Option Addr) (n c : Nat) : (binOp .eql 28 (.slice a n c) (.slice none 0 0)).run Try.prog w = .ok (.bool a.isNone) w := by
  simp only [binOp]
  simp [run_equal_slice_nil w 28 5 a n c Try.underlying28]
set_option maxHeartbeats 400000 in
set_option maxRecDepth 100000 in
/-- slices.Clone: the same bytes in new memory. -/
theorem clone_any (A : Option Addr) (n c : Nat) (l : List UInt8) (w : World) (hr : RB w w.heap.size A l) (hn : l.length = n) (hl : n < 1073741824) (hnil : A = none → c = 0) :
    Calls Try.prog 57 #[.slice A n c] w fun e w' => ∃ v, e = .returned v ∧ w'.ownsRow w.heap.size 5 1 v l.length (u8s l) ∧ Below w.heap.size w w' := by
  subst hn
  obtain ⟨i0, hi0, hz0, hz1, hz2⟩ := info_parts u8info
  rcases A with _ | a
  · have hl0 : l.length = 0 := by
      rcases Nat.eq_zero_or_pos l.length with h | h
      · exact h
      · obtain ⟨b, off, h, _⟩ := hr.2 h
        cases h
    obtain rfl := List.eq_nil_of_length_eq_zero hl0
    obtain rfl := hnil rfl
    clear hnil hl0
    have heq := fun w : World => eql_nil w none 0 0
    go_enter Try.func57, Try.ntmps57
    go_wp2_with fail
    go_ret
    exact ⟨_, rfl, World.ownsRow_nil _ _ _ _, Below.refl _ _⟩
  · clear hnil
    have heq := fun w : World => eql_nil w (some a) l.length c
    go_enter Try.func57, Try.ntmps57
    go_wp2_with (at_builtin; refine wpList_append_src _ rfl (.tmp 5) (.tmp 6) 28 rfl w.heap.size 5 i0 (.int .u8 0) 1 1 Try.underlying28 hi0 hz0 hz1 hz2 rfl (by decide) _ 0 [] rfl (own_empty w _ _ _ (Nat.le_refl _)) w.heap.size (some a) l.length c (u8s l) rfl (RD.alloc hr (Nat.le_refl _) _) (u8s_one _) (by omega) (by decide) (by simp) ?_; intro v1 w1 hown1 hb1; simp only [Nat.zero_add, List.nil_append] at hown1)
    go_ret
    exact ⟨_, rfl, hown1, ((Below.refl w.heap.size w).alloc (Nat.le_refl _) _).trans hb1⟩
set_option maxHeartbeats 400000 in
set_option maxRecDepth 100000 in
/-- slices.Grow of nil: nothing is owned yet. -/
theorem grow_any (n : Nat) (w : World) (hn : n < 1073741824) :
    Calls Try.prog 64 #[.slice none 0 0, .int .i64 (n : Int)] w fun e w' => ∃ v, e = .returned v ∧ w'.ownsRow w.heap.size 5 1 v 0 [] ∧ Below w.heap.size w w' := by
  obtain ⟨i0, hi0, hz0, hz1, hz2⟩ := info_parts u8info
  by_cases h0 : 0 < n
  · have h0' : (0 : Int) < n := by omega
    go_enter Try.func64, Try.ntmps64
    go_wp2_with (at_builtin; refine Lib.wpList_append_run _ rfl (.tmp 20) (.tmp 21) 28 3 rfl _ _ rfl rfl _ _ (Lib.run_append_nil_zeros w 28 3 _ 5 i0 (.int .u8 0) .i64 .i64 Try.underlying28 Try.underlying3 hi0 hz0 n h0 (by omega) (by omega) (by rw [hz2]; omega)) ?_)
    go_ret
    refine ⟨_, rfl, ?_, ((Below.refl w.heap.size w).alloc (Nat.le_refl _) _).drew⟩
    have hge := grownCap_ge w n 0 5
    exact (World.ownsRow_made w _ (grownCap w n 0 5) (Nat.le_refl _) (grownCap_le_maxLen w n 0 _ (by unfold maxLen; omega)) (by simp [size_zeroCells]; omega)).drew
  · have h0' : ¬ (0 : Int) < n := by omega
    have hn0 : n = 0 := by omega
    subst hn0
    go_enter Try.func64, Try.ntmps64
    go_wp2_with fail
    go_ret
    exact ⟨_, rfl, World.ownsRow_nil _ _ _ _, Below.refl _ _⟩
/-- The bytes of the first k of some slices. -/
def flat (xs : List (Option Addr × List UInt8 × Nat)) (k : Nat) : List UInt8 := (xs.take k).flatMap fun x => x.2.1
theorem flat_succ (xs : List (Option Addr × List UInt8 × Nat)) (k : Nat) (h : k < xs.length) : flat xs (k + 1) = flat xs k ++ xs[k].2.1 := by
  unfold flat
  rw [List.take_succ_eq_append_getElem h, List.flatMap_append]
  simp
theorem flat_le (xs : List (Option Addr × List UInt8 × Nat)) (k : Nat) : (flat xs k).length ≤ (flat xs xs.length).length := by
  have : flat xs xs.length = flat xs k ++ (xs.drop k).flatMap fun x => x.2.1 := by
    unfold flat
    rw [List.take_length, ← List.flatMap_append, List.take_append_drop]
  rw [this, List.length_append]
  omega
set_option maxHeartbeats 800000 in
set_option maxRecDepth 100000 in
/-- slices.Concat: all bytes in new memory. -/
theorem concat_any (b c : Nat) (xs : List (Option Addr × List UInt8 × Nat)) (w : World) (hb : b < w.heap.size) (hc : ∀ j (h : j < xs.length), w.cell? ⟨b, j, none⟩ = some (.slice xs[j].1 xs[j].2.1.length xs[j].2.2))
    (hr : ∀ j (h : j < xs.length), RB w w.heap.size xs[j].1 xs[j].2.1) (hl : (flat xs xs.length).length < 1073741824) (hm : xs.length < 1000) :
    Calls Try.prog 41 #[.slice (some ⟨b, 0, none⟩) xs.length c] w fun e w' => ∃ v, e = .returned v ∧ w'.ownsRow w.heap.size 5 1 v (flat xs xs.length).length (u8s (flat xs xs.length)) ∧ Below w.heap.size w w' := by
  obtain ⟨i0, hi0, hz0, hz1, hz2⟩ := info_parts u8info
  have HC := hide hc
  have HR := hide hr
  have hml : (xs.length : Int) < 1000 := by omega
  clear hc hr
  go_enter Try.func41, Try.ntmps41
  go_wp2_with fail
  go_loop [3, 11] (fun n i => ∃ k : Nat, k ≤ xs.length ∧ i = .int .i64 (k : Int) ∧ n = .int .i64 ((flat xs k).length : Int)) (fun _ i => xs.length - (intOf i).toNat)
  case atStart => exact ⟨0, by omega, rfl, rfl⟩
  case round =>
    obtain ⟨k, hk, rfl, rfl⟩ := hrel
    have hle := flat_le xs k
    by_cases hlt : k < xs.length
    · have hck := HC.out k hlt
      have hle2 := flat_le xs (k + 1)
      have hs := congrArg List.length (flat_succ xs k hlt)
      rw [List.length_append] at hs
      have hsum : ((flat xs k).length : Int) + (xs[k].2.1.length : Int) ≤ 1073741824 := by omega
      have hs' := hide hs
      clear hs
      generalize xs[k].1 = A1 at hck
      generalize xs[k].2.1.length = n1 at hck hsum hs'
      generalize xs[k].2.2 = c1 at hck
      go_wp2_with fail
      go_round
      case rel => exact ⟨k + 1, by omega, by go_num, ret_val (by have := hs'.out; omega)⟩
      case measure => simp [intOf]; omega
    · have hkl : k = xs.length := by omega
      subst hkl
      go_wp2_with fail
      refine (grow_any _ w hl).mono ?_
      rintro e w1 ⟨v1, rfl, hown1, hb1⟩
      clear hle hlt hk
      go_wp2_with fail
      go_loopw [6, 27] (fun v i wr => ∃ k : Nat, k ≤ xs.length ∧ i = .int .i64 (k : Int) ∧ wr.ownsRow w.heap.size 5 1 v (flat xs k).length (u8s (flat xs k)) ∧ Below w.heap.size w wr) (fun _ i _ => xs.length - (intOf i).toNat)
      case atStart => exact ⟨0, by omega, rfl, hown1, hb1⟩
      case round =>
        obtain ⟨k, hk, rfl, hown, hbr⟩ := hrel
        by_cases hlt : k < xs.length
        · have hck := (hbr.cell (p := ⟨b, k, none⟩) hb).trans (HC.out k hlt)
          have hle2 := flat_le xs (k + 1)
          have hs := flat_succ xs k hlt
          have hrk := RD.below (HR.out k hlt) hbr
          have hs' := hide hs
          have hll := congrArg List.length hs
          rw [List.length_append] at hll
          have hll' : (flat xs k).length + xs[k].2.1.length ≤ 1073741824 := by omega
          clear hs hll
          generalize xs[k].1 = A1 at hck hrk
          generalize xs[k].2.2 = c1 at hck
          generalize xs[k].2.1 = l1 at hck hrk hs' hll'
          go_wp2_with (at_builtin; refine wpList_append_src _ rfl (.tmp 31) (.tmp 32) 28 rfl w.heap.size 5 i0 (.int .u8 0) 1 1 Try.underlying28 hi0 hz0 hz1 hz2 rfl (by decide) _ _ _ rfl hown w.heap.size A1 l1.length c1 (u8s l1) rfl hrk (u8s_one _) hll' (by decide) hbr.size ?_; intro v2 w2 hown2 hb2)
          go_roundw
          case rel => exact ⟨k + 1, by omega, by go_num, by rw [hs'.out, u8s_append, List.length_append]; exact hown2, hbr.trans hb2⟩
          case measure => simp [intOf]; omega
        · have hkl : k = xs.length := by omega
          subst hkl
          go_wp2_with fail
          go_ret
          exact ⟨_, rfl, hown, hbr⟩
end Go.Proofs.Ytmkpfdcnikgokaa
