/-
  What point.Points does: a text's code points in new memory, or the errors. Condition: fewer than 2^28 bytes.
-/
import Derived.Test.YtllmlnbgfikeaaaPointCheck
import Derived.Laws.RangeAny
namespace Go.Proofs.Ytllmlnbgfikeaaa
open Go.RowKit

/-- A string of a list of bytes. -/
abbrev str (l : List UInt8) : Value := .string ⟨l.toArray⟩

theorem ext_l (l : List UInt8) (a b : Nat) : (⟨l.toArray⟩ : ByteArray).extract a b = ⟨((l.take b).drop a).toArray⟩ := by
  apply ByteArray.ext
  rw [ByteArray.data_extract]
  apply Array.toList_inj.1
  simp [List.drop_take]

set_option maxHeartbeats 400000 in
set_option maxRecDepth 100000 in
theorem hasprefix_any (l m : List UInt8) (w : World) :
    Calls Try.prog 30 #[.string ⟨l.toArray⟩, .string ⟨m.toArray⟩] w fun e w' => e = .returned (.bool (decide (l.take m.length = m))) ∧ w = w' := by
  by_cases h : m.length ≤ l.length
  · have h' : (m.length : Int) ≤ l.length := by omega
    have fin := hide (show (((⟨l.toArray⟩ : ByteArray).extract 0 m.length).toList == m) = decide (l.take m.length = m) by
      rw [ext_l, ByteArray.toList_eq]
      simp [Bool.beq_eq_decide_eq])
    go_enter Try.func30, Try.ntmps30
    go_wp2
    go_ret
    exact ⟨ret_bool fin.out, rfl⟩
  · have h' : ¬ (m.length : Int) ≤ l.length := by omega
    have hf : ¬ l.take m.length = m := by
      intro e
      have := congrArg List.length e
      rw [List.length_take] at this
      omega
    have H := hide hf
    clear hf
    go_enter Try.func30, Try.ntmps30
    go_wp2
    go_ret
    exact ⟨by rw [decide_eq_false H.out]; rfl, rfl⟩

theorem hasprefix_yes (l m : List UInt8) (w : World) (h : l.take m.length = m) :
    Calls Try.prog 30 #[.string ⟨l.toArray⟩, .string ⟨m.toArray⟩] w fun e w' => e = .returned (.bool true) ∧ w = w' :=
  (hasprefix_any l m w).mono fun _ _ ⟨he, hw⟩ => ⟨by rw [he, decide_eq_true h], hw⟩
theorem hasprefix_no (l m : List UInt8) (w : World) (h : ¬ l.take m.length = m) :
    Calls Try.prog 30 #[.string ⟨l.toArray⟩, .string ⟨m.toArray⟩] w fun e w' => e = .returned (.bool false) ∧ w = w' :=
  (hasprefix_any l m w).mono fun _ _ ⟨he, hw⟩ => ⟨by rw [he, decide_eq_false h], hw⟩

theorem iinfo : (Try.prog.info? 3).map (fun i => (i.zero, i.size, i.bytes)) = some (some (.int .i64 0), 1, 8) := by kernel_rfl
/-- Numbers as cells. -/
def ints (l : List Nat) : List Value := l.map fun (p : Nat) => .int .i64 (p : Int)
theorem ints_len (l : List Nat) : (ints l).length = l.length := by simp [ints]
theorem ints_append (a b : List Nat) : ints (a ++ b) = ints a ++ ints b := by simp [ints]

/-- The world in which a string's reader stands elsewhere. -/
def readAt (w : World) (g : Nat) (s : ByteArray) (pos : Nat) : World := { w with heap := w.heap.setIfInBounds g (.stringIter s pos) }
theorem readAt_size (w : World) (g : Nat) (s : ByteArray) (pos : Nat) : (readAt w g s pos).heap.size = w.heap.size := by simp [readAt]
theorem readAt_get (w : World) (g : Nat) (s : ByteArray) (pos : Nat) (h : g < w.heap.size) : (readAt w g s pos).heap[g]? = some (.stringIter s pos) := by
  simp [readAt, h]
theorem readAt_below (w : World) (g : Nat) (s : ByteArray) (pos : Nat) : Below g w (readAt w g s pos) :=
  ⟨rfl, rfl, rfl, by rw [readAt_size]; exact Nat.le_refl _, fun b hb => by simp only [readAt]; rw [Array.getElem?_setIfInBounds, if_neg (by omega)]⟩
theorem readAt_own {w : World} {g base : Nat} {s : ByteArray} {pos : Nat} {e : TypeId} {size n : Nat} {v : Value} {xs : List Value} (h : w.ownsRow base e size v n xs) (hg : g < base) : (readAt w g s pos).ownsRow base e size v n xs := by
  refine ⟨h.1, ?_⟩
  rcases h.2 with hn | ⟨b, cap, cur, rfl, hb, hgg, rest⟩
  · exact .inl hn
  · refine .inr ⟨b, cap, cur, rfl, hb, ?_, rest⟩
    simp only [readAt]
    rw [Array.getElem?_setIfInBounds, if_neg (by omega)]
    exact hgg
section
variable {P : Program}
theorem run_next_at (w : World) (g : Nat) (s : ByteArray) (pos : Nat) (ty : TypeId) (hg : w.heap[g]? = some (.stringIter s pos)) (h : pos < s.size) :
    (Instr.next (.pointer (some ⟨g, 0, none⟩)) true ty).run P w = .ok (.tuple #[.bool true, .int .i64 pos, .int .i32 (Utf8.decode s pos).1]) (readAt w g s (pos + (Utf8.decode s pos).2)) := by
  simp only [Instr.next, getObj, setObj, Sem.run_bind, Sem.run, hg, Result.andThen, h, if_true]
  simp [goInt, readAt]
theorem run_next_done (w : World) (g : Nat) (s : ByteArray) (pos : Nat) (ty : TypeId) (hg : w.heap[g]? = some (.stringIter s pos)) (h : ¬ pos < s.size) :
    (Instr.next (.pointer (some ⟨g, 0, none⟩)) true ty).run P w = .ok (.tuple #[.bool false]) w := by
  simp [Instr.next, getObj, Sem.run, hg, h]
end

/-- What Points answers. -/
def pointed (l : List UInt8) (w : World) (e : Ending) (w' : World) : Prop :=
  (∃ ps v, Cod l ps ∧ ps.length ≤ 1024 ∧ e = .returned (.tuple #[v, .int .i64 0]) ∧ w'.ownsRow w.heap.size 3 1 v ps.length (ints ps)) ∨
  (∃ ps, Cod l ps ∧ 1024 < ps.length ∧ e = .returned (.tuple #[.slice none 0 0, .int .i64 4])) ∨
  ((∀ ps, ¬ Cod l ps) ∧ e = .returned (.tuple #[.slice none 0 0, .int .i64 40]))

set_option maxHeartbeats 1000000 in
set_option maxRecDepth 100000 in
theorem points_any (l : List UInt8) (w : World) (hl : l.length < 268435456) :
    Calls Try.prog 13 #[.string ⟨l.toArray⟩] w fun e w' => pointed l w e w' ∧ Below w.heap.size w w' := by
  obtain ⟨i0, hi, hz0, hz1, hz2⟩ := info_parts iinfo
  go_enter Try.func13, Try.ntmps13
  go_wp2_with fail
  go_loopw [4] (fun v wr => ∃ qs m, allP qs ∧ Hid (l = cat qs ++ m) ∧ wr.heap[w.heap.size]? = some (.stringIter ⟨l.toArray⟩ (cat qs).length) ∧ wr.ownsRow (w.heap.size + 1) 3 1 v qs.length (ints qs) ∧ Below w.heap.size w wr ∧ w.heap.size < wr.heap.size) (fun _ wr => l.length - wr.iterPos w.heap.size)
  case atStart => exact ⟨[], l, allP_nil, hide rfl, World.iter_heap _ _ _, World.ownsRow_nil _ _ _ _, (Below.refl _ _).alloc (Nat.le_refl _) _, by simp [World.iter]⟩
  case round =>
    obtain ⟨qs, m, hq, hlm, hit, hown, hb, hsz⟩ := hrel
    have hlen := congrArg List.length hlm.out
    rw [List.length_append] at hlen
    by_cases hm : m = []
    · subst hm
      have hnx := fun ty => run_next_done (P := Try.prog) wr w.heap.size ⟨l.toArray⟩ (cat qs).length ty hit (by show ¬ _ < l.length; simp at hlen; omega)
      have hcod : Cod l qs := ⟨hq, by have := hlm.out; simpa using this.symm⟩
      have hq2 := (cat_len qs).1
      clear hlen hit
      have hown' := hide (own_base (base' := w.heap.size) hown (by omega))
      obtain ⟨A, c, rfl, -, -, -⟩ := own_slice hown
      clear hown
      by_cases h1 : (1024 : Int) < (qs.length : Int)
      · go_wp2_with fail
        go_ret2
        exact ⟨.inr (.inl ⟨qs, hcod, by omega, rfl⟩), hb⟩
      · go_wp2_with fail
        go_ret2
        exact ⟨.inl ⟨qs, _, hcod, by omega, rfl, hown'.out⟩, hb⟩
    · have hpos : 0 < m.length := List.length_pos_iff.2 hm
      have hnx := fun ty => run_next_at (P := Try.prog) wr w.heap.size ⟨l.toArray⟩ (cat qs).length ty hit (by show _ < l.length; omega)
      have hdrop : l.drop (cat qs).length = m := by rw [hlm.out, List.drop_left' rfl]
      rw [decode_l, hdrop] at hnx
      have hq2 := (cat_len qs).1
      have hcl : (cat qs).length < l.length := by omega
      rcases decL_cases m hm with ⟨hp, x, hx, hk⟩ | hbad
      · obtain ⟨p, hpe⟩ : ∃ p, p = (decL m).1 := ⟨_, rfl⟩
        obtain ⟨k, hke⟩ : ∃ k, k = (decL m).2 := ⟨_, rfl⟩
        rw [← hpe] at hp hx hk
        rw [← hpe, ← hke] at hnx
        rw [← hke] at hk
        clear hpe hke
        have hp1 : (p : Int) ≤ 1114111 := by have := hp.1; omega
        have hown' := readAt_own (s := ⟨l.toArray⟩) (pos := (cat qs).length + k) hown (Nat.lt_succ_self _)
        have hb' := hb.trans ((readAt_below wr w.heap.size ⟨l.toArray⟩ ((cat qs).length + k)).mono (Nat.le_refl _))
        have hsz' : w.heap.size + 1 ≤ (readAt wr w.heap.size ⟨l.toArray⟩ ((cat qs).length + k)).heap.size := by rw [readAt_size]; exact hsz
        have hit' := readAt_get wr w.heap.size ⟨l.toArray⟩ ((cat qs).length + k) hsz
        have hposr : wr.iterPos w.heap.size = (cat qs).length := by unfold World.iterPos; rw [hit]
        have Hpr := hide hposr
        have Hlm := hide (show l = cat (qs ++ [p]) ++ x by rw [cat_append, cat_one, List.append_assoc, ← hx]; exact hlm.out)
        have Hk := hide (show (cat (qs ++ [p])).length = (cat qs).length + k by rw [cat_append, cat_one, List.length_append, hk])
        have hk1 : 1 ≤ k := by have := (enc_len p).1; omega
        have hq' := allP_append.2 ⟨hq, allP_one hp⟩
        have hext : (⟨l.toArray⟩ : ByteArray).extract (cat qs).length l.length = ⟨m.toArray⟩ := by rw [ext_l, List.take_of_length_le (Nat.le_refl _), hdrop]
        have hql : qs.length < 1073741824 := by omega
        have Hx := hide (show p = 65533 → m.take 3 = [239, 191, 189] by
          rintro rfl
          have h3 : encP 65533 = [239, 191, 189] := by decide
          rw [hx, h3]
          rfl)
        have Hext := hide hext
        clear hown hb hdrop hlen hit hlm hk hx hposr hp hsz hext
        by_cases h3 : p = 65533
        · have htk := Hx.out h3
          have htk' := hide htk
          have hp3 : ((p : Int) == 65533) = true := by simp; omega
          clear htk h3 Hx
          go_wp2_with fail
          rw [Hext.out]
          refine (hasprefix_yes m [239, 191, 189] _ htk'.out).mono ?_
          rintro e w' ⟨rfl, rfl⟩
          go_wp2_with (at_builtin; refine wpList_push rfl _ _ 23 rfl (w.heap.size + 1) i0 (.int .i64 0) 1 8 Try.underlying23 hi hz0 hz1 hz2 rfl (by decide) _ _ _ rfl hown' 1 rfl rfl rfl hql (by decide) hsz' ?_; intro v1 w1 hown1 hb1)
          go_roundw
          case rel =>
            refine ⟨qs ++ [p], x, hq', Hlm, ?_, ?_, hb'.trans (hb1.mono (by omega)), ?_⟩
            · rw [Hk.out, hb1.block _ (Nat.lt_succ_self _)]
              exact hit'
            · rw [List.length_append, ints_append]
              exact hown1
            · have := hb1.size
              omega
          case measure =>
            have e1 : w1.iterPos w.heap.size = (cat qs).length + k := by
              unfold World.iterPos
              rw [hb1.block _ (Nat.lt_succ_self _), hit']
            rw [e1, Hpr.out]
            omega
        · have hp3 : ((p : Int) == 65533) = false := by simp; omega
          clear h3 Hx Hext
          go_wp2_with (at_builtin; refine wpList_push rfl _ _ 23 rfl (w.heap.size + 1) i0 (.int .i64 0) 1 8 Try.underlying23 hi hz0 hz1 hz2 rfl (by decide) _ _ _ rfl hown' 1 rfl rfl rfl hql (by decide) hsz' ?_; intro v1 w1 hown1 hb1)
          go_roundw
          case rel =>
            refine ⟨qs ++ [p], x, hq', Hlm, ?_, ?_, hb'.trans (hb1.mono (by omega)), ?_⟩
            · rw [Hk.out, hb1.block _ (Nat.lt_succ_self _)]
              exact hit'
            · rw [List.length_append, ints_append]
              exact hown1
            · have := hb1.size
              omega
          case measure =>
            have e1 : w1.iterPos w.heap.size = (cat qs).length + k := by
              unfold World.iterPos
              rw [hb1.block _ (Nat.lt_succ_self _), hit']
            rw [e1, Hpr.out]
            omega
      · rw [hbad] at hnx
        simp only at hnx
        have hfalse : ¬ m.take 3 = [239, 191, 189] := by
          intro e
          refine noP_of_dec hbad 65533 (m.drop 3) (by decide) ?_
          have h3 : encP 65533 = [239, 191, 189] := by decide
          rw [h3, ← e, List.take_append_drop]
        have hfin : ∀ ps, ¬ Cod l ps := by rw [hlm.out]; exact bad_at hq hm (noP_of_dec hbad)
        have hext : (⟨l.toArray⟩ : ByteArray).extract (cat qs).length l.length = ⟨m.toArray⟩ := by rw [ext_l, List.take_of_length_le (Nat.le_refl _), hdrop]
        have Hext := hide hext
        have Hff := hide hfalse
        have Hfin := hide hfin
        have hb' := hb.trans ((readAt_below wr w.heap.size ⟨l.toArray⟩ ((cat qs).length + 1)).mono (Nat.le_refl _))
        clear hbad hdrop hlen hit hlm hfalse hfin hext hown
        go_wp2_with fail
        rw [Hext.out]
        refine (hasprefix_no m [239, 191, 189] _ Hff.out).mono ?_
        rintro e w' ⟨rfl, rfl⟩
        go_wp2_with fail
        go_ret2
        exact ⟨.inr (.inr ⟨Hfin.out, rfl⟩), hb'⟩
end Go.Proofs.Ytllmlnbgfikeaaa
