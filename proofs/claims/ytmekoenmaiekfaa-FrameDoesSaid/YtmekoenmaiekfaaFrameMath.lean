/-
  The plain law of frames: what a frame is, that it is read back, that no turned, cut or lengthened one is a frame. No program in sight; no condition beyond what each line says.
-/
import Derived.Test.YtmekoenmaiekfaaCrcMath
import Derived.Test.YtmekoenmaiekfaaNumBackMath
namespace Go.Proofs.Ytmekoenmaiekfaa

/-- Bytes with their sum behind. -/
def shut4 (t : List UInt8) : List UInt8 := t ++ [byteOf (sm t) 0, byteOf (sm t) 1, byteOf (sm t) 2, byteOf (sm t) 3]
theorem shut4_len (t : List UInt8) : (shut4 t).length = t.length + 4 := by simp [shut4]
/-- A frame's bytes ahead of its sum. -/
def head (l : List UInt8) : List UInt8 := 70 :: (nb l.length ++ l)
def frm (l : List UInt8) : List UInt8 := shut4 (head l)
theorem head_len (l : List UInt8) : (head l).length = 1 + (nb l.length).length + l.length := by simp [head]; omega
theorem frm_len (l : List UInt8) : (frm l).length = 5 + (nb l.length).length + l.length := by rw [frm, shut4_len, head_len]; omega
theorem sm_shut4 (t : List UInt8) : sm (shut4 t) = 0x2144df1c#32 := sm_self t

/-- What Open takes out of bytes, as frame.Open does it. -/
def opn (b : List UInt8) : Option (List UInt8) :=
  if b.length < 6 ∨ b.head? ≠ some 70 then none else
  match gget ((b.take (b.length - 4)).drop 1) with
  | none => none
  | some (n, s) => if n > 16384 ∨ 1 + s + n ≠ b.length - 4 ∨ shut4 (b.take (b.length - 4)) ≠ b then none else some ((b.take (b.length - 4)).drop (1 + s))

theorem shut4_take (t : List UInt8) : (shut4 t).take ((shut4 t).length - 4) = t := by
  rw [shut4_len, Nat.add_sub_cancel, shut4, List.take_left']
  rfl
theorem opn_frm (l : List UInt8) (h : l.length ≤ 16384) : opn (frm l) = some l := by
  have hp := nb_pos l.length
  have hs : gget (((frm l).take ((frm l).length - 4)).drop 1) = some (l.length, (nb l.length).length) := by
    rw [frm, shut4_take, head, List.drop_one, List.tail_cons]
    exact gget_nb l.length l (by omega)
  unfold opn
  rw [if_neg (by rw [frm_len]; simp [frm, shut4, head]; omega), hs]
  simp only
  rw [if_neg, frm, shut4_take]
  · congr 1
    rw [head, Nat.add_comm, List.drop_succ_cons, List.drop_left']
    rfl
  · rw [frm, shut4_take, shut4_len, head_len]
    simp
    omega
theorem opn_inv {b l : List UInt8} (h : opn b = some l) : b = frm l ∧ l.length ≤ 16384 := by
  unfold opn at h
  by_cases h1 : b.length < 6 ∨ b.head? ≠ some 70
  · rw [if_pos h1] at h; cases h
  rw [if_neg h1] at h
  cases hg : gget ((b.take (b.length - 4)).drop 1) with
  | none => rw [hg] at h; cases h
  | some ns =>
    obtain ⟨n, s⟩ := ns
    rw [hg] at h
    simp only at h
    by_cases h2 : n > 16384 ∨ 1 + s + n ≠ b.length - 4 ∨ shut4 (b.take (b.length - 4)) ≠ b
    · rw [if_pos h2] at h; cases h
    rw [if_neg h2] at h
    simp only [Option.some.injEq] at h
    obtain ⟨t, ht⟩ : ∃ t, t = b.take (b.length - 4) := ⟨_, rfl⟩
    rw [← ht] at h hg h2
    have htl : t.length = b.length - 4 := by rw [ht, List.length_take]; omega
    have hseal : shut4 t = b := by
      rcases Classical.em (shut4 t = b) with e | e
      · exact e
      · exact absurd (.inr (.inr e)) h2
    have hn : n ≤ 16384 := by omega
    have hsum : 1 + s + n = t.length := by omega
    obtain ⟨hm, hs, hnb, hnl⟩ := gget_inv hg
    have hll : l.length = n := by rw [← h, List.length_drop]; omega
    have hhead : t = 70 :: t.drop 1 := by
      cases t with
      | nil => simp at htl; omega
      | cons x t =>
        have : b.head? = some x := by rw [← hseal]; rfl
        have h70 : b.head? = some 70 := by
          rcases Classical.em (b.head? = some 70) with e | e
          · exact e
          · exact absurd (.inr e) h1
        rw [this] at h70
        simp only [Option.some.injEq] at h70
        rw [h70]; rfl
    refine ⟨?_, by omega⟩
    rw [← hseal, frm]
    congr 1
    rw [hhead, head, hll, hnb]
    congr 1
    rw [← h, ← List.drop_drop]
    exact (List.take_append_drop s _).symm

/-- Bytes are a frame just where Open takes something out. -/
theorem opn_iff (b l : List UInt8) : opn b = some l ↔ b = frm l ∧ l.length ≤ 16384 :=
  ⟨opn_inv, fun ⟨h1, h2⟩ => h1 ▸ opn_frm l h2⟩

theorem frm_sum (l : List UInt8) : sm (frm l) = 0x2144df1c#32 := sm_shut4 _

/-- A frame's own bytes tell how long it is. -/
theorem frm_prefix {l m : List UInt8} {r r' : List UInt8} (hl : l.length ≤ 16384) (hm : m.length ≤ 16384) (h : frm l ++ r = frm m ++ r') : (frm l).length = (frm m).length := by
  have e : ∀ (x y : List UInt8), x.length ≤ 16384 → gget ((frm x ++ y).drop 1) = some (x.length, (nb x.length).length) := by
    intro x y hx
    have : (frm x ++ y).drop 1 = nb x.length ++ (x ++ [byteOf (sm (head x)) 0, byteOf (sm (head x)) 1, byteOf (sm (head x)) 2, byteOf (sm (head x)) 3] ++ y) := by
      simp [frm, shut4, head]
    rw [this]
    exact gget_nb _ _ (by omega)
  have h1 := e l r hl
  rw [h, e m r' hm] at h1
  simp only [Option.some.injEq, Prod.mk.injEq] at h1
  rw [frm_len, frm_len, h1.1]
end Go.Proofs.Ytmekoenmaiekfaa
