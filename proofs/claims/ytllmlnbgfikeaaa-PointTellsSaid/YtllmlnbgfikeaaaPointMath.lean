/-
  Code points and their bytes, on plain lists. No condition.
-/
import Derived.Lib.DecodeN
namespace Go.Proofs.Ytllmlnbgfikeaaa

def isP (n : Nat) : Prop := n ≤ 1114111 ∧ (n < 55296 ∨ 57343 < n)
instance (n : Nat) : Decidable (isP n) := by unfold isP; infer_instance
def bt (n : Nat) : UInt8 := UInt8.ofNat n
theorem bt_nat (n : Nat) (h : n < 256) : (bt n).toNat = n := by
  unfold bt
  rw [UInt8.toNat_ofNat', Nat.mod_eq_of_lt (by omega)]
theorem bt_eq {a : UInt8} {n : Nat} (h : a.toNat = n) : bt n = a := by
  rw [← h]
  exact UInt8.toNat_inj.1 (bt_nat _ (UInt8.toNat_lt a))

/-- A code point's bytes. -/
def encP (c : Nat) : List UInt8 :=
  if c < 128 then [bt c]
  else if c < 2048 then [bt (192 + c / 64), bt (128 + c % 64)]
  else if c < 65536 then [bt (224 + c / 4096), bt (128 + c / 64 % 64), bt (128 + c % 64)]
  else [bt (240 + c / 262144), bt (128 + c / 4096 % 64), bt (128 + c / 64 % 64), bt (128 + c % 64)]
theorem enc1 {c : Nat} (h : c < 128) : encP c = [bt c] := if_pos h
theorem enc2 {c : Nat} (h1 : 128 ≤ c) (h : c < 2048) : encP c = [bt (192 + c / 64), bt (128 + c % 64)] := by
  unfold encP
  rw [if_neg (by omega), if_pos h]
theorem enc3 {c : Nat} (h1 : 2048 ≤ c) (h : c < 65536) : encP c = [bt (224 + c / 4096), bt (128 + c / 64 % 64), bt (128 + c % 64)] := by
  unfold encP
  rw [if_neg (by omega), if_neg (by omega), if_pos h]
theorem enc4 {c : Nat} (h1 : 65536 ≤ c) : encP c = [bt (240 + c / 262144), bt (128 + c / 4096 % 64), bt (128 + c / 64 % 64), bt (128 + c % 64)] := by
  unfold encP
  rw [if_neg (by omega), if_neg (by omega), if_neg (by omega)]
theorem enc_len (c : Nat) : 1 ≤ (encP c).length ∧ (encP c).length ≤ 4 := by
  unfold encP
  repeat' split
  all_goals simp

/-- What a text begins with, as the range loop reads it. -/
def decL (m : List UInt8) : Nat × Nat := Lib.decodeN m.length (m.getD 0 0).toNat (m.getD 1 0).toNat (m.getD 2 0).toNat (m.getD 3 0).toNat
theorem get_l (l : List UInt8) (j : Nat) : (⟨l.toArray⟩ : ByteArray).get! j = l.getD j 0 := by
  show l.toArray[j]! = _
  simp [List.getElem!_eq_getElem?_getD, List.getD_eq_getElem?_getD]
  rfl
theorem decode_l (l : List UInt8) (i : Nat) : Utf8.decode ⟨l.toArray⟩ i = decL (l.drop i) := by
  rw [Lib.decode_at, decL]
  simp only [get_l, List.getD_eq_getElem?_getD, List.getElem?_drop, List.length_drop, Nat.add_zero]
  rfl

theorem decL_enc (p : Nat) (x : List UInt8) (h : isP p) : decL (encP p ++ x) = (p, (encP p).length) := by
  unfold isP at h
  by_cases h1 : p < 128
  · rw [enc1 h1]
    simp only [decL, List.cons_append, List.nil_append, List.getD_cons_zero, List.getD_cons_succ, List.length_cons, List.length_nil, bt_nat p (by omega)]
    unfold Lib.decodeN
    rw [if_pos h1]
  by_cases h2 : p < 2048
  · rw [enc2 (by omega) h2]
    simp only [decL, List.cons_append, List.nil_append, List.getD_cons_zero, List.getD_cons_succ, List.length_cons, List.length_nil, bt_nat (192 + p / 64) (by omega), bt_nat (128 + p % 64) (by omega)]
    unfold Lib.decodeN
    rw [if_neg (by omega), if_pos (by omega), if_pos (by omega)]
    exact Prod.ext (by simp only; omega) rfl
  by_cases h3 : p < 65536
  · rw [enc3 (by omega) h3]
    simp only [decL, List.cons_append, List.nil_append, List.getD_cons_zero, List.getD_cons_succ, List.length_cons, List.length_nil, bt_nat (224 + p / 4096) (by omega), bt_nat (128 + p / 64 % 64) (by omega), bt_nat (128 + p % 64) (by omega)]
    unfold Lib.decodeN
    rw [if_neg (by omega), if_neg (by omega), if_pos (by omega), if_pos (by omega)]
    exact Prod.ext (by simp only; omega) rfl
  · rw [enc4 (by omega)]
    simp only [decL, List.cons_append, List.nil_append, List.getD_cons_zero, List.getD_cons_succ, List.length_cons, List.length_nil, bt_nat (240 + p / 262144) (by omega), bt_nat (128 + p / 4096 % 64) (by omega), bt_nat (128 + p / 64 % 64) (by omega), bt_nat (128 + p % 64) (by omega)]
    unfold Lib.decodeN
    rw [if_neg (by omega), if_neg (by omega), if_neg (by omega), if_pos (by omega), if_pos (by omega)]
    exact Prod.ext (by simp only; omega) rfl

theorem pre_of2 {m : List UInt8} {a b : UInt8} (h : m.length ≥ 2) (ha : m.getD 0 0 = a) (hb : m.getD 1 0 = b) : ∃ x, m = [a, b] ++ x := by
  match m, h with
  | c :: d :: t, _ => simp at ha hb; subst ha hb; exact ⟨t, rfl⟩
theorem pre_of3 {m : List UInt8} {a b c : UInt8} (h : m.length ≥ 3) (ha : m.getD 0 0 = a) (hb : m.getD 1 0 = b) (hc : m.getD 2 0 = c) : ∃ x, m = [a, b, c] ++ x := by
  match m, h with
  | p :: q :: r :: t, _ => simp at ha hb hc; subst ha hb hc; exact ⟨t, rfl⟩
theorem pre_of4 {m : List UInt8} {a b c d : UInt8} (h : m.length ≥ 4) (ha : m.getD 0 0 = a) (hb : m.getD 1 0 = b) (hc : m.getD 2 0 = c) (hd : m.getD 3 0 = d) : ∃ x, m = [a, b, c, d] ++ x := by
  match m, h with
  | p :: q :: r :: s :: t, _ => simp at ha hb hc hd; subst ha hb hc hd; exact ⟨t, rfl⟩

theorem decL_cases (m : List UInt8) (h : m ≠ []) : (isP (decL m).1 ∧ ∃ x, m = encP (decL m).1 ++ x ∧ (decL m).2 = (encP (decL m).1).length) ∨ decL m = (65533, 1) := by
  obtain ⟨a, ha⟩ : ∃ a, m.getD 0 0 = a := ⟨_, rfl⟩
  obtain ⟨b, hb⟩ : ∃ a, m.getD 1 0 = a := ⟨_, rfl⟩
  obtain ⟨c, hc⟩ : ∃ a, m.getD 2 0 = a := ⟨_, rfl⟩
  obtain ⟨d, hd⟩ : ∃ a, m.getD 3 0 = a := ⟨_, rfl⟩
  have la := UInt8.toNat_lt a
  have lb := UInt8.toNat_lt b
  have lc := UInt8.toNat_lt c
  have ld := UInt8.toNat_lt d
  have hl : 0 < m.length := List.length_pos_iff.2 h
  unfold decL
  rw [ha, hb, hc, hd]
  unfold Lib.decodeN isP
  by_cases h1 : a.toNat < 128
  · rw [if_pos h1]
    refine .inl ⟨⟨by simp only; omega, by simp only; omega⟩, ?_⟩
    simp only
    rw [enc1 h1, bt_eq rfl]
    match m, h with
    | x :: t, _ => simp at ha; subst ha; exact ⟨t, rfl, rfl⟩
  rw [if_neg h1]
  by_cases h2 : a.toNat / 32 = 6 ∧ (1 < m.length ∧ b.toNat / 64 = 2)
  · rw [if_pos h2]
    by_cases h3 : a.toNat % 32 * 64 + b.toNat % 64 ≥ 128
    · rw [if_pos h3]
      refine .inl ⟨⟨by simp only; omega, by simp only; omega⟩, ?_⟩
      simp only
      rw [enc2 h3 (by omega), bt_eq (a := a) (by omega), bt_eq (a := b) (by omega)]
      obtain ⟨x, hx⟩ := pre_of2 (m := m) (by omega) ha hb
      exact ⟨x, hx, rfl⟩
    · rw [if_neg h3]
      exact .inr rfl
  rw [if_neg h2]
  by_cases h3 : a.toNat / 16 = 14 ∧ (1 < m.length ∧ b.toNat / 64 = 2) ∧ (2 < m.length ∧ c.toNat / 64 = 2)
  · rw [if_pos h3]
    split
    · rename_i h4
      refine .inl ⟨⟨by simp only; omega, by simp only; omega⟩, ?_⟩
      simp only
      rw [enc3 (by omega) (by omega), bt_eq (a := a) (by omega), bt_eq (a := b) (by omega), bt_eq (a := c) (by omega)]
      obtain ⟨x, hx⟩ := pre_of3 (m := m) (by omega) ha hb hc
      exact ⟨x, hx, rfl⟩
    · exact .inr rfl
  rw [if_neg h3]
  split
  · split
    · rename_i h4 h5
      refine .inl ⟨⟨by simp only; omega, by simp only; omega⟩, ?_⟩
      simp only
      rw [enc4 (by omega), bt_eq (a := a) (by omega), bt_eq (a := b) (by omega), bt_eq (a := c) (by omega), bt_eq (a := d) (by omega)]
      obtain ⟨x, hx⟩ := pre_of4 (m := m) (by omega) ha hb hc hd
      exact ⟨x, hx, rfl⟩
    · exact .inr rfl
  · exact .inr rfl

theorem encP_inj {a b : Nat} {x y : List UInt8} (ha : isP a) (hb : isP b) (h : encP a ++ x = encP b ++ y) : a = b ∧ x = y := by
  have h1 := decL_enc a x ha
  rw [h, decL_enc b y hb] at h1
  simp only [Prod.mk.injEq] at h1
  obtain rfl := h1.1
  exact ⟨rfl, List.append_cancel_left h⟩

/-- The bytes of some code points. -/
def cat (ps : List Nat) : List UInt8 := ps.flatMap encP
theorem cat_cons (p : Nat) (ps : List Nat) : cat (p :: ps) = encP p ++ cat ps := by simp [cat]
theorem cat_append (ps qs : List Nat) : cat (ps ++ qs) = cat ps ++ cat qs := by simp [cat]
theorem cat_one (p : Nat) : cat [p] = encP p := by simp [cat]
theorem cat_len (ps : List Nat) : ps.length ≤ (cat ps).length ∧ (cat ps).length ≤ 4 * ps.length := by
  induction ps with
  | nil => exact ⟨by simp [cat], by simp [cat]⟩
  | cons p ps ih =>
    have := enc_len p
    rw [cat_cons, List.length_append, List.length_cons]
    omega
def allP (ps : List Nat) : Prop := ∀ p ∈ ps, isP p
theorem allP_cons {p : Nat} {ps : List Nat} : allP (p :: ps) ↔ isP p ∧ allP ps := by simp [allP]
theorem allP_append {ps qs : List Nat} : allP (ps ++ qs) ↔ allP ps ∧ allP qs := by
  unfold allP
  constructor
  · exact fun h => ⟨fun p hp => h p (List.mem_append_left _ hp), fun p hp => h p (List.mem_append_right _ hp)⟩
  · rintro ⟨h1, h2⟩ p hp
    rcases List.mem_append.1 hp with h | h
    · exact h1 p h
    · exact h2 p h
theorem allP_nil : allP [] := fun _ h => by cases h
theorem allP_one {p : Nat} (h : isP p) : allP [p] := allP_cons.2 ⟨h, allP_nil⟩
instance (ps : List Nat) : Decidable (allP ps) := by unfold allP; infer_instance

/-- These are a text's code points. -/
def Cod (l : List UInt8) (ps : List Nat) : Prop := allP ps ∧ cat ps = l
theorem cod_split {qs : List Nat} (hq : allP qs) : ∀ {m : List UInt8} {ps : List Nat}, Cod (cat qs ++ m) ps → ∃ rs, ps = qs ++ rs ∧ Cod m rs := by
  induction qs with
  | nil => intro m ps h; exact ⟨ps, rfl, by simpa [cat] using h⟩
  | cons q qs ih =>
    intro m ps h
    obtain ⟨hq1, hq2⟩ := allP_cons.1 hq
    match ps, h with
    | [], h =>
      have h2 := congrArg List.length h.2
      have := (enc_len q).1
      rw [cat_cons] at h2
      simp [cat] at h2
      omega
    | p :: ps, h =>
      obtain ⟨hp, hps⟩ := allP_cons.1 h.1
      have h2 := h.2
      rw [cat_cons, cat_cons, List.append_assoc] at h2
      obtain ⟨rfl, h3⟩ := encP_inj hp hq1 h2
      obtain ⟨rs, rfl, hrs⟩ := ih hq2 (m := m) (ps := ps) ⟨hps, h3⟩
      exact ⟨rs, rfl, hrs⟩
theorem cod_nil {ps : List Nat} (h : Cod [] ps) : ps = [] := by
  have h2 := congrArg List.length h.2
  have := (cat_len ps).1
  simp at h2
  exact List.eq_nil_of_length_eq_zero (by rw [h2] at this; simpa using this)
theorem cod_uniq {l : List UInt8} {ps qs : List Nat} (hp : Cod l ps) (hq : Cod l qs) : ps = qs := by
  have h : Cod (cat qs ++ []) ps := by rw [List.append_nil, hq.2]; exact hp
  obtain ⟨rs, rfl, hr⟩ := cod_split hq.1 h
  rw [cod_nil hr, List.append_nil]
theorem cod_cat {ps : List Nat} (h : allP ps) : Cod (cat ps) ps := ⟨h, rfl⟩
theorem cod_append {l m : List UInt8} {ps qs : List Nat} (hp : Cod l ps) (hq : Cod m qs) : Cod (l ++ m) (ps ++ qs) := ⟨allP_append.2 ⟨hp.1, hq.1⟩, by rw [cat_append, hp.2, hq.2]⟩

/-- No code point has these first bytes. -/
def noP (m : List UInt8) : Prop := ∀ p x, isP p → m ≠ encP p ++ x
theorem bad_at {qs : List Nat} (hq : allP qs) {m : List UInt8} (hm : m ≠ []) (hn : noP m) (ps : List Nat) : ¬ Cod (cat qs ++ m) ps := by
  intro h
  obtain ⟨rs, -, hr⟩ := cod_split hq h
  match rs, hr with
  | [], hr => exact hm (by rw [← hr.2]; rfl)
  | r :: rs, hr =>
    obtain ⟨h1, -⟩ := allP_cons.1 hr.1
    have h2 := hr.2
    rw [cat_cons] at h2
    exact hn r _ h1 h2.symm
theorem noP_of_dec {m : List UInt8} (h : decL m = (65533, 1)) : noP m := by
  intro p x hp hm
  rw [hm, decL_enc p x hp] at h
  simp only [Prod.mk.injEq] at h
  obtain ⟨rfl, h2⟩ := h
  revert h2
  decide

theorem dec_good {m : List UInt8} {p : Nat} {x : List UInt8} (hp : isP p) (h : m = encP p ++ x) : decL m = (p, (encP p).length) := by rw [h, decL_enc p x hp]

/-! ### as the document reads -/
def szP (b : Nat) : Nat := if 240 ≤ b then 4 else if 224 ≤ b then 3 else if 192 ≤ b then 2 else 1
def hdP (b : Nat) : Nat := if 240 ≤ b then b - 240 else if 224 ≤ b then b - 224 else if 192 ≤ b then b - 192 else b
def accP (m : List UInt8) : Nat → Nat
  | 0 => hdP (m.getD 0 0).toNat
  | k + 1 => 64 * accP m k + (m.getD (k + 1) 0).toNat % 64
/-- The code point that a text begins with, by trying. -/
def fst (m : List UInt8) : Option (Nat × Nat) :=
  if m.length < szP (m.getD 0 0).toNat then none
  else if isP (accP m (szP (m.getD 0 0).toNat - 1)) ∧ encP (accP m (szP (m.getD 0 0).toNat - 1)) = m.take (szP (m.getD 0 0).toNat) then some (accP m (szP (m.getD 0 0).toNat - 1), szP (m.getD 0 0).toNat)
  else none
theorem fst_some {m : List UInt8} {p k : Nat} (h : fst m = some (p, k)) : isP p ∧ k = (encP p).length ∧ m = encP p ++ m.drop k := by
  unfold fst at h
  split at h
  · cases h
  · split at h
    · rename_i h1 h2
      injection h with h
      simp only [Prod.mk.injEq] at h
      obtain ⟨rfl, rfl⟩ := h
      have h3 : (m.take (szP (m.getD 0 0).toNat)).length = szP (m.getD 0 0).toNat := by rw [List.length_take]; omega
      refine ⟨h2.1, by rw [h2.2, h3], ?_⟩
      rw [h2.2, List.take_append_drop]
    · cases h
theorem fst_enc (p : Nat) (x : List UInt8) (h : isP p) : fst (encP p ++ x) = some (p, (encP p).length) := by
  have hs : szP ((encP p ++ x).getD 0 0).toNat = (encP p).length ∧ accP (encP p ++ x) ((encP p).length - 1) = p := by
    unfold isP at h
    by_cases h1 : p < 128
    · rw [enc1 h1]
      simp only [List.cons_append, List.nil_append, List.getD_cons_zero, List.length_cons, List.length_nil, Nat.reduceAdd, Nat.reduceSub, bt_nat p (by omega), accP, szP, hdP]
      exact ⟨by rw [if_neg (by omega), if_neg (by omega), if_neg (by omega)], by rw [if_neg (by omega), if_neg (by omega), if_neg (by omega)]⟩
    by_cases h2 : p < 2048
    · rw [enc2 (by omega) h2]
      simp only [List.cons_append, List.nil_append, List.getD_cons_zero, List.getD_cons_succ, List.length_cons, List.length_nil, Nat.reduceAdd, Nat.reduceSub, bt_nat (192 + p / 64) (by omega), bt_nat (128 + p % 64) (by omega), accP, szP, hdP]
      exact ⟨by rw [if_neg (by omega), if_neg (by omega), if_pos (by omega)], by rw [if_neg (by omega), if_neg (by omega), if_pos (by omega)]; omega⟩
    by_cases h3 : p < 65536
    · rw [enc3 (by omega) h3]
      simp only [List.cons_append, List.nil_append, List.getD_cons_zero, List.getD_cons_succ, List.length_cons, List.length_nil, Nat.reduceAdd, Nat.reduceSub, bt_nat (224 + p / 4096) (by omega), bt_nat (128 + p / 64 % 64) (by omega), bt_nat (128 + p % 64) (by omega), accP, szP, hdP]
      exact ⟨by rw [if_neg (by omega), if_pos (by omega)], by rw [if_neg (by omega), if_pos (by omega)]; omega⟩
    · rw [enc4 (by omega)]
      simp only [List.cons_append, List.nil_append, List.getD_cons_zero, List.getD_cons_succ, List.length_cons, List.length_nil, Nat.reduceAdd, Nat.reduceSub, bt_nat (240 + p / 262144) (by omega), bt_nat (128 + p / 4096 % 64) (by omega), bt_nat (128 + p / 64 % 64) (by omega), bt_nat (128 + p % 64) (by omega), accP, szP, hdP]
      exact ⟨by rw [if_pos (by omega)], by rw [if_pos (by omega)]; omega⟩
  unfold fst
  rw [hs.1, hs.2, if_neg (by rw [List.length_append]; omega), if_pos ⟨h, by rw [List.take_left' rfl]⟩]
theorem fst_none {m : List UInt8} (h : fst m = none) : noP m := by
  intro p x hp hm
  rw [hm, fst_enc p x hp] at h
  cases h
theorem noP_iff {m : List UInt8} (hm : m ≠ []) (h : noP m) : decL m = (65533, 1) := by
  rcases decL_cases m hm with ⟨h1, x, h2, -⟩ | h1
  · exact absurd h2 (h _ x h1)
  · exact h1
/-- No text: by trying its first bytes. -/
theorem no_cod {qs : List Nat} {l m : List UInt8} (hq : allP qs) (hl : l = cat qs ++ m) (hm : m ≠ []) (h : fst m = none) (ps : List Nat) : ¬ Cod l ps := hl ▸ bad_at hq hm (fst_none h) ps
end Go.Proofs.Ytllmlnbgfikeaaa
