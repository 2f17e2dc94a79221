/-
  Texts of this claim, put together: LinkPull. What each theorem asks stands in its statement.
-/
import Derived.Test.YtmkpfdcnikgokaaMb17
import Derived.Test.YtmkpfdcnikgokaaMb39
set_option linter.unusedVariables false
set_option linter.unusedSimpArgs false
namespace Go.Proofs.Ytmkpfdcnikgokaa
open Go.RowKit
/-- Boxes: an integer; bytes. -/
def IBX (w : World) (g : Nat) (s : Int) : Prop := w.heap[g]? = some (.cells #[.int .i64 s] 3 (0, 0))
def BBX (w : World) (g : Nat) (v : Value) : Prop := w.heap[g]? = some (.cells #[v] 28 (0, 0))
theorem IBX.cell {w : World} {g : Nat} {s : Int} (h : IBX w g s) : w.cell? ⟨g, 0, none⟩ = some (.int .i64 s) := by rw [cell_of_row _ _ _ _ _ _ h]; rfl
theorem BBX.cell {w : World} {g : Nat} {v : Value} (h : BBX w g v) : w.cell? ⟨g, 0, none⟩ = some v := by rw [cell_of_row _ _ _ _ _ _ h]; rfl
theorem IBX.below {w w' : World} {g : Nat} {s : Int} (h : IBX w g s) (hb : Below w.heap.size w w') : IBX w' g s := (hb.block g (Array.getElem?_eq_some_iff.1 h).1).trans h
theorem BBX.below {w w' : World} {g : Nat} {v : Value} (h : BBX w g v) (hb : Below w.heap.size w w') : BBX w' g v := (hb.block g (Array.getElem?_eq_some_iff.1 h).1).trans h
theorem fr_set {w : World} {base : Nat} {e : TypeId} {size n : Nat} {v : Value} {L : List Value} (h : w.ownsRow base e size v n L) {g : Nat} (hg : g < base) (off : Nat) (u : Value) : (w.setCell ⟨g, off, none⟩ u).ownsRow base e size v n L := by
  refine ⟨h.1, ?_⟩
  rcases h.2 with h0 | ⟨q, cap, cur, h1, h2, h3, h4⟩
  · exact .inl h0
  · exact .inr ⟨q, cap, cur, h1, h2, (heap_setCell_other _ _ _ _ (by simp only; omega)).trans h3, h4⟩
theorem OF.set {w : World} {base c : Nat} {A : Option Addr} {L : List FrL} (h : OF w base A c L) {g : Nat} (hg : g < base) (off : Nat) (u : Value) : OF (w.setCell ⟨g, off, none⟩ u) base A c L := ⟨fr_set h.1 hg off u, fun x hx => fr_set (h.2 x hx) hg off u⟩
theorem fr_at {w w' : World} {base : Nat} {e : TypeId} {size n : Nat} {v : Value} {L : List Value} (h : w.ownsRow base e size v n L) {g : Nat} {e' : TypeId} {cur : Array Value} (hg : w.heap[g]? = some (.cells cur e' (0, 0))) (hne : e ≠ e') (hk : ∀ k, k ≠ g → w'.heap[k]? = w.heap[k]?) : w'.ownsRow base e size v n L := by
  refine ⟨h.1, ?_⟩
  rcases h.2 with h0 | ⟨q, cap, cur', h1, h2, h3, h4⟩
  · exact .inl h0
  · have hq : q ≠ g := by
      intro he
      rw [he, hg] at h3
      simp only [Option.some.injEq, Obj.cells.injEq] at h3
      exact hne h3.2.1.symm
    exact .inr ⟨q, cap, cur', h1, h2, (hk q hq).trans h3, h4⟩
/-- copy at a step of such a region. -/
theorem opOK_copy {P : Program} {o : Oper} {ρ : Nat → Value} {w : World} {R : Clm} (d s : Operand) (t : TypeId) (ho : o.op = .call { callee := .builtin .copy, args := #[d, s], argTypes := #[t, t] })
    (vd vs : Value) (hd : evalOf ρ d = vd) (hs : evalOf ρ s = vs) (v' : Value) (w' : World) (hrun : (Builtin.copy_ #[t, t] o.type #[vd, vs]).run P w = .ok v' w') (h : R v' w') : opOK P o ρ w R := by
  unfold opOK execOp
  simp only [ho, resolve, invoke, builtin, Sem.run_bind, Sem.run_pure, Result.andThen_ok, List.map_toArray, List.map_cons, List.map_nil, hd, hs, hrun]
  exact h
/-- A list's frames behind a place, moved forward by one. -/
theorem copy_shift (w : World) (g c n m base : Nat) (Q : List FrL) (SA : Option Addr) (SC : Nat) (ty : TypeId) (hO : OF w base (some ⟨g, 0, none⟩) c Q) (hn : Q.length = n) (hm : m < n) (hS : c = m + 1 ∧ SA = some ⟨g, 0, none⟩ ∧ SC = 0 ∨ ¬ c = m + 1 ∧ SA = some ⟨g, m + 1, none⟩ ∧ SC = c - (m + 1)) :
    ∃ wz, (Builtin.copy_ #[22, 22] ty #[.slice (some ⟨g, m, none⟩) (n - m) (c - m), .slice SA (n - (m + 1)) SC]).run Try.prog w = .ok (goInt ((n - (m + 1) : Nat) : Int)) wz ∧ OF wz base (some ⟨g, 0, none⟩) c (Q.eraseIdx m) ∧ (∀ k, k ≠ g → wz.heap[k]? = w.heap[k]?) ∧ (∀ B, B ≤ base → Below B w wz) ∧ base ≤ g := by
  obtain ⟨i0, hi0, hz0, hz1, hz2⟩ := info_parts frinfo
  have hsz : (Try.prog.info? 28).map (·.size) = some 1 := by rw [hi0]; exact congrArg some hz1
  have hee : Q.eraseIdx m = Q.take m ++ Q.drop (m + 1) := List.eraseIdx_eq_take_drop_succ ..
  have hel : (Q.eraseIdx m).length = n - 1 := by rw [List.length_eraseIdx, if_pos (by omega), hn]
  obtain ⟨hl0, h0⟩ := hO.1
  rcases h0 with ⟨h1, -⟩ | ⟨q, cap, cur, h1, h2, h3, h4, h5, h6, h7⟩
  · simp at h1
  simp only [Value.slice.injEq, Option.some.injEq, Addr.mk.injEq, and_true, true_and] at h1
  obtain ⟨rfl, rfl⟩ := h1
  rw [Nat.mul_one] at h6 h7
  have hget : ∀ j, j < n → cur[j]? = (frs Q)[j]? := by
    intro j hj
    rw [← h7, List.getElem?_take, if_pos (by omega), Array.getElem?_toList]
  have hfront : cur.toList.take m = frs (Q.take m) := by
    have : (cur.toList.take Q.length).take m = (frs Q).take m := by rw [h7]
    rw [List.take_take, Nat.min_eq_left (by omega)] at this
    rw [this]
    simp [frs]
  have hin : ∀ wz : World, (∀ k, k ≠ g → wz.heap[k]? = w.heap[k]?) → ∀ x ∈ Q.eraseIdx m, wz.ownsRow base 5 1 (.slice x.A x.b.length x.c) x.b.length (u8s x.b) := fun wz hk x hx => fr_at (hO.2 x (List.mem_of_mem_eraseIdx hx)) h3 (by decide) hk
  by_cases hk : n - (m + 1) = 0
  · refine ⟨w, ?_, ⟨⟨by rw [frs_len, Nat.mul_one], .inr ⟨g, c, cur, rfl, h2, h3, by omega, h5, by rw [Nat.mul_one]; exact h6, ?_⟩⟩, hin w (fun _ _ => rfl)⟩, fun _ _ => rfl, fun B _ => Below.refl _ _, h2⟩
    · rw [hk]
      exact run_copy_none (P := Try.prog) w _ _ ty _ _ _ _ _ _ _ Try.underlying22 hsz (by simp)
    · rw [Nat.mul_one, hel, hee, show n - 1 = m by omega, hfront, List.drop_eq_nil_of_le (by omega), List.append_nil]
  · have hcm : ¬ c = m + 1 := by omega
    rcases hS with ⟨hc, -, -⟩ | ⟨-, rfl, rfl⟩
    · exact (hcm hc).elim
    have hcs : (frs (Q.drop (m + 1))).length = n - (m + 1) := by rw [frs_len, List.length_drop, hn]
    have hrun := run_copy_row (P := Try.prog) w 22 22 ty 28 g m (n - m) (c - m) ⟨g, m + 1, none⟩ (n - (m + 1)) (c - (m + 1)) cur 28 (frs (Q.drop (m + 1))) Try.underlying22 hsz h3 (by rw [hcs]; exact (Nat.min_eq_left (by omega)).symm) (fun j v hv => by
      have hj := (List.getElem?_eq_some_iff.1 hv).1
      rw [add_none, cell_of_row _ _ _ _ _ _ h3, hget _ (by omega)]
      have : frs (Q.drop (m + 1)) = (frs Q).drop (m + 1) := by simp [frs]
      rw [this, List.getElem?_drop] at hv
      exact hv) (by omega) (frs_one _)
    rw [hcs] at hrun
    refine ⟨_, hrun, ⟨⟨by rw [frs_len, Nat.mul_one], .inr ⟨g, c, _, rfl, h2, setRow_heap w g _ _ _ _ h3, by omega, h5, ?_, ?_⟩⟩, hin _ (fun k hk => setRow_other w g k _ hk)⟩, fun k hk => setRow_other w g k _ hk, fun B hB => below_setRow (Below.refl B w) (Nat.le_trans hB h2) _, h2⟩
    · simp only [Nat.mul_one, List.size_toArray, List.length_append, List.length_take, List.length_drop, Array.length_toList, hcs]
      omega
    · rw [Nat.mul_one, hel, hee, hfront, List.toList_toArray, frs_append]
      have h8 : (frs (Q.take m) ++ frs (Q.drop (m + 1))).length = n - 1 := by rw [List.length_append, hcs, frs_len, List.length_take]; omega
      rw [← h8, List.take_left]
theorem updL {done : Nat → Bool} {i j : Nat} (h : j ≠ i) : upd done i j = done j := by simp [upd, h]
theorem wcase {done : Nat → Bool} {W a b : World} (h : (done 7 = false → W = a) ∧ (done 7 = true → W = b)) : W = a ∨ W = b := by
  cases hx : done 7 with
  | false => exact .inl (h.1 hx)
  | true => exact .inr (h.2 hx)
set_option maxHeartbeats 3200000 in
set_option maxRecDepth 100000 in
theorem pull1_ok (g c n m gi gb base B : Nat) (Q : List FrL) (x : FrL) (v0 : Value) (w : World) (hO : OF w base (some ⟨g, 0, none⟩) c Q) (hn : Q.length = n) (hm : m < n) (hn9 : n ≤ 64) (hc : n ≤ c) (hx : Q[m]? = some x) (hI : IBX w gi (m : Int)) (hBB : BBX w gb v0) (hgi : gi < base) (hgb : gb < base) (hne : gi ≠ gb) (hBg : B ≤ gb) (hBb : B ≤ base) :
    Calls Try.prog 31 #[.slice (some ⟨g, 0, none⟩) n c, .pointer (some ⟨gi, 0, none⟩), .pointer (some ⟨gb, 0, none⟩)] w fun e w' => e = .returned (.tuple #[.slice (some ⟨g, 0, none⟩) (n - 1) c, .int .i64 0]) ∧ OF w' base (some ⟨g, 0, none⟩) c (Q.eraseIdx m) ∧ BBX w' gb (.slice x.A x.b.length x.c) ∧ w'.ownsRow base 5 1 (.slice x.A x.b.length x.c) x.b.length (u8s x.b) ∧ Below B w w' := by
  have z0 : (m : Int) < n := by omega
  have zm : (0 : Int) ≤ m := by omega
  have zc : (n : Int) ≤ c := by omega
  have zmn : (m : Int) ≤ n := by omega
  have zmc : (m : Int) ≤ c := by omega
  have zm1 : (0 : Int) ≤ (m : Int) + 1 := by omega
  have zm2 : (m : Int) + 1 ≤ n := by omega
  have zm3 : (m : Int) + 1 ≤ c := by omega
  have zw : IntKind.i64.wrap ((m : Int) + 1) = (m : Int) + 1 := IntWalk.i64_in _ (by omega)
  have znc : ¬ c = m := by omega
  have i0 := hI.cell
  have hmL : m < Q.length := by rw [hn]; exact hm
  obtain ⟨b', off', hbo, -, hC⟩ := RF.cell hO.rf (by omega)
  simp only [Option.some.injEq, Addr.mk.injEq, and_true] at hbo
  obtain ⟨rfl, rfl⟩ := hbo
  have d0 := hC m hmL
  have hxm : Q[m] = x := by rw [List.getElem?_eq_getElem hmL] at hx; exact Option.some.inj hx
  rw [hxm, Nat.zero_add] at d0
  have hxQ : x ∈ Q := by rw [← hxm]; exact List.getElem_mem hmL
  have f0 := frozen_of_row w gb 0 _ _ hBB
  have c1 := hBB.cell
  obtain ⟨w1, hw1⟩ : ∃ w1, w.setCell ⟨gb, 0, none⟩ (.slice x.A x.b.length x.c) = w1 := ⟨_, rfl⟩
  have O1 : OF w1 base (some ⟨g, 0, none⟩) c Q := by rw [← hw1]; exact hO.set hgb 0 _
  have I1 : IBX w1 gi (m : Int) := by rw [← hw1]; exact (heap_setCell_other _ _ _ _ hne).trans hI
  have B1 : BBX w1 gb (.slice x.A x.b.length x.c) := by rw [← hw1]; exact heap_setCell_same _ _ _ _ _ _ hBB
  have hb1 : Below B w w1 := by rw [← hw1]; exact (Below.refl B w).setCell hBg _
  obtain ⟨SA, SC, hS⟩ : ∃ (SA : Option Addr) (SC : Nat), (c = m + 1 ∧ SA = some ⟨g, 0, none⟩ ∧ SC = 0 ∨ ¬ c = m + 1 ∧ SA = some ⟨g, m + 1, none⟩ ∧ SC = c - (m + 1)) := by
    by_cases h : c = m + 1
    · exact ⟨_, _, .inl ⟨h, rfl, rfl⟩⟩
    · exact ⟨_, _, .inr ⟨h, rfl, rfl⟩⟩
  obtain ⟨wz, hrun, hOz, hkz, hbz, hbg⟩ := copy_shift w1.drew g c n m base Q SA SC 3 O1 hn hm hS
  have Iz : IBX wz gi (m : Int) := (hkz gi (by omega)).trans I1
  have Bz : BBX wz gb (.slice x.A x.b.length x.c) := (hkz gb (by omega)).trans B1
  have oxz : wz.ownsRow base 5 1 (.slice x.A x.b.length x.c) x.b.length (u8s x.b) := by
    obtain ⟨-, h2⟩ := O1.1
    rcases h2 with ⟨h3, -⟩ | ⟨q, cap, cur, h3, -, h4, -⟩
    · simp at h3
    · simp only [Value.slice.injEq, Option.some.injEq, Addr.mk.injEq, and_true, true_and] at h3
      obtain ⟨rfl, rfl⟩ := h3
      exact fr_at (O1.2 x hxQ) h4 (by decide) hkz
  have hbz0 := hb1.drew.trans (hbz B hBb)
  have HFin := hide (And.intro hOz (And.intro Bz (And.intro oxz hbz0)))
  have HIall := hide (show ∀ W : World, W = w1.drew ∨ W = wz → IBX W gi (m : Int) from fun W h => by
    rcases h with rfl | rfl
    · exact I1
    · exact Iz)
  have Hrun := hide hrun
  have HS := hide hS
  clear hO hn hx hI hBB hgi hgb hne hBg hBb hC hxm hxQ O1 I1 B1 hb1 hrun hOz hkz hbz hbg Iz Bz oxz hbz0 hmL hS
  go_enter Try.func31, Try.ntmps31
  go_wp2_with fail
  try rw [hw1]
  clear hw1 i0 d0 f0 c1
  refine wp_region_inv (fun done ρ W => LI [some (10, .slice (some ⟨g, 0, none⟩) n c), some (11, .int .i64 (m : Int)), some (12, .slice (some ⟨g, m, none⟩) (n - m) (c - m)), some (13, .slice (some ⟨g, 0, none⟩) n c), some (14, .int .i64 (m : Int)), some (15, .int .i64 ((m : Int) + 1)), some (16, .slice SA (n - (m + 1)) SC), some (17, goInt ((n - (m + 1) : Nat) : Int))] (fun _ => True) done ρ W ∧ (done 7 = false → W = w1.drew) ∧ (done 7 = true → W = wz)) (by kernel_rfl) 23 (by rfl) (by kernel_rfl) ?_ ?_ ?_
  · exact ⟨LI.start _ trivial, fun _ => rfl, fun h => by cases h⟩
  · refine ⟨?_, ?_, ?_, ?_, ?_, ?_, ?_, ?_, trivial⟩
    · -- 0: slot 10
      intro done ρ W hn' hf hd h
      have q0 := hf 0 (by kernel_rfl)
      change ρ 0 = .slice (some ⟨g, 0, none⟩) n c at q0
      clear hf
      refine .inl ⟨rfl, opOK_step fun R hR => ?_⟩
      unfold opOK
      go_simp
      exact hR _ _ ⟨h.1.put [some 10, some 11, some 12, some 13, some 14, some 15, some 16, some 17] rfl (by decide) 0 10 _ rfl trivial, fun k => h.2.1 (by rwa [updL (by decide)] at k), fun k => h.2.2 (by rwa [updL (by decide)] at k)⟩
    · -- 1: slot 11
      intro done ρ W hn' hf hd h
      have q1 := hf 1 (by kernel_rfl)
      change ρ 1 = .pointer (some ⟨gi, 0, none⟩) at q1
      have c0 := (HIall.out W (wcase h.2)).cell
      clear hf
      refine .inl ⟨rfl, opOK_step fun R hR => ?_⟩
      unfold opOK
      go_simp
      exact hR _ _ ⟨h.1.put [some 10, some 11, some 12, some 13, some 14, some 15, some 16, some 17] rfl (by decide) 1 11 _ rfl trivial, fun k => h.2.1 (by rwa [updL (by decide)] at k), fun k => h.2.2 (by rwa [updL (by decide)] at k)⟩
    · -- 2: slot 12
      intro done ρ W hn' hf hd h
      have q10 := h.1.get 0 10 _ rfl (hd 0 (by kernel_rfl))
      have q11 := h.1.get 1 11 _ rfl (hd 1 (by kernel_rfl))
      clear hf
      refine .inl ⟨rfl, opOK_step fun R hR => ?_⟩
      unfold opOK
      go_simp
      exact hR _ _ ⟨h.1.put [some 10, some 11, some 12, some 13, some 14, some 15, some 16, some 17] rfl (by decide) 2 12 _ rfl trivial, fun k => h.2.1 (by rwa [updL (by decide)] at k), fun k => h.2.2 (by rwa [updL (by decide)] at k)⟩
    · -- 3: slot 13
      intro done ρ W hn' hf hd h
      have q0 := hf 0 (by kernel_rfl)
      change ρ 0 = .slice (some ⟨g, 0, none⟩) n c at q0
      clear hf
      refine .inl ⟨rfl, opOK_step fun R hR => ?_⟩
      unfold opOK
      go_simp
      exact hR _ _ ⟨h.1.put [some 10, some 11, some 12, some 13, some 14, some 15, some 16, some 17] rfl (by decide) 3 13 _ rfl trivial, fun k => h.2.1 (by rwa [updL (by decide)] at k), fun k => h.2.2 (by rwa [updL (by decide)] at k)⟩
    · -- 4: slot 14
      intro done ρ W hn' hf hd h
      have q1 := hf 1 (by kernel_rfl)
      change ρ 1 = .pointer (some ⟨gi, 0, none⟩) at q1
      have c0 := (HIall.out W (wcase h.2)).cell
      clear hf
      refine .inl ⟨rfl, opOK_step fun R hR => ?_⟩
      unfold opOK
      go_simp
      exact hR _ _ ⟨h.1.put [some 10, some 11, some 12, some 13, some 14, some 15, some 16, some 17] rfl (by decide) 4 14 _ rfl trivial, fun k => h.2.1 (by rwa [updL (by decide)] at k), fun k => h.2.2 (by rwa [updL (by decide)] at k)⟩
    · -- 5: slot 15
      intro done ρ W hn' hf hd h
      have q14 := h.1.get 4 14 _ rfl (hd 4 (by kernel_rfl))
      clear hf
      refine .inl ⟨rfl, opOK_step fun R hR => ?_⟩
      unfold opOK
      go_simp
      exact hR _ _ ⟨h.1.put [some 10, some 11, some 12, some 13, some 14, some 15, some 16, some 17] rfl (by decide) 5 15 _ rfl trivial, fun k => h.2.1 (by rwa [updL (by decide)] at k), fun k => h.2.2 (by rwa [updL (by decide)] at k)⟩
    · -- 6: slot 16
      intro done ρ W hn' hf hd h
      have q13 := h.1.get 3 13 _ rfl (hd 3 (by kernel_rfl))
      have q15 := h.1.get 5 15 _ rfl (hd 5 (by kernel_rfl))
      clear hf
      refine .inl ⟨rfl, opOK_step fun R hR => ?_⟩
      rcases HS.out with ⟨hca, rfl, rfl⟩ | ⟨hca, rfl, rfl⟩
      all_goals
        unfold opOK
        go_simp
        exact hR _ _ ⟨h.1.put [some 10, some 11, some 12, some 13, some 14, some 15, some 16, some 17] rfl (by decide) 6 16 _ rfl trivial, fun k => h.2.1 (by rwa [updL (by decide)] at k), fun k => h.2.2 (by rwa [updL (by decide)] at k)⟩
    · -- 7: slot 17
      intro done ρ W hn' hf hd h
      have q12 := h.1.get 2 12 _ rfl (hd 2 (by kernel_rfl))
      have q16 := h.1.get 6 16 _ rfl (hd 6 (by kernel_rfl))
      clear hf
      have hW := h.2.1 hn'
      subst hW
      refine .inl ⟨rfl, opOK_step fun R hR => ?_⟩
      exact opOK_copy (.tmp 12) (.tmp 16) _ rfl _ _ q12 q16 _ _ Hrun.out (hR _ _ ⟨h.1.put [some 10, some 11, some 12, some 13, some 14, some 15, some 16, some 17] rfl (by decide) 7 17 _ rfl trivial, fun k => by simp [upd] at k, fun _ => rfl⟩)
  · intro a' w6 hdf hsz hf h
    have hW := h.2.2 (by kernel_rfl)
    subst hW
    have h0 : slotsOf a' 0 = .slice (some ⟨g, 0, none⟩) n c := hf 0 (by kernel_rfl)
    obtain ⟨T, D⟩ := a'
    have hD : D = [] := hdf
    subst hD
    obtain ⟨f, hT, hff⟩ : ∃ f : Nat → Value, T = ((List.range 23).map f).toArray ∧ slotsOf ⟨T, []⟩ = f := ⟨_, arr_list T 23 hsz, rfl⟩
    rw [hff] at h0
    clear hff hsz hf h hdf
    have hT' : T = #[f 0, f 1, f 2, f 3, f 4, f 5, f 6, f 7, f 8, f 9, f 10, f 11, f 12, f 13, f 14, f 15, f 16, f 17, f 18, f 19, f 20, f 21, f 22] := hT.trans (by kernel_rfl)
    clear hT
    subst hT'
    rw [h0]
    clear h0
    have zn1 : (0 : Int) ≤ (n : Int) - 1 := by omega
    have zn2 : (n : Int) - 1 ≤ c := by omega
    have zn3 : (n : Int) - 1 = ((n - 1 : Nat) : Int) := by omega
    have zn4 : IntKind.i64.wrap ((n : Int) - 1) = ((n - 1 : Nat) : Int) := by rw [IntWalk.i64_in _ (by omega)]; omega
    have zn5 : ((n - 1 : Nat) : Int) ≤ c := by omega
    have zn6 : (0 : Int) ≤ ((n - 1 : Nat) : Int) := by omega
    go_wp2_with fail
    refine bodyPost_ret (v := .tuple #[.slice (some ⟨g, 0, none⟩) (n - 1) c, .int .i64 0]) (by simp [results, Try.results31, go_sem]) rfl ?_
    exact ⟨rfl, HFin.out⟩
end Go.Proofs.Ytmkpfdcnikgokaa
