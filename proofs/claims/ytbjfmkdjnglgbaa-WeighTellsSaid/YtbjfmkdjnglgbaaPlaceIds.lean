/-
  What place.Ids does. Condition: fewer than 2^30 runs, whose parts are of their types.
-/
import Derived.Test.YtbjfmkdjnglgbaaPlaceUnder
namespace Go.Proofs.Ytbjfmkdjnglgbaa
open Go.RowKit

/-- What Ids answers. -/
def idsR (p : List Rn) : List Id2 := if mayR p then allR p else []
theorem ofR_take (x : Rn) (q : Nat) (h : (q : Int) < x.2.2) : (ofR x).take (q + 1) = (ofR x).take q ++ [(x.1 + (q : Int), x.2.1)] := by
  have hq : q < (ofR x).length := by rw [ofR_len]; omega
  rw [List.take_succ_eq_append_getElem hq]
  simp [ofR]
theorem ofR_all (x : Rn) (q : Nat) (h : (q : Int) = x.2.2) : (ofR x).take q = ofR x := List.take_of_length_le (by rw [ofR_len]; omega)
theorem allR_take (p : List Rn) (k : Nat) (hk : k < p.length) : allR (p.take (k + 1)) = allR (p.take k) ++ ofR p[k] := by
  rw [List.take_succ_eq_append_getElem hk, allR_append]
  simp [allR]
theorem ids_append (a b : List Id2) : ids (a ++ b) = ids a ++ ids b := by simp [ids]
theorem id_row (t r : Int) (w : World) : RI (w.alloc (.cells #[.int .u32 t, .int .u8 r] 25)) (w.alloc (.cells #[.int .u32 t, .int .u8 r] 25)).heap.size (some ⟨w.heap.size, 0, none⟩) [(t, r)] := RI.new w _ _ _ rfl

/-- append onto an own row: every block that is no row of that type stays. -/
theorem wpList_append_held {P : Program} (w : World) {ops : Array Oper} {rest : List Oper} {o : Oper} {a : Act} {Q : Exit → Act → World → Prop} (hgd : o.guard = none) (s x : Operand) (t : TypeId)
    (ho : o.op = .call { callee := .builtin .append, args := #[s, x], argTypes := #[t, t] })
    (base : Nat) (e : TypeId) (i : TypeInfo) (z : Value) (size bytes : Nat) (ht : P.underlying t = some (.slice e)) (hi : P.info? e = some i) (hz : i.zero = some z)
    (hsize : i.size = size) (hby : i.bytes = bytes) (hzs : z.cells.size = size) (hsz : 0 < size)
    (v : Value) (n : Nat) (xs : List Value) (hs : a.eval s = v) (hown : w.ownsRow base e size v n xs)
    (B : Nat) (A : Option Addr) (m c : Nat) (news : List Value) (hx : a.eval x = .slice A m c) (hr : RD w B size A m news) (h1 : ∀ u ∈ news, u.oneCell' = true)
    (h63 : n + m ≤ 1073741824) (hbytes : bytes ≤ 65536) (hbase : base ≤ w.heap.size)
    (h : ∀ v' w', w'.ownsRow base e size v' (n + m) (xs ++ news) → Below base w w' → (∀ (b : Nat) (o' : Obj), w.heap[b]? = some o' → (∀ cur, o' ≠ .cells cur e (0, 0)) → w'.heap[b]? = some o') → wpList P ops Q rest (a.put o.dst v') w') : wpList P ops Q (o :: rest) a w := by
  refine wpList_plain hgd fun K hK => ?_
  have hb' : (n + m) * bytes ≤ 140737488355328 := by
    have : (n + m) * bytes ≤ (n + m) * 65536 := Nat.mul_le_mul_left _ hbytes
    omega
  obtain ⟨v', w', hrun, h2, h3⟩ := run_append_src (P := P) w base t o.type e i z size bytes ht hi hz hsize hby hzs hsz v n xs hown B A m c news hr h1 (by unfold maxLen; omega) hb' hbase
  have hkeep : ∀ (b : Nat) (o' : Obj), w.heap[b]? = some o' → (∀ cur, o' ≠ .cells cur e (0, 0)) → w'.heap[b]? = some o' := by
    intro b o' hb hne
    obtain ⟨-, -, -, -, hk⟩ := h3
    rw [hk b (Array.getElem?_eq_some_iff.1 hb).1 ?_]
    · exact hb
    · rcases hown.2 with ⟨rfl, _⟩ | ⟨g, cap, cur, rfl, _, hg, _⟩
      · intro e1; cases e1
      · intro e1
        simp only [Value.ownBlock, Option.some.injEq] at e1
        subst e1
        rw [hg] at hb
        exact hne cur (Option.some.inj hb).symm
  unfold Oper.wp execOp
  simp only [ho, resolve, invoke, builtin, Sem.run_bind, Sem.run_pure, Result.andThen_ok, List.map_toArray, List.map_cons, List.map_nil, hs, hx, hrun]
  exact hK _ _ (h v' w' h2 (grown_below hown h3 hbase) hkeep)

set_option maxHeartbeats 6400000 in
set_option maxRecDepth 100000 in
theorem pids_any (A : Option Addr) (n c : Nat) (p : List Rn) (w : World) (hr : RR w w.heap.size A p) (hn : p.length = n) (hl : n < 1073741824) (hok : ∀ x ∈ p, okR x) :
    Calls Try.prog 25 #[.slice A n c] w fun e w' => ∃ v, e = .returned (.tuple #[v, .int .i64 (chkR p)]) ∧ w'.ownsRow w.heap.size 25 2 v (idsR p).length (ids (idsR p)) ∧ Below w.heap.size w w' := by
  subst hn
  have C := hide (pcheck_any A p.length c p w hr rfl hl hok)
  clear hok
  by_cases hm : mayR p
  · have hc := hide (show chkR p = 0 from if_pos hm)
    have hi := hide (show idsR p = allR p from if_pos hm)
    have Hm := hide hm
    have h64 : p.length ≤ 64 := hm.2.1
    clear hm
    obtain ⟨i0, hi0, hz0, hz1, hz2⟩ := info_parts idinfo
    go_enter Try.func25, Try.ntmps25
    go_wp2_with fail
    refine (unhide C).mono ?_
    rintro e w1 ⟨rfl, hb1⟩
    rw [hc.out]
    go_wp2_with fail
    go_loopw [2, 15] (fun v i wr => ∃ (k : Nat) (L : List Id2), k ≤ p.length ∧ i = .int .i64 (k : Int) ∧ Hid (L = allR (p.take k)) ∧ L.length ≤ 4096 * k ∧ wr.ownsRow w.heap.size 25 2 v L.length (ids L) ∧ Below w.heap.size w wr) (fun _ i _ => p.length - (intOf i).toNat)
    case atStart => exact ⟨0, [], by omega, rfl, hide rfl, by simp, World.ownsRow_nil _ _ _ _, hb1⟩
    case round =>
      obtain ⟨k, L, hk, rfl, hL, hLl, hown, hb⟩ := hrel
      by_cases hlt : k < p.length
      · obtain ⟨b0, o0, rfl, hB0, hC0⟩ := RR.cell (RD.below hr hb) (by omega)
        obtain ⟨d0, d1, d2⟩ := hC0 k hlt
        clear hC0
        have z0 : (k : Int) < p.length := by omega
        obtain ⟨t, ht⟩ : ∃ t, t = p[k].1 := ⟨_, rfl⟩
        obtain ⟨r, hr'⟩ : ∃ r, r = p[k].2.1 := ⟨_, rfl⟩
        obtain ⟨m, hm⟩ : ∃ m, m = p[k].2.2 := ⟨_, rfl⟩
        rw [← ht] at d0
        rw [← hr'] at d1
        rw [← hm] at d2
        have hel : p[k] = (t, r, m) := by rw [ht, hr', hm]
        have hone := chainR_mem Hm.out.2.2.1 p[k] (List.getElem_mem hlt)
        rw [hel] at hone
        obtain ⟨e1, e2, e3, e4, e5, e6⟩ := hone
        simp only at e1 e2 e3 e4 e5 e6
        have Hnext := hide (show allR (p.take (k + 1)) = L ++ ofR (t, r, m) by rw [allR_take p k hlt, hel, hL.out])
        clear ht hr' hm hel
        go_wp2_with fail
        obtain ⟨wo, rfl⟩ : ∃ wo : World, wo = wr := ⟨_, rfl⟩
        go_loopw [2, 22] (fun v j wi => ∃ (q : Nat) (L' : List Id2), (q : Int) ≤ m ∧ j = .int .u32 (q : Int) ∧ Hid (L' = L ++ (ofR (t, r, m)).take q) ∧ L'.length = L.length + q ∧ wi.ownsRow w.heap.size 25 2 v L'.length (ids L') ∧ Below w.heap.size w wi ∧
          wi.heap[wo.heap.size]? = some (.cells #[.int .u32 t, .int .u8 r, .int .i64 m] 41 (0, 0))) (fun _ j _ => m.toNat - (intOf j).toNat)
        case atStart =>
          refine ⟨0, L, by omega, rfl, hide (by simp), by omega, hown.alloc _, hb.trans ((boxed _ _).mono hb.size), ?_⟩
          exact Array.getElem?_push_size
        case round =>
          obtain ⟨q, L', hq, rfl, hL', hLq, hown', hb', hbox⟩ := hrel
          have x0 : wr.cell? ⟨wo.heap.size, 0, none⟩ = some (.int .u32 t) := by rw [cell_of_row _ _ _ _ _ _ hbox]; rfl
          have x1 : wr.cell? ⟨wo.heap.size, 1, none⟩ = some (.int .u8 r) := by rw [cell_of_row _ _ _ _ _ _ hbox]; rfl
          by_cases hqm : (q : Int) < m
          · have hLn : L'.length + 1 ≤ 1073741824 := by omega
            go_wp2_with (at_builtin; refine wpList_append_held _ rfl (.tmp 25) (.tmp 33) 32 rfl w.heap.size 25 i0 (.agg #[.int .u32 0, .int .u8 0]) 2 8 Try.underlying32 hi0 hz0 hz1 hz2 rfl (by decide) _ L'.length (ids L') rfl (hown'.alloc _) _ (some ⟨wr.heap.size, 0, none⟩) 1 1 (ids [(t + (q : Int), r)]) rfl (id_row (t + (q : Int)) r wr) (ids_one _) (by omega) (by decide) (Nat.le_trans hb'.size (boxed wr _).size) ?_; intro v8 w8 hown8 hb8 hk8)
            go_roundw
            case rel =>
              refine ⟨q + 1, L' ++ [(t + (q : Int), r)], by omega, by go_num, hide ?_, by simp; omega, ?_, (hb'.trans ((boxed wr _).mono hb'.size)).trans hb8, ?_⟩
              · rw [ofR_take _ q hqm, hL'.out, List.append_assoc]
              · rw [ids_append]
                simpa using hown8
              · exact hk8 _ _ (((boxed wr _).block _ (Array.getElem?_eq_some_iff.1 hbox).1).trans hbox) (by intro cur e; simp at e)
            case measure => simp [intOf]; omega
          · have hqe : (q : Int) = m := by omega
            go_wp2_with fail
            go_roundw
            case rel =>
              refine ⟨k + 1, L', by omega, by go_num, hide ?_, by omega, hown', hb'⟩
              rw [hL'.out, ofR_all _ q hqe, Hnext.out]
            case measure => simp [intOf]; omega
      · have hz : ¬ (k : Int) < p.length := by omega
        have hLe := hide (show L = idsR p by rw [hi.out, hL.out, List.take_of_length_le (by omega)])
        go_wp2_with fail
        exact bodyPost_ret (v := .tuple #[u2, .int .i64 0]) (by simp [results, Try.results25, go_sem]) rfl ⟨_, by rw [hc.out], by rw [← hLe.out]; exact hown, hb⟩
  · have hc := hide (show chkR p = 8 from if_neg hm)
    have hi := hide (show idsR p = [] from if_neg hm)
    clear hm
    go_enter Try.func25, Try.ntmps25
    go_wp2_with fail
    refine (unhide C).mono ?_
    rintro e w1 ⟨rfl, hb1⟩
    rw [hc.out]
    go_wp2_with fail
    exact bodyPost_ret (v := .tuple #[.slice none 0 0, .int .i64 8]) (by simp [results, Try.results25, go_sem]) rfl ⟨_, by rw [hc.out], by rw [hi.out]; exact World.ownsRow_nil _ _ _ _, hb1⟩
end Go.Proofs.Ytbjfmkdjnglgbaa
