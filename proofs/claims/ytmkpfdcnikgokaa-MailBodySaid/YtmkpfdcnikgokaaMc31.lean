/-
  Texts of this claim, put together: MailPut. What each theorem asks stands in its statement.
-/
import Derived.Test.YtmkpfdcnikgokaaMc22
import Derived.Test.YtmkpfdcnikgokaaMc28
import Derived.Test.YtmkpfdcnikgokaaMc30
set_option linter.unusedVariables false
set_option linter.unusedSimpArgs false
namespace Go.Proofs.Ytmkpfdcnikgokaa
open Go.RowKit
/-- What Wrap answers. -/
def wrE (l : List UInt8) : Int := if l.length ≤ 16384 then 0 else 4
def wrV (l : List UInt8) : List UInt8 := if l.length ≤ 16384 then frm l else []
def putted (w w' : World) (e : Ending) (l : List UInt8) : Prop := ∃ (A : Option Addr) (c : Nat) (q : List UInt8), e = .returned (.tuple #[.slice A (List.length (α := UInt8) q) c, .int .i64 (wrE l)]) ∧ q = wrV l ∧ w'.ownsRow w.heap.size 5 1 (.slice A q.length c) q.length (u8s q) ∧ Below w.heap.size w w'
theorem wrap_body (A : Option Addr) (n c : Nat) (l : List UInt8) (w : World) (hr : RB w w.heap.size A l) (hn : l.length = n) :
    Calls Try.prog 17 #[.slice A n c] w fun e w' => putted w w' e l := by
  subst hn
  by_cases h : l.length ≤ 16384
  · refine (wrap_ok A c l w hr h).mono ?_
    rintro e w' ⟨v, rfl, ho, hb⟩
    obtain ⟨A', c', rfl, -, -, -⟩ := own_slice ho
    exact ⟨A', c', frm l, by rw [wrE, if_pos h], by rw [wrV, if_pos h], ho, hb⟩
  · refine (wrap_many A c l w (by omega)).mono ?_
    rintro e w' ⟨rfl, rfl⟩
    exact ⟨none, 0, [], by rw [wrE, if_neg h]; rfl, by rw [wrV, if_neg h], World.ownsRow_nil _ _ _ _, Below.refl _ _⟩
/-- The bytes of mail that may be. -/
def opsB (O : List OpP) : List UInt8 := nbs [(O.length : Int)] ++ O.flatMap opP
def wsB (x : WP) : List UInt8 := nbs (wsNums x)
def bodyB (m : MP) : List UInt8 :=
  if m.k = 2 then nbs [m.k] ++ nbs (ckNums m.I)
  else if m.k = 3 then nbs [m.k] ++ nbs (ckNums m.I) ++ nbs [(m.W.length : Int)] ++ m.W.flatMap wsB
  else if m.k = 5 then nbs [m.k] ++ nbs [m.t, m.r] ++ nbs (ckNums m.I)
  else if m.k = 6 then nbs [m.k] ++ nbs [m.t, m.r, m.ix] ++ opsB m.O
  else nbs [m.k] ++ opsB m.O
theorem may_ops {m : MP} (h : mayM m) (hk : m.k = 1 ∨ m.k = 4) : someP m.O 64 := by
  rcases h.1 with ⟨-, h⟩ | ⟨h, -⟩ | ⟨h, -⟩ | ⟨h, -⟩ | ⟨h, -⟩
  · exact h
  all_goals omega
theorem may_ids {m : MP} (h : mayM m) (hk : m.k = 2 ∨ m.k = 3 ∨ m.k = 5) : idsP m.I := by
  rcases h.1 with ⟨h, -⟩ | ⟨-, h⟩ | ⟨-, h, -⟩ | ⟨-, -, h⟩ | ⟨h, -⟩
  · omega
  · exact h
  · exact h
  · exact h
  · omega
theorem may_want {m : MP} (h : mayM m) (hk : m.k = 3) : wantsP m.W := by
  rcases h.1 with ⟨h, -⟩ | ⟨h, -⟩ | ⟨-, -, h⟩ | ⟨h, -⟩ | ⟨h, -⟩
  · omega
  · omega
  · exact h
  · omega
  · omega
theorem may_chunk {m : MP} (h : mayM m) (hk : m.k = 6) : 0 ≤ m.ix ∧ m.ix < 128 ∧ someP m.O 8 := by
  rcases h.1 with ⟨h, -⟩ | ⟨h, -⟩ | ⟨h, -⟩ | ⟨h, -⟩ | ⟨-, -, h⟩
  · omega
  · omega
  · omega
  · omega
  · exact h
theorem chainE_all : ∀ (l : List EnP) (p : Option (Int × Int)), chainE p l → ∀ x ∈ l, oneP x
  | x :: l, none, h, y, hy => by
    rcases List.mem_cons.1 hy with rfl | hy
    · exact h.1
    · exact chainE_all l _ h.2 y hy
  | x :: l, some p, h, y, hy => by
    rcases List.mem_cons.1 hy with rfl | hy
    · exact h.1
    · exact chainE_all l _ h.2.2 y hy
theorem wants_all {E : List WP} (h : wantsP E) : E.length ≤ 65 ∧ ∀ x ∈ E, mayT x.H ∧ mayT x.S ∧ x.G.length ≤ 128 := by
  refine ⟨by have := h.1.1; rwa [List.length_map] at this, fun x hx => ⟨(h.2 x hx).1, ?_⟩⟩
  obtain ⟨-, h2⟩ := chainE_all _ _ h.1.2 x.en (List.mem_map_of_mem hx)
  change (if x.kn = true then x.rd = false ∧ mayT x.S ∧ cntT x.S ≤ 1024 ∧ (x.G.length : Int) = (cntT x.S + 7) / 8 else x.S.length = 0 ∧ x.G.length = 0) at h2
  split at h2
  · exact ⟨h2.2.1, by have := h2.2.2.1; have := h2.2.2.2; omega⟩
  · refine ⟨?_, by omega⟩
    rw [List.length_eq_zero_iff.1 h2.1]
    trivial
theorem ws_len {x : WP} (ht : 0 ≤ x.t ∧ x.t ≤ 1099511627776) (hr : 0 ≤ x.r ∧ x.r ≤ 1099511627776) (hh : mayT x.H) (hs : mayT x.S) (hg : x.G.length ≤ 128) : (wsB x).length ≤ 210000 := by
  have e : wsB x = nbs [x.t, x.r, stN x.rd x.kn] ++ nbs (ckNums x.H) ++ nbs (ckNums x.S) ++ nbs (gtNums x.G) := by
    unfold wsB wsNums
    simp only [nbs_append]
  rw [e]
  have h0 := stN_ok x.rd x.kn
  have h1 := nbs_len (three_ok ht hr ⟨h0.1, by omega⟩ : ∀ z ∈ [x.t, x.r, stN x.rd x.kn], 0 ≤ z ∧ z ≤ 1099511627776)
  have h2 := ck_len hh
  have h3 := ck_len hs
  have h4 : (nbs (gtNums x.G)).length ≤ 6 * (gtNums x.G).length := nbs_len (fun z hz => by
    simp only [gtNums, List.mem_cons, List.mem_map] at hz
    rcases hz with rfl | ⟨b, -, rfl⟩
    · omega
    · have := bn_ok b; omega)
  have h5 : (gtNums x.G).length = x.G.length + 1 := by simp [gtNums]
  simp only [List.length_append]
  simp only [List.length_cons, List.length_nil] at h1
  omega
theorem MB.belowB {w w' : World} {B g : Nat} {a b c d e f h : Value} (hF : MB w g a b c d e f h) (hb : Below B w w') (hg : g < B) : MB w' g a b c d e f h := (hb.block g hg).trans hF
theorem pn_new (w : World) : ∃ q, w.alloc (.cells #[.slice none 0 0] 89) = q ∧ PN q w.heap.size w.heap.size [] ∧ Below w.heap.size w q ∧ q.heap.size = w.heap.size + 1 :=
  ⟨_, rfl, ⟨none, 0, heap_alloc_new _ _, World.ownsRow_nil _ _ _ _, Nat.le_refl _⟩, boxed _ _, by simp⟩
set_option maxHeartbeats 1600000 in
set_option maxRecDepth 100000 in
theorem mput_bad (x : MlL) (w : World) (hx : RM w w.heap.size x) (ox : okM x) (hm : ¬ mayM x.mp) :
    Calls Try.prog 21 #[x.val] w fun e w' => e = .returned (.tuple #[.slice none 0 0, .int .i64 8]) ∧ Below w.heap.size w w' := by
  obtain ⟨k, t, r, ix, iA, ic, i, oA, oc, o, sA, sc, s⟩ := x
  obtain ⟨w1, hw1, F1, hs1, hb1⟩ := mail_box w (.int .u8 k) (.int .u32 t) (.int .u8 r) (.int .i64 ix) (.slice iA i.length ic) (.slice oA o.length oc) (.slice sA s.length sc)
  obtain ⟨y0, y1, y2, y3, y4, y5, y6⟩ := F1.cells
  have HC := hide (mcheck_any ⟨k, t, r, ix, iA, ic, i, oA, oc, o, sA, sc, s⟩ w1 ((hx.below hb1).more hb1.size) ox)
  rw [show chkM (MlL.mp ⟨k, t, r, ix, iA, ic, i, oA, oc, o, sA, sc, s⟩) = 8 from if_neg hm] at HC
  have Hw1 := hide hw1
  have HB := hide hb1
  clear hx ox hm F1 hw1 hb1 hs1
  show Calls Try.prog 21 #[mlv k t r ix (.slice iA i.length ic) (.slice oA o.length oc) (.slice sA s.length sc)] w _
  go_enter Try.func21, Try.ntmps21
  go_wp2_with fail
  rw [Hw1.out]
  refine HC.out.mono ?_
  rintro e w2 ⟨rfl, hb2⟩
  have hb02 := fresh HB.out hb2
  clear y0 y1 y2 y3 y4 y5 y6
  go_wp2_with fail
  refine bodyPost_ret (v := .tuple #[.slice none 0 0, .int .i64 8]) (by simp [results, Try.results21, go_sem]) rfl ⟨rfl, hb02⟩
set_option maxHeartbeats 6400000 in
set_option maxRecDepth 100000 in
theorem mput_ack (t r ix : Int) (iA oA sA : Option Addr) (ic oc sc : Nat) (i : List TmL) (o : List OpL) (s : List WsL) (w : World) (hx : RM w w.heap.size ⟨2, t, r, ix, iA, ic, i, oA, oc, o, sA, sc, s⟩) (ox : okM ⟨2, t, r, ix, iA, ic, i, oA, oc, o, sA, sc, s⟩) (hm : mayM (MlL.mp ⟨2, t, r, ix, iA, ic, i, oA, oc, o, sA, sc, s⟩)) :
    Calls Try.prog 21 #[MlL.val ⟨2, t, r, ix, iA, ic, i, oA, oc, o, sA, sc, s⟩] w fun e w' => putted w w' e (bodyB (MlL.mp ⟨2, t, r, ix, iA, ic, i, oA, oc, o, sA, sc, s⟩)) := by
  obtain ⟨w1, hw1, F1, hs1, hb1⟩ := mail_box w (.int .u8 2) (.int .u32 t) (.int .u8 r) (.int .i64 ix) (.slice iA i.length ic) (.slice oA o.length oc) (.slice sA s.length sc)
  obtain ⟨gx, hgx⟩ : ∃ q, q = w.heap.size := ⟨_, rfl⟩
  have Hgx := hide hgx
  rw [← hgx] at F1
  obtain ⟨y0, y1, y2, y3, y4, y5, y6⟩ := F1.cells
  have HF1 := hide F1
  have HC := hide (mcheck_any ⟨2, t, r, ix, iA, ic, i, oA, oc, o, sA, sc, s⟩ w1 ((hx.below hb1).more hb1.size) ox)
  rw [show chkM (MlL.mp ⟨2, t, r, ix, iA, ic, i, oA, oc, o, sA, sc, s⟩) = 0 from if_pos hm] at HC
  obtain ⟨⟨q1, q2, q3, q4⟩, ⟨ki, ko, ks⟩, -⟩ := ox
  simp only at q1 q2 q3 q4 ki ko ks
  have Hki := hide ki
  have Hko := hide ko
  have Hks := hide ks
  have Hx := hide hx
  have Hmi := hide (may_ids hm (by simp [MlL.mp])).1
  simp only [MlL.mp] at Hmi
  have Hw1 := hide hw1
  have HB1 := hide hb1
  obtain ⟨BB, hBB⟩ : ∃ q, q = bodyB (MlL.mp ⟨2, t, r, ix, iA, ic, i, oA, oc, o, sA, sc, s⟩) := ⟨_, rfl⟩
  have HBB := hide hBB
  rw [← hBB]
  clear hx hm F1 hw1 hb1 hs1 ki ko ks hBB hgx
  show Calls Try.prog 21 #[mlv 2 t r ix (.slice iA i.length ic) (.slice oA o.length oc) (.slice sA s.length sc)] w _
  go_enter Try.func21, Try.ntmps21
  go_wp2_with fail
  rw [Hw1.out, ← Hgx.out]
  refine HC.out.mono ?_
  rintro e w2 ⟨rfl, hb2⟩
  have hs2 : gx < w2.heap.size := by
    have h1 := hb2.size
    have h2 : w1.heap.size = gx + 1 := by rw [← Hw1.out, World.size_alloc, Hgx.out]
    omega
  obtain ⟨w3, hw3, P3, hb3, hs3⟩ := pn_new w2
  obtain ⟨g, hg⟩ : ∃ q, q = w2.heap.size := ⟨_, rfl⟩
  have Hg := hide hg
  rw [← hg] at P3 hs3 hs2
  have Hs3 := hide hs3.symm
  have HP3 := hide P3
  have HF3 := hide ((HF1.out.below hb2).below hb3)
  have HB3 := hide (fresh (fresh HB1.out hb2) hb3)
  have HX3 := hide ((Hx.out.below HB3.out).more (show w.heap.size ≤ g by rw [← Hgx.out]; omega))
  have hgw : w.heap.size ≤ g := by rw [← Hgx.out]; omega
  clear P3 hs3 hb2 hb3 hg HF1 HB1 Hx HC y0 y1 y2 y3 y4 y5 y6
  obtain ⟨y0, y1, y2, y3, y4, y5, y6⟩ := HF3.out.cells
  go_wp2_with fail
  rw [← Hg.out]
  clear hw3
  refine (penput_new g g 1 _ [] [2] _ rfl w3 rfl HP3.out (one_ok ⟨by decide, by decide⟩) (by decide)).mono ?_
  rintro e w4 ⟨rfl, hp4, hb4, hk4⟩
  rw [List.nil_append] at hp4
  have HP4 := hide hp4
  have HF4 := hide (HF3.out.belowB hb4 hs2)
  have HB4 := hide (HB3.out.trans (hb4.mono hgw))
  have HG4 := hide hb4
  have Hl4 := hide (show (nbs [(2 : Int)]).length ≤ 6 from nbs_len (one_ok ⟨by decide, by decide⟩))
  clear hp4 hb4 hk4 HP3 HB3 HF3 y0 y1 y2 y3 y4 y5 y6
  obtain ⟨y0, y1, y2, y3, y4, y5, y6⟩ := HF4.out.cells
  go_wp2_with fail
  refine (penclock g g (nbs [(2 : Int)]) iA i.length ic i w4 HP4.out (HX3.out.1.below HG4.out) rfl Hki.out Hmi.out (by have := Hl4.out; omega)).mono ?_
  rintro e w5 ⟨rfl, hp, hb, hk⟩
  have Hl5 := hide (show (nbs [(2 : Int)] ++ nbs (ckNums (i.map TmL.pt))).length ≤ 100006 by
    rw [List.length_append]
    have := ck_len Hmi.out
    have := Hl4.out
    omega)
  have HP5 := hide hp
  have HF5 := hide (HF4.out.belowB hb hs2)
  have HB5 := hide (HB4.out.trans (hb.mono hgw))
  have HG5 := hide (HG4.out.trans hb)
  clear hp hb hk HP4 HB4 HF4 HG4 y0 y1 y2 y3 y4 y5 y6
  obtain ⟨y0, y1, y2, y3, y4, y5, y6⟩ := HF5.out.cells
  obtain ⟨A9, c9, hB9, ho9, -⟩ := HP5.out
  have d9 := hB9.cell
  have HR9 := hide (RD.of_own ho9)
  obtain ⟨pl, hpl⟩ : ∃ q, q = List.length (nbs [(2 : Int)] ++ nbs (ckNums (i.map TmL.pt))) := ⟨_, rfl⟩
  rw [← hpl] at d9
  have Hpl := hide hpl.symm
  clear hB9 ho9 hpl
  go_wp2_with fail
  refine (wrap_body A9 pl c9 _ w5 HR9.out Hpl.out).mono ?_
  rintro e w10 ⟨A10, c10, q10, rfl, hq10, ho10, hb10⟩
  have HQ := hide (And.intro hq10 ho10)
  have hbz := fresh HB5.out hb10
  have hsz := HB5.out.size
  clear hq10 ho10 hb10 y0 y1 y2 y3 y4 y5 y6 d9
  go_wp2_with fail
  refine bodyPost_ret (v := .tuple #[.slice A10 q10.length c10, .int .i64 (wrE (nbs [(2 : Int)] ++ nbs (ckNums (i.map TmL.pt))))]) (by simp [results, Try.results21, go_sem]) rfl ?_
  have e9 : BB = nbs [(2 : Int)] ++ nbs (ckNums (i.map TmL.pt)) := by
    rw [HBB.out]
    rfl
  rw [e9]
  exact ⟨A10, c10, q10, rfl, HQ.out.1, own_less HQ.out.2 hsz, hbz⟩
set_option maxHeartbeats 6400000 in
set_option maxRecDepth 100000 in
theorem mput_manifest (t r ix : Int) (iA oA sA : Option Addr) (ic oc sc : Nat) (i : List TmL) (o : List OpL) (s : List WsL) (w : World) (hx : RM w w.heap.size ⟨5, t, r, ix, iA, ic, i, oA, oc, o, sA, sc, s⟩) (ox : okM ⟨5, t, r, ix, iA, ic, i, oA, oc, o, sA, sc, s⟩) (hm : mayM (MlL.mp ⟨5, t, r, ix, iA, ic, i, oA, oc, o, sA, sc, s⟩)) :
    Calls Try.prog 21 #[MlL.val ⟨5, t, r, ix, iA, ic, i, oA, oc, o, sA, sc, s⟩] w fun e w' => putted w w' e (bodyB (MlL.mp ⟨5, t, r, ix, iA, ic, i, oA, oc, o, sA, sc, s⟩)) := by
  obtain ⟨w1, hw1, F1, hs1, hb1⟩ := mail_box w (.int .u8 5) (.int .u32 t) (.int .u8 r) (.int .i64 ix) (.slice iA i.length ic) (.slice oA o.length oc) (.slice sA s.length sc)
  obtain ⟨gx, hgx⟩ : ∃ q, q = w.heap.size := ⟨_, rfl⟩
  have Hgx := hide hgx
  rw [← hgx] at F1
  obtain ⟨y0, y1, y2, y3, y4, y5, y6⟩ := F1.cells
  have HF1 := hide F1
  have HC := hide (mcheck_any ⟨5, t, r, ix, iA, ic, i, oA, oc, o, sA, sc, s⟩ w1 ((hx.below hb1).more hb1.size) ox)
  rw [show chkM (MlL.mp ⟨5, t, r, ix, iA, ic, i, oA, oc, o, sA, sc, s⟩) = 0 from if_pos hm] at HC
  obtain ⟨⟨q1, q2, q3, q4⟩, ⟨ki, ko, ks⟩, -⟩ := ox
  simp only at q1 q2 q3 q4 ki ko ks
  have Hki := hide ki
  have Hko := hide ko
  have Hks := hide ks
  have Hx := hide hx
  have Hmi := hide (may_ids hm (by simp [MlL.mp])).1
  simp only [MlL.mp] at Hmi
  have Hw1 := hide hw1
  have HB1 := hide hb1
  obtain ⟨BB, hBB⟩ : ∃ q, q = bodyB (MlL.mp ⟨5, t, r, ix, iA, ic, i, oA, oc, o, sA, sc, s⟩) := ⟨_, rfl⟩
  have HBB := hide hBB
  rw [← hBB]
  clear hx hm F1 hw1 hb1 hs1 ki ko ks hBB hgx
  show Calls Try.prog 21 #[mlv 5 t r ix (.slice iA i.length ic) (.slice oA o.length oc) (.slice sA s.length sc)] w _
  go_enter Try.func21, Try.ntmps21
  go_wp2_with fail
  rw [Hw1.out, ← Hgx.out]
  refine HC.out.mono ?_
  rintro e w2 ⟨rfl, hb2⟩
  have hs2 : gx < w2.heap.size := by
    have h1 := hb2.size
    have h2 : w1.heap.size = gx + 1 := by rw [← Hw1.out, World.size_alloc, Hgx.out]
    omega
  obtain ⟨w3, hw3, P3, hb3, hs3⟩ := pn_new w2
  obtain ⟨g, hg⟩ : ∃ q, q = w2.heap.size := ⟨_, rfl⟩
  have Hg := hide hg
  rw [← hg] at P3 hs3 hs2
  have Hs3 := hide hs3.symm
  have HP3 := hide P3
  have HF3 := hide ((HF1.out.below hb2).below hb3)
  have HB3 := hide (fresh (fresh HB1.out hb2) hb3)
  have HX3 := hide ((Hx.out.below HB3.out).more (show w.heap.size ≤ g by rw [← Hgx.out]; omega))
  have hgw : w.heap.size ≤ g := by rw [← Hgx.out]; omega
  clear P3 hs3 hb2 hb3 hg HF1 HB1 Hx HC y0 y1 y2 y3 y4 y5 y6
  obtain ⟨y0, y1, y2, y3, y4, y5, y6⟩ := HF3.out.cells
  go_wp2_with fail
  rw [← Hg.out]
  clear hw3
  refine (penput_new g g 1 _ [] [5] _ rfl w3 rfl HP3.out (one_ok ⟨by decide, by decide⟩) (by decide)).mono ?_
  rintro e w4 ⟨rfl, hp4, hb4, hk4⟩
  rw [List.nil_append] at hp4
  have HP4 := hide hp4
  have HF4 := hide (HF3.out.belowB hb4 hs2)
  have HB4 := hide (HB3.out.trans (hb4.mono hgw))
  have HG4 := hide hb4
  have Hl4 := hide (show (nbs [(5 : Int)]).length ≤ 6 from nbs_len (one_ok ⟨by decide, by decide⟩))
  clear hp4 hb4 hk4 HP3 HB3 HF3 y0 y1 y2 y3 y4 y5 y6
  obtain ⟨y0, y1, y2, y3, y4, y5, y6⟩ := HF4.out.cells
  go_wp2_with fail
  refine (penput_new g g 2 _ (nbs [(5 : Int)]) [t, r] _ rfl w4 rfl HP4.out (fun z hz => by simp only [List.mem_cons, List.not_mem_nil, or_false] at hz; omega) (by have := Hl4.out; simp only [List.length_cons, List.length_nil] at *; omega)).mono ?_
  rintro e w5 ⟨rfl, hp, hb, hk⟩
  have Hl5 := hide (show (nbs [(5 : Int)] ++ nbs [t, r]).length ≤ 18 by
    have := app_len (show ∀ z ∈ [t, r], 0 ≤ z ∧ z ≤ 1099511627776 from fun z hz => by simp only [List.mem_cons, List.not_mem_nil, or_false] at hz; omega) Hl4.out
    simp only [List.length_cons, List.length_nil] at this
    omega)
  have HP5 := hide hp
  have HF5 := hide (HF4.out.belowB hb hs2)
  have HB5 := hide (HB4.out.trans (hb.mono hgw))
  have HG5 := hide (HG4.out.trans hb)
  clear hp hb hk HP4 HB4 HF4 HG4 y0 y1 y2 y3 y4 y5 y6
  obtain ⟨y0, y1, y2, y3, y4, y5, y6⟩ := HF5.out.cells
  go_wp2_with fail
  refine (penclock g g (nbs [(5 : Int)] ++ nbs [t, r]) iA i.length ic i w5 HP5.out (HX3.out.1.below HG5.out) rfl Hki.out Hmi.out (by have := Hl5.out; omega)).mono ?_
  rintro e w6 ⟨rfl, hp, hb, hk⟩
  have Hl6 := hide (show (nbs [(5 : Int)] ++ nbs [t, r] ++ nbs (ckNums (i.map TmL.pt))).length ≤ 100018 by
    rw [List.length_append]
    have := ck_len Hmi.out
    have := Hl5.out
    omega)
  have HP6 := hide hp
  have HF6 := hide (HF5.out.belowB hb hs2)
  have HB6 := hide (HB5.out.trans (hb.mono hgw))
  have HG6 := hide (HG5.out.trans hb)
  clear hp hb hk HP5 HB5 HF5 HG5 y0 y1 y2 y3 y4 y5 y6
  obtain ⟨y0, y1, y2, y3, y4, y5, y6⟩ := HF6.out.cells
  obtain ⟨A9, c9, hB9, ho9, -⟩ := HP6.out
  have d9 := hB9.cell
  have HR9 := hide (RD.of_own ho9)
  obtain ⟨pl, hpl⟩ : ∃ q, q = List.length (nbs [(5 : Int)] ++ nbs [t, r] ++ nbs (ckNums (i.map TmL.pt))) := ⟨_, rfl⟩
  rw [← hpl] at d9
  have Hpl := hide hpl.symm
  clear hB9 ho9 hpl
  go_wp2_with fail
  refine (wrap_body A9 pl c9 _ w6 HR9.out Hpl.out).mono ?_
  rintro e w10 ⟨A10, c10, q10, rfl, hq10, ho10, hb10⟩
  have HQ := hide (And.intro hq10 ho10)
  have hbz := fresh HB6.out hb10
  have hsz := HB6.out.size
  clear hq10 ho10 hb10 y0 y1 y2 y3 y4 y5 y6 d9
  go_wp2_with fail
  refine bodyPost_ret (v := .tuple #[.slice A10 q10.length c10, .int .i64 (wrE (nbs [(5 : Int)] ++ nbs [t, r] ++ nbs (ckNums (i.map TmL.pt))))]) (by simp [results, Try.results21, go_sem]) rfl ?_
  have e9 : BB = nbs [(5 : Int)] ++ nbs [t, r] ++ nbs (ckNums (i.map TmL.pt)) := by
    rw [HBB.out]
    rfl
  rw [e9]
  exact ⟨A10, c10, q10, rfl, HQ.out.1, own_less HQ.out.2 hsz, hbz⟩
set_option maxHeartbeats 6400000 in
set_option maxRecDepth 100000 in
theorem mput_up (t r ix : Int) (iA oA sA : Option Addr) (ic oc sc : Nat) (i : List TmL) (o : List OpL) (s : List WsL) (w : World) (hx : RM w w.heap.size ⟨1, t, r, ix, iA, ic, i, oA, oc, o, sA, sc, s⟩) (ox : okM ⟨1, t, r, ix, iA, ic, i, oA, oc, o, sA, sc, s⟩) (hm : mayM (MlL.mp ⟨1, t, r, ix, iA, ic, i, oA, oc, o, sA, sc, s⟩)) :
    Calls Try.prog 21 #[MlL.val ⟨1, t, r, ix, iA, ic, i, oA, oc, o, sA, sc, s⟩] w fun e w' => putted w w' e (bodyB (MlL.mp ⟨1, t, r, ix, iA, ic, i, oA, oc, o, sA, sc, s⟩)) := by
  obtain ⟨w1, hw1, F1, hs1, hb1⟩ := mail_box w (.int .u8 1) (.int .u32 t) (.int .u8 r) (.int .i64 ix) (.slice iA i.length ic) (.slice oA o.length oc) (.slice sA s.length sc)
  obtain ⟨gx, hgx⟩ : ∃ q, q = w.heap.size := ⟨_, rfl⟩
  have Hgx := hide hgx
  rw [← hgx] at F1
  obtain ⟨y0, y1, y2, y3, y4, y5, y6⟩ := F1.cells
  have HF1 := hide F1
  have HC := hide (mcheck_any ⟨1, t, r, ix, iA, ic, i, oA, oc, o, sA, sc, s⟩ w1 ((hx.below hb1).more hb1.size) ox)
  rw [show chkM (MlL.mp ⟨1, t, r, ix, iA, ic, i, oA, oc, o, sA, sc, s⟩) = 0 from if_pos hm] at HC
  obtain ⟨⟨q1, q2, q3, q4⟩, ⟨ki, ko, ks⟩, -⟩ := ox
  simp only at q1 q2 q3 q4 ki ko ks
  have Hki := hide ki
  have Hko := hide ko
  have Hks := hide ks
  have Hx := hide hx
  have hmo := may_ops hm (Or.inl rfl)
  simp only [MlL.mp] at hmo
  have hall : ∀ x ∈ o, mayL x := fun x hx => hmo.2.2 _ (List.mem_map_of_mem hx)
  have Hol := hide (show o.length ≤ 1024 by have := hmo.2.1; rw [List.length_map] at this; omega)
  have Hoe := hide (show allE o = 0 from if_pos hall)
  have Hoy := hide (show allY o = allB o from if_pos hall)
  have Hob := hide (show (allB o).length ≤ 1300000 by
    unfold allB
    rw [List.length_append]
    have h1 := flat_len o (fun x hx => ⟨hall x hx, ko x hx⟩)
    have h2 := nbs_len (one_ok ⟨by omega, by have := Hol.out; omega⟩ : ∀ z ∈ [(o.length : Int)], 0 ≤ z ∧ z ≤ 1099511627776)
    have h3 := Hol.out
    simp only [List.length_cons, List.length_nil] at h2
    omega)
  have Hbo := hide (show allB o = opsB (o.map OpL.op) from allB_op o)
  clear hmo hall
  have Hw1 := hide hw1
  have HB1 := hide hb1
  obtain ⟨BB, hBB⟩ : ∃ q, q = bodyB (MlL.mp ⟨1, t, r, ix, iA, ic, i, oA, oc, o, sA, sc, s⟩) := ⟨_, rfl⟩
  have HBB := hide hBB
  rw [← hBB]
  clear hx hm F1 hw1 hb1 hs1 ki ko ks hBB hgx
  show Calls Try.prog 21 #[mlv 1 t r ix (.slice iA i.length ic) (.slice oA o.length oc) (.slice sA s.length sc)] w _
  go_enter Try.func21, Try.ntmps21
  go_wp2_with fail
  rw [Hw1.out, ← Hgx.out]
  refine HC.out.mono ?_
  rintro e w2 ⟨rfl, hb2⟩
  have hs2 : gx < w2.heap.size := by
    have h1 := hb2.size
    have h2 : w1.heap.size = gx + 1 := by rw [← Hw1.out, World.size_alloc, Hgx.out]
    omega
  obtain ⟨w3, hw3, P3, hb3, hs3⟩ := pn_new w2
  obtain ⟨g, hg⟩ : ∃ q, q = w2.heap.size := ⟨_, rfl⟩
  have Hg := hide hg
  rw [← hg] at P3 hs3 hs2
  have Hs3 := hide hs3.symm
  have HP3 := hide P3
  have HF3 := hide ((HF1.out.below hb2).below hb3)
  have HB3 := hide (fresh (fresh HB1.out hb2) hb3)
  have HX3 := hide ((Hx.out.below HB3.out).more (show w.heap.size ≤ g by rw [← Hgx.out]; omega))
  have hgw : w.heap.size ≤ g := by rw [← Hgx.out]; omega
  clear P3 hs3 hb2 hb3 hg HF1 HB1 Hx HC y0 y1 y2 y3 y4 y5 y6
  obtain ⟨y0, y1, y2, y3, y4, y5, y6⟩ := HF3.out.cells
  go_wp2_with fail
  rw [← Hg.out]
  clear hw3
  refine (penput_new g g 1 _ [] [1] _ rfl w3 rfl HP3.out (one_ok ⟨by decide, by decide⟩) (by decide)).mono ?_
  rintro e w4 ⟨rfl, hp4, hb4, hk4⟩
  rw [List.nil_append] at hp4
  have HP4 := hide hp4
  have HF4 := hide (HF3.out.belowB hb4 hs2)
  have HB4 := hide (HB3.out.trans (hb4.mono hgw))
  have HG4 := hide hb4
  have Hl4 := hide (show (nbs [(1 : Int)]).length ≤ 6 from nbs_len (one_ok ⟨by decide, by decide⟩))
  clear hp4 hb4 hk4 HP3 HB3 HF3 y0 y1 y2 y3 y4 y5 y6
  obtain ⟨y0, y1, y2, y3, y4, y5, y6⟩ := HF4.out.cells
  go_wp2_with fail
  refine (call_any oA o.length oc o w4 ((HX3.out.2.1.below HG4.out).more (by have := HP4.out.lt; omega)) rfl Hol.out Hko.out).mono ?_
  rw [Hoe.out, Hoy.out]
  rintro e w7 ⟨v7, rfl, ho7, hb7⟩
  obtain ⟨A7, c7, rfl, -, -, -⟩ := own_slice ho7
  obtain ⟨A5, c5, hB5, ho5, -⟩ := HP4.out.below hb7
  have HBp := hide hB5
  have d1 := hB5.cell
  have HF7 := hide (HF4.out.below hb7)
  have HB7 := hide (fresh HB4.out hb7)
  have hsz7 : (nbs [(1 : Int)]).length + (allB o).length ≤ 1073741824 := by
    have := Hl4.out
    have := Hob.out
    omega
  have hg7 : g ≤ w7.heap.size := by have := hB5.lt; omega
  obtain ⟨q, hq⟩ : ∃ q, q = nbs [(1 : Int)] := ⟨_, rfl⟩
  have Hq := hide hq
  rw [← hq] at d1 hB5 ho5 hsz7 HBp
  obtain ⟨i0, hi0, hz0, hz1, hz2⟩ := info_parts u8info
  obtain ⟨pl, hpl⟩ : ∃ z, z = (q ++ allB o).length := ⟨_, rfl⟩
  have Hpl := hide hpl.symm
  have Hgg := hide (show gx ≠ g by omega)
  have Hgs := hide hs2
  clear hq hB5 hpl hs2 y0 y1 y2 y3 y4 y5 y6 HP4 HB4 HF4
  obtain ⟨y0, y1, y2, y3, y4, y5, y6⟩ := HF7.out.cells
  go_wp2_with (at_builtin; refine wpList_append_held _ rfl (.tmp 65) (.tmp 66) 28 rfl g 5 i0 (.int .u8 0) 1 1 Try.underlying28 hi0 hz0 hz1 hz2 rfl (by decide) _ _ _ rfl ho5 w7.heap.size A7 (allB o).length c7 (u8s (allB o)) rfl (RD.of_own ho7) (u8s_one _) hsz7 (by decide) hg7 ?_; intro v8 w8 ho8 hb8 hk8; obtain ⟨A8, c8, rfl, -, -, -⟩ := own_slice ho8; have H8 := hide (show PNB w8 g A5 q.length c5 from hk8 g _ HBp.out (fun cur e => by simp at e)); have f8 := H8.out.fr; have d8 := H8.out.cell; have HF8 := hide (HF7.out.belowB hb8 Hgs.out); have HB8 := hide (HB7.out.trans (hb8.mono hgw)); obtain ⟨w9, hw9⟩ : ∃ z, w8.setCell ⟨g, 0, none⟩ (.slice A8 (q.length + (allB o).length) c8) = z := ⟨_, rfl⟩; have HP9 : Hid (PN w9 g g (q ++ allB o)) := hide ⟨A8, c8, by rw [List.length_append, ← hw9]; exact H8.out.set, by rw [List.length_append, u8s_append, ← hw9]; exact own_setX ho8 H8.out (by decide) 0 _, Nat.le_refl _⟩; have HF9 := hide (show MB w9 gx _ _ _ _ _ _ _ by rw [← hw9]; exact HF8.out.other Hgg.out 0 _); have HB9 := hide (show Below w.heap.size w w9 by rw [← hw9]; exact HB8.out.setCell (by simp only; omega) _); obtain ⟨z0, z1, z2, z3, z4, z5, z6⟩ := HF9.out.cells; obtain ⟨A9, c9, hB9, ho9, -⟩ := HP9.out; have d9 := hB9.cell; rw [Hpl.out] at d9; have HR9 := hide (RD.of_own ho9); clear ho8 hb8 hk8 hB9 ho9 HF8 HB8 HF7 HB7 y0 y1 y2 y3 y4 y5 y6 d1)
  refine (wrap_body A9 pl c9 _ w9 HR9.out Hpl.out).mono ?_
  rintro e w10 ⟨A10, c10, q10, rfl, hq10, ho10, hb10⟩
  have HQ := hide (And.intro hq10 ho10)
  have hbz := fresh HB9.out hb10
  have hsz := HB9.out.size
  clear hq10 ho10 hb10 z0 z1 z2 z3 z4 z5 z6 d9 hw9
  go_wp2_with fail
  refine bodyPost_ret (v := .tuple #[.slice A10 q10.length c10, .int .i64 (wrE (q ++ allB o))]) (by simp [results, Try.results21, go_sem]) rfl ?_
  have e9 : BB = q ++ allB o := by
    rw [HBB.out, Hq.out, Hbo.out]
    rfl
  rw [e9]
  exact ⟨A10, c10, q10, rfl, HQ.out.1, own_less HQ.out.2 hsz, hbz⟩
set_option maxHeartbeats 6400000 in
set_option maxRecDepth 100000 in
theorem mput_ops (t r ix : Int) (iA oA sA : Option Addr) (ic oc sc : Nat) (i : List TmL) (o : List OpL) (s : List WsL) (w : World) (hx : RM w w.heap.size ⟨4, t, r, ix, iA, ic, i, oA, oc, o, sA, sc, s⟩) (ox : okM ⟨4, t, r, ix, iA, ic, i, oA, oc, o, sA, sc, s⟩) (hm : mayM (MlL.mp ⟨4, t, r, ix, iA, ic, i, oA, oc, o, sA, sc, s⟩)) :
    Calls Try.prog 21 #[MlL.val ⟨4, t, r, ix, iA, ic, i, oA, oc, o, sA, sc, s⟩] w fun e w' => putted w w' e (bodyB (MlL.mp ⟨4, t, r, ix, iA, ic, i, oA, oc, o, sA, sc, s⟩)) := by
  obtain ⟨w1, hw1, F1, hs1, hb1⟩ := mail_box w (.int .u8 4) (.int .u32 t) (.int .u8 r) (.int .i64 ix) (.slice iA i.length ic) (.slice oA o.length oc) (.slice sA s.length sc)
  obtain ⟨gx, hgx⟩ : ∃ q, q = w.heap.size := ⟨_, rfl⟩
  have Hgx := hide hgx
  rw [← hgx] at F1
  obtain ⟨y0, y1, y2, y3, y4, y5, y6⟩ := F1.cells
  have HF1 := hide F1
  have HC := hide (mcheck_any ⟨4, t, r, ix, iA, ic, i, oA, oc, o, sA, sc, s⟩ w1 ((hx.below hb1).more hb1.size) ox)
  rw [show chkM (MlL.mp ⟨4, t, r, ix, iA, ic, i, oA, oc, o, sA, sc, s⟩) = 0 from if_pos hm] at HC
  obtain ⟨⟨q1, q2, q3, q4⟩, ⟨ki, ko, ks⟩, -⟩ := ox
  simp only at q1 q2 q3 q4 ki ko ks
  have Hki := hide ki
  have Hko := hide ko
  have Hks := hide ks
  have Hx := hide hx
  have hmo := may_ops hm (Or.inr rfl)
  simp only [MlL.mp] at hmo
  have hall : ∀ x ∈ o, mayL x := fun x hx => hmo.2.2 _ (List.mem_map_of_mem hx)
  have Hol := hide (show o.length ≤ 1024 by have := hmo.2.1; rw [List.length_map] at this; omega)
  have Hoe := hide (show allE o = 0 from if_pos hall)
  have Hoy := hide (show allY o = allB o from if_pos hall)
  have Hob := hide (show (allB o).length ≤ 1300000 by
    unfold allB
    rw [List.length_append]
    have h1 := flat_len o (fun x hx => ⟨hall x hx, ko x hx⟩)
    have h2 := nbs_len (one_ok ⟨by omega, by have := Hol.out; omega⟩ : ∀ z ∈ [(o.length : Int)], 0 ≤ z ∧ z ≤ 1099511627776)
    have h3 := Hol.out
    simp only [List.length_cons, List.length_nil] at h2
    omega)
  have Hbo := hide (show allB o = opsB (o.map OpL.op) from allB_op o)
  clear hmo hall
  have Hw1 := hide hw1
  have HB1 := hide hb1
  obtain ⟨BB, hBB⟩ : ∃ q, q = bodyB (MlL.mp ⟨4, t, r, ix, iA, ic, i, oA, oc, o, sA, sc, s⟩) := ⟨_, rfl⟩
  have HBB := hide hBB
  rw [← hBB]
  clear hx hm F1 hw1 hb1 hs1 ki ko ks hBB hgx
  show Calls Try.prog 21 #[mlv 4 t r ix (.slice iA i.length ic) (.slice oA o.length oc) (.slice sA s.length sc)] w _
  go_enter Try.func21, Try.ntmps21
  go_wp2_with fail
  rw [Hw1.out, ← Hgx.out]
  refine HC.out.mono ?_
  rintro e w2 ⟨rfl, hb2⟩
  have hs2 : gx < w2.heap.size := by
    have h1 := hb2.size
    have h2 : w1.heap.size = gx + 1 := by rw [← Hw1.out, World.size_alloc, Hgx.out]
    omega
  obtain ⟨w3, hw3, P3, hb3, hs3⟩ := pn_new w2
  obtain ⟨g, hg⟩ : ∃ q, q = w2.heap.size := ⟨_, rfl⟩
  have Hg := hide hg
  rw [← hg] at P3 hs3 hs2
  have Hs3 := hide hs3.symm
  have HP3 := hide P3
  have HF3 := hide ((HF1.out.below hb2).below hb3)
  have HB3 := hide (fresh (fresh HB1.out hb2) hb3)
  have HX3 := hide ((Hx.out.below HB3.out).more (show w.heap.size ≤ g by rw [← Hgx.out]; omega))
  have hgw : w.heap.size ≤ g := by rw [← Hgx.out]; omega
  clear P3 hs3 hb2 hb3 hg HF1 HB1 Hx HC y0 y1 y2 y3 y4 y5 y6
  obtain ⟨y0, y1, y2, y3, y4, y5, y6⟩ := HF3.out.cells
  go_wp2_with fail
  rw [← Hg.out]
  clear hw3
  refine (penput_new g g 1 _ [] [4] _ rfl w3 rfl HP3.out (one_ok ⟨by decide, by decide⟩) (by decide)).mono ?_
  rintro e w4 ⟨rfl, hp4, hb4, hk4⟩
  rw [List.nil_append] at hp4
  have HP4 := hide hp4
  have HF4 := hide (HF3.out.belowB hb4 hs2)
  have HB4 := hide (HB3.out.trans (hb4.mono hgw))
  have HG4 := hide hb4
  have Hl4 := hide (show (nbs [(4 : Int)]).length ≤ 6 from nbs_len (one_ok ⟨by decide, by decide⟩))
  clear hp4 hb4 hk4 HP3 HB3 HF3 y0 y1 y2 y3 y4 y5 y6
  obtain ⟨y0, y1, y2, y3, y4, y5, y6⟩ := HF4.out.cells
  go_wp2_with fail
  refine (call_any oA o.length oc o w4 ((HX3.out.2.1.below HG4.out).more (by have := HP4.out.lt; omega)) rfl Hol.out Hko.out).mono ?_
  rw [Hoe.out, Hoy.out]
  rintro e w7 ⟨v7, rfl, ho7, hb7⟩
  obtain ⟨A7, c7, rfl, -, -, -⟩ := own_slice ho7
  obtain ⟨A5, c5, hB5, ho5, -⟩ := HP4.out.below hb7
  have HBp := hide hB5
  have d1 := hB5.cell
  have HF7 := hide (HF4.out.below hb7)
  have HB7 := hide (fresh HB4.out hb7)
  have hsz7 : (nbs [(4 : Int)]).length + (allB o).length ≤ 1073741824 := by
    have := Hl4.out
    have := Hob.out
    omega
  have hg7 : g ≤ w7.heap.size := by have := hB5.lt; omega
  obtain ⟨q, hq⟩ : ∃ q, q = nbs [(4 : Int)] := ⟨_, rfl⟩
  have Hq := hide hq
  rw [← hq] at d1 hB5 ho5 hsz7 HBp
  obtain ⟨i0, hi0, hz0, hz1, hz2⟩ := info_parts u8info
  obtain ⟨pl, hpl⟩ : ∃ z, z = (q ++ allB o).length := ⟨_, rfl⟩
  have Hpl := hide hpl.symm
  have Hgg := hide (show gx ≠ g by omega)
  have Hgs := hide hs2
  clear hq hB5 hpl hs2 y0 y1 y2 y3 y4 y5 y6 HP4 HB4 HF4
  obtain ⟨y0, y1, y2, y3, y4, y5, y6⟩ := HF7.out.cells
  go_wp2_with (at_builtin; refine wpList_append_held _ rfl (.tmp 65) (.tmp 66) 28 rfl g 5 i0 (.int .u8 0) 1 1 Try.underlying28 hi0 hz0 hz1 hz2 rfl (by decide) _ _ _ rfl ho5 w7.heap.size A7 (allB o).length c7 (u8s (allB o)) rfl (RD.of_own ho7) (u8s_one _) hsz7 (by decide) hg7 ?_; intro v8 w8 ho8 hb8 hk8; obtain ⟨A8, c8, rfl, -, -, -⟩ := own_slice ho8; have H8 := hide (show PNB w8 g A5 q.length c5 from hk8 g _ HBp.out (fun cur e => by simp at e)); have f8 := H8.out.fr; have d8 := H8.out.cell; have HF8 := hide (HF7.out.belowB hb8 Hgs.out); have HB8 := hide (HB7.out.trans (hb8.mono hgw)); obtain ⟨w9, hw9⟩ : ∃ z, w8.setCell ⟨g, 0, none⟩ (.slice A8 (q.length + (allB o).length) c8) = z := ⟨_, rfl⟩; have HP9 : Hid (PN w9 g g (q ++ allB o)) := hide ⟨A8, c8, by rw [List.length_append, ← hw9]; exact H8.out.set, by rw [List.length_append, u8s_append, ← hw9]; exact own_setX ho8 H8.out (by decide) 0 _, Nat.le_refl _⟩; have HF9 := hide (show MB w9 gx _ _ _ _ _ _ _ by rw [← hw9]; exact HF8.out.other Hgg.out 0 _); have HB9 := hide (show Below w.heap.size w w9 by rw [← hw9]; exact HB8.out.setCell (by simp only; omega) _); obtain ⟨z0, z1, z2, z3, z4, z5, z6⟩ := HF9.out.cells; obtain ⟨A9, c9, hB9, ho9, -⟩ := HP9.out; have d9 := hB9.cell; rw [Hpl.out] at d9; have HR9 := hide (RD.of_own ho9); clear ho8 hb8 hk8 hB9 ho9 HF8 HB8 HF7 HB7 y0 y1 y2 y3 y4 y5 y6 d1)
  refine (wrap_body A9 pl c9 _ w9 HR9.out Hpl.out).mono ?_
  rintro e w10 ⟨A10, c10, q10, rfl, hq10, ho10, hb10⟩
  have HQ := hide (And.intro hq10 ho10)
  have hbz := fresh HB9.out hb10
  have hsz := HB9.out.size
  clear hq10 ho10 hb10 z0 z1 z2 z3 z4 z5 z6 d9 hw9
  go_wp2_with fail
  refine bodyPost_ret (v := .tuple #[.slice A10 q10.length c10, .int .i64 (wrE (q ++ allB o))]) (by simp [results, Try.results21, go_sem]) rfl ?_
  have e9 : BB = q ++ allB o := by
    rw [HBB.out, Hq.out, Hbo.out]
    rfl
  rw [e9]
  exact ⟨A10, c10, q10, rfl, HQ.out.1, own_less HQ.out.2 hsz, hbz⟩
set_option maxHeartbeats 6400000 in
set_option maxRecDepth 100000 in
theorem mput_chunk (t r ix : Int) (iA oA sA : Option Addr) (ic oc sc : Nat) (i : List TmL) (o : List OpL) (s : List WsL) (w : World) (hx : RM w w.heap.size ⟨6, t, r, ix, iA, ic, i, oA, oc, o, sA, sc, s⟩) (ox : okM ⟨6, t, r, ix, iA, ic, i, oA, oc, o, sA, sc, s⟩) (hm : mayM (MlL.mp ⟨6, t, r, ix, iA, ic, i, oA, oc, o, sA, sc, s⟩)) :
    Calls Try.prog 21 #[MlL.val ⟨6, t, r, ix, iA, ic, i, oA, oc, o, sA, sc, s⟩] w fun e w' => putted w w' e (bodyB (MlL.mp ⟨6, t, r, ix, iA, ic, i, oA, oc, o, sA, sc, s⟩)) := by
  obtain ⟨w1, hw1, F1, hs1, hb1⟩ := mail_box w (.int .u8 6) (.int .u32 t) (.int .u8 r) (.int .i64 ix) (.slice iA i.length ic) (.slice oA o.length oc) (.slice sA s.length sc)
  obtain ⟨gx, hgx⟩ : ∃ q, q = w.heap.size := ⟨_, rfl⟩
  have Hgx := hide hgx
  rw [← hgx] at F1
  obtain ⟨y0, y1, y2, y3, y4, y5, y6⟩ := F1.cells
  have HF1 := hide F1
  have HC := hide (mcheck_any ⟨6, t, r, ix, iA, ic, i, oA, oc, o, sA, sc, s⟩ w1 ((hx.below hb1).more hb1.size) ox)
  rw [show chkM (MlL.mp ⟨6, t, r, ix, iA, ic, i, oA, oc, o, sA, sc, s⟩) = 0 from if_pos hm] at HC
  obtain ⟨⟨q1, q2, q3, q4⟩, ⟨ki, ko, ks⟩, -⟩ := ox
  simp only at q1 q2 q3 q4 ki ko ks
  have Hki := hide ki
  have Hko := hide ko
  have Hks := hide ks
  have Hx := hide hx
  obtain ⟨ix0, ix1, hmo⟩ := may_chunk hm rfl
  simp only [MlL.mp] at ix0 ix1
  simp only [MlL.mp] at hmo
  have hall : ∀ x ∈ o, mayL x := fun x hx => hmo.2.2 _ (List.mem_map_of_mem hx)
  have Hol := hide (show o.length ≤ 1024 by have := hmo.2.1; rw [List.length_map] at this; omega)
  have Hoe := hide (show allE o = 0 from if_pos hall)
  have Hoy := hide (show allY o = allB o from if_pos hall)
  have Hob := hide (show (allB o).length ≤ 1300000 by
    unfold allB
    rw [List.length_append]
    have h1 := flat_len o (fun x hx => ⟨hall x hx, ko x hx⟩)
    have h2 := nbs_len (one_ok ⟨by omega, by have := Hol.out; omega⟩ : ∀ z ∈ [(o.length : Int)], 0 ≤ z ∧ z ≤ 1099511627776)
    have h3 := Hol.out
    simp only [List.length_cons, List.length_nil] at h2
    omega)
  have Hbo := hide (show allB o = opsB (o.map OpL.op) from allB_op o)
  clear hmo hall
  have Hw1 := hide hw1
  have HB1 := hide hb1
  obtain ⟨BB, hBB⟩ : ∃ q, q = bodyB (MlL.mp ⟨6, t, r, ix, iA, ic, i, oA, oc, o, sA, sc, s⟩) := ⟨_, rfl⟩
  have HBB := hide hBB
  rw [← hBB]
  clear hx hm F1 hw1 hb1 hs1 ki ko ks hBB hgx
  show Calls Try.prog 21 #[mlv 6 t r ix (.slice iA i.length ic) (.slice oA o.length oc) (.slice sA s.length sc)] w _
  go_enter Try.func21, Try.ntmps21
  go_wp2_with fail
  rw [Hw1.out, ← Hgx.out]
  refine HC.out.mono ?_
  rintro e w2 ⟨rfl, hb2⟩
  have hs2 : gx < w2.heap.size := by
    have h1 := hb2.size
    have h2 : w1.heap.size = gx + 1 := by rw [← Hw1.out, World.size_alloc, Hgx.out]
    omega
  obtain ⟨w3, hw3, P3, hb3, hs3⟩ := pn_new w2
  obtain ⟨g, hg⟩ : ∃ q, q = w2.heap.size := ⟨_, rfl⟩
  have Hg := hide hg
  rw [← hg] at P3 hs3 hs2
  have Hs3 := hide hs3.symm
  have HP3 := hide P3
  have HF3 := hide ((HF1.out.below hb2).below hb3)
  have HB3 := hide (fresh (fresh HB1.out hb2) hb3)
  have HX3 := hide ((Hx.out.below HB3.out).more (show w.heap.size ≤ g by rw [← Hgx.out]; omega))
  have hgw : w.heap.size ≤ g := by rw [← Hgx.out]; omega
  clear P3 hs3 hb2 hb3 hg HF1 HB1 Hx HC y0 y1 y2 y3 y4 y5 y6
  obtain ⟨y0, y1, y2, y3, y4, y5, y6⟩ := HF3.out.cells
  go_wp2_with fail
  rw [← Hg.out]
  clear hw3
  refine (penput_new g g 1 _ [] [6] _ rfl w3 rfl HP3.out (one_ok ⟨by decide, by decide⟩) (by decide)).mono ?_
  rintro e w4 ⟨rfl, hp4, hb4, hk4⟩
  rw [List.nil_append] at hp4
  have HP4 := hide hp4
  have HF4 := hide (HF3.out.belowB hb4 hs2)
  have HB4 := hide (HB3.out.trans (hb4.mono hgw))
  have HG4 := hide hb4
  have Hl4 := hide (show (nbs [(6 : Int)]).length ≤ 6 from nbs_len (one_ok ⟨by decide, by decide⟩))
  clear hp4 hb4 hk4 HP3 HB3 HF3 y0 y1 y2 y3 y4 y5 y6
  obtain ⟨y0, y1, y2, y3, y4, y5, y6⟩ := HF4.out.cells
  go_wp2_with fail
  refine (penput_new g g 3 _ (nbs [(6 : Int)]) [t, r, ix] _ rfl w4 rfl HP4.out (fun z hz => by simp only [List.mem_cons, List.not_mem_nil, or_false] at hz; omega) (by have := Hl4.out; simp only [List.length_cons, List.length_nil] at *; omega)).mono ?_
  rintro e w5 ⟨rfl, hp, hb, hk⟩
  have Hl5 := hide (show (nbs [(6 : Int)] ++ nbs [t, r, ix]).length ≤ 24 by
    have := app_len (show ∀ z ∈ [t, r, ix], 0 ≤ z ∧ z ≤ 1099511627776 from fun z hz => by simp only [List.mem_cons, List.not_mem_nil, or_false] at hz; omega) Hl4.out
    simp only [List.length_cons, List.length_nil] at this
    omega)
  have HP5 := hide hp
  have HF5 := hide (HF4.out.belowB hb hs2)
  have HB5 := hide (HB4.out.trans (hb.mono hgw))
  have HG5 := hide (HG4.out.trans hb)
  clear hp hb hk HP4 HB4 HF4 HG4 y0 y1 y2 y3 y4 y5 y6
  obtain ⟨y0, y1, y2, y3, y4, y5, y6⟩ := HF5.out.cells
  go_wp2_with fail
  refine (call_any oA o.length oc o w5 ((HX3.out.2.1.below HG5.out).more (by have := HP5.out.lt; omega)) rfl Hol.out Hko.out).mono ?_
  rw [Hoe.out, Hoy.out]
  rintro e w7 ⟨v7, rfl, ho7, hb7⟩
  obtain ⟨A7, c7, rfl, -, -, -⟩ := own_slice ho7
  obtain ⟨A5, c5, hB5, ho5, -⟩ := HP5.out.below hb7
  have HBp := hide hB5
  have d1 := hB5.cell
  have HF7 := hide (HF5.out.below hb7)
  have HB7 := hide (fresh HB5.out hb7)
  have hsz7 : (nbs [(6 : Int)] ++ nbs [t, r, ix]).length + (allB o).length ≤ 1073741824 := by
    have := Hl5.out
    have := Hob.out
    omega
  have hg7 : g ≤ w7.heap.size := by have := hB5.lt; omega
  obtain ⟨q, hq⟩ : ∃ q, q = nbs [(6 : Int)] ++ nbs [t, r, ix] := ⟨_, rfl⟩
  have Hq := hide hq
  rw [← hq] at d1 hB5 ho5 hsz7 HBp
  obtain ⟨i0, hi0, hz0, hz1, hz2⟩ := info_parts u8info
  obtain ⟨pl, hpl⟩ : ∃ z, z = (q ++ allB o).length := ⟨_, rfl⟩
  have Hpl := hide hpl.symm
  have Hgg := hide (show gx ≠ g by omega)
  have Hgs := hide hs2
  clear hq hB5 hpl hs2 y0 y1 y2 y3 y4 y5 y6 HP5 HB5 HF5
  obtain ⟨y0, y1, y2, y3, y4, y5, y6⟩ := HF7.out.cells
  go_wp2_with (at_builtin; refine wpList_append_held _ rfl (.tmp 65) (.tmp 66) 28 rfl g 5 i0 (.int .u8 0) 1 1 Try.underlying28 hi0 hz0 hz1 hz2 rfl (by decide) _ _ _ rfl ho5 w7.heap.size A7 (allB o).length c7 (u8s (allB o)) rfl (RD.of_own ho7) (u8s_one _) hsz7 (by decide) hg7 ?_; intro v8 w8 ho8 hb8 hk8; obtain ⟨A8, c8, rfl, -, -, -⟩ := own_slice ho8; have H8 := hide (show PNB w8 g A5 q.length c5 from hk8 g _ HBp.out (fun cur e => by simp at e)); have f8 := H8.out.fr; have d8 := H8.out.cell; have HF8 := hide (HF7.out.belowB hb8 Hgs.out); have HB8 := hide (HB7.out.trans (hb8.mono hgw)); obtain ⟨w9, hw9⟩ : ∃ z, w8.setCell ⟨g, 0, none⟩ (.slice A8 (q.length + (allB o).length) c8) = z := ⟨_, rfl⟩; have HP9 : Hid (PN w9 g g (q ++ allB o)) := hide ⟨A8, c8, by rw [List.length_append, ← hw9]; exact H8.out.set, by rw [List.length_append, u8s_append, ← hw9]; exact own_setX ho8 H8.out (by decide) 0 _, Nat.le_refl _⟩; have HF9 := hide (show MB w9 gx _ _ _ _ _ _ _ by rw [← hw9]; exact HF8.out.other Hgg.out 0 _); have HB9 := hide (show Below w.heap.size w w9 by rw [← hw9]; exact HB8.out.setCell (by simp only; omega) _); obtain ⟨z0, z1, z2, z3, z4, z5, z6⟩ := HF9.out.cells; obtain ⟨A9, c9, hB9, ho9, -⟩ := HP9.out; have d9 := hB9.cell; rw [Hpl.out] at d9; have HR9 := hide (RD.of_own ho9); clear ho8 hb8 hk8 hB9 ho9 HF8 HB8 HF7 HB7 y0 y1 y2 y3 y4 y5 y6 d1)
  refine (wrap_body A9 pl c9 _ w9 HR9.out Hpl.out).mono ?_
  rintro e w10 ⟨A10, c10, q10, rfl, hq10, ho10, hb10⟩
  have HQ := hide (And.intro hq10 ho10)
  have hbz := fresh HB9.out hb10
  have hsz := HB9.out.size
  clear hq10 ho10 hb10 z0 z1 z2 z3 z4 z5 z6 d9 hw9
  go_wp2_with fail
  refine bodyPost_ret (v := .tuple #[.slice A10 q10.length c10, .int .i64 (wrE (q ++ allB o))]) (by simp [results, Try.results21, go_sem]) rfl ?_
  have e9 : BB = q ++ allB o := by
    rw [HBB.out, Hq.out, Hbo.out]
    rfl
  rw [e9]
  exact ⟨A10, c10, q10, rfl, HQ.out.1, own_less HQ.out.2 hsz, hbz⟩
set_option maxHeartbeats 6400000 in
set_option maxRecDepth 100000 in
theorem mput_want (t r ix : Int) (iA oA sA : Option Addr) (ic oc sc : Nat) (i : List TmL) (o : List OpL) (s : List WsL) (w : World) (hx : RM w w.heap.size ⟨3, t, r, ix, iA, ic, i, oA, oc, o, sA, sc, s⟩) (ox : okM ⟨3, t, r, ix, iA, ic, i, oA, oc, o, sA, sc, s⟩) (hm : mayM (MlL.mp ⟨3, t, r, ix, iA, ic, i, oA, oc, o, sA, sc, s⟩)) :
    Calls Try.prog 21 #[MlL.val ⟨3, t, r, ix, iA, ic, i, oA, oc, o, sA, sc, s⟩] w fun e w' => putted w w' e (bodyB (MlL.mp ⟨3, t, r, ix, iA, ic, i, oA, oc, o, sA, sc, s⟩)) := by
  obtain ⟨w1, hw1, F1, hs1, hb1⟩ := mail_box w (.int .u8 3) (.int .u32 t) (.int .u8 r) (.int .i64 ix) (.slice iA i.length ic) (.slice oA o.length oc) (.slice sA s.length sc)
  obtain ⟨gx, hgx⟩ : ∃ q, q = w.heap.size := ⟨_, rfl⟩
  have Hgx := hide hgx
  rw [← hgx] at F1
  obtain ⟨y0, y1, y2, y3, y4, y5, y6⟩ := F1.cells
  have HF1 := hide F1
  have HC := hide (mcheck_any ⟨3, t, r, ix, iA, ic, i, oA, oc, o, sA, sc, s⟩ w1 ((hx.below hb1).more hb1.size) ox)
  rw [show chkM (MlL.mp ⟨3, t, r, ix, iA, ic, i, oA, oc, o, sA, sc, s⟩) = 0 from if_pos hm] at HC
  obtain ⟨⟨q1, q2, q3, q4⟩, ⟨ki, ko, ks⟩, -⟩ := ox
  simp only at q1 q2 q3 q4 ki ko ks
  have Hki := hide ki
  have Hko := hide ko
  have Hks := hide ks
  have Hx := hide hx
  have Hmi := hide (may_ids hm (by simp [MlL.mp])).1
  simp only [MlL.mp] at Hmi
  obtain ⟨hs65, hwa⟩ := wants_all (may_want hm rfl)
  simp only [MlL.mp, List.length_map] at hs65
  have Hwa := hide (show ∀ x ∈ s, mayT x.wp.H ∧ mayT x.wp.S ∧ x.wp.G.length ≤ 128 from fun x hx => hwa x.wp (List.mem_map_of_mem hx))
  clear hwa
  have Hw1 := hide hw1
  have HB1 := hide hb1
  obtain ⟨BB, hBB⟩ : ∃ q, q = bodyB (MlL.mp ⟨3, t, r, ix, iA, ic, i, oA, oc, o, sA, sc, s⟩) := ⟨_, rfl⟩
  have HBB := hide hBB
  rw [← hBB]
  clear hx hm F1 hw1 hb1 hs1 ki ko ks hBB hgx
  show Calls Try.prog 21 #[mlv 3 t r ix (.slice iA i.length ic) (.slice oA o.length oc) (.slice sA s.length sc)] w _
  go_enter Try.func21, Try.ntmps21
  go_wp2_with fail
  rw [Hw1.out, ← Hgx.out]
  refine HC.out.mono ?_
  rintro e w2 ⟨rfl, hb2⟩
  have hs2 : gx < w2.heap.size := by
    have h1 := hb2.size
    have h2 : w1.heap.size = gx + 1 := by rw [← Hw1.out, World.size_alloc, Hgx.out]
    omega
  obtain ⟨w3, hw3, P3, hb3, hs3⟩ := pn_new w2
  obtain ⟨g, hg⟩ : ∃ q, q = w2.heap.size := ⟨_, rfl⟩
  have Hg := hide hg
  rw [← hg] at P3 hs3 hs2
  have Hs3 := hide hs3.symm
  have HP3 := hide P3
  have HF3 := hide ((HF1.out.below hb2).below hb3)
  have HB3 := hide (fresh (fresh HB1.out hb2) hb3)
  have HX3 := hide ((Hx.out.below HB3.out).more (show w.heap.size ≤ g by rw [← Hgx.out]; omega))
  have hgw : w.heap.size ≤ g := by rw [← Hgx.out]; omega
  clear P3 hs3 hb2 hb3 hg HF1 HB1 Hx HC y0 y1 y2 y3 y4 y5 y6
  obtain ⟨y0, y1, y2, y3, y4, y5, y6⟩ := HF3.out.cells
  go_wp2_with fail
  rw [← Hg.out]
  clear hw3
  refine (penput_new g g 1 _ [] [3] _ rfl w3 rfl HP3.out (one_ok ⟨by decide, by decide⟩) (by decide)).mono ?_
  rintro e w4 ⟨rfl, hp4, hb4, hk4⟩
  rw [List.nil_append] at hp4
  have HP4 := hide hp4
  have HF4 := hide (HF3.out.belowB hb4 hs2)
  have HB4 := hide (HB3.out.trans (hb4.mono hgw))
  have HG4 := hide hb4
  have Hl4 := hide (show (nbs [(3 : Int)]).length ≤ 6 from nbs_len (one_ok ⟨by decide, by decide⟩))
  clear hp4 hb4 hk4 HP3 HB3 HF3 y0 y1 y2 y3 y4 y5 y6
  obtain ⟨y0, y1, y2, y3, y4, y5, y6⟩ := HF4.out.cells
  go_wp2_with fail
  refine (penclock g g (nbs [(3 : Int)]) iA i.length ic i w4 HP4.out (HX3.out.1.below HG4.out) rfl Hki.out Hmi.out (by have := Hl4.out; omega)).mono ?_
  rintro e w5 ⟨rfl, hp, hb, hk⟩
  have Hl5 := hide (show (nbs [(3 : Int)] ++ nbs (ckNums (i.map TmL.pt))).length ≤ 100006 by
    rw [List.length_append]
    have := ck_len Hmi.out
    have := Hl4.out
    omega)
  have HP5 := hide hp
  have HF5 := hide (HF4.out.belowB hb hs2)
  have HB5 := hide (HB4.out.trans (hb.mono hgw))
  have HG5 := hide (HG4.out.trans hb)
  clear hp hb hk HP4 HB4 HF4 HG4 y0 y1 y2 y3 y4 y5 y6
  obtain ⟨y0, y1, y2, y3, y4, y5, y6⟩ := HF5.out.cells
  go_wp2_with fail
  refine (penput_new g g 1 _ (nbs [(3 : Int)] ++ nbs (ckNums (i.map TmL.pt))) [(s.length : Int)] _ rfl w5 rfl HP5.out (fun z hz => by simp only [List.mem_singleton] at hz; omega) (by have := Hl5.out; simp only [List.length_cons, List.length_nil] at *; omega)).mono ?_
  rintro e w6 ⟨rfl, hp, hb, hk⟩
  have Hl6 := hide (show (nbs [(3 : Int)] ++ nbs (ckNums (i.map TmL.pt)) ++ nbs [(s.length : Int)]).length ≤ 100012 by
    have := app_len (show ∀ z ∈ [(s.length : Int)], 0 ≤ z ∧ z ≤ 1099511627776 from fun z hz => by simp only [List.mem_singleton] at hz; omega) Hl5.out
    simp only [List.length_cons, List.length_nil] at this
    omega)
  have HP6 := hide hp
  have HF6 := hide (HF5.out.belowB hb hs2)
  have HB6 := hide (HB5.out.trans (hb.mono hgw))
  have HG6 := hide (HG5.out.trans hb)
  clear hp hb hk HP5 HB5 HF5 HG5 y0 y1 y2 y3 y4 y5 y6
  obtain ⟨y0, y1, y2, y3, y4, y5, y6⟩ := HF6.out.cells
  obtain ⟨p6, hp6⟩ : ∃ q, q = nbs [(3 : Int)] ++ nbs (ckNums (i.map TmL.pt)) ++ nbs [(s.length : Int)] := ⟨_, rfl⟩
  have Hp6 := hide hp6
  rw [← hp6] at HP6 Hl6
  clear hp6
  go_wp2_with fail
  go_loopw [90] (fun i wr => ∃ j : Nat, j ≤ s.length ∧ i = .int .i64 (j : Int) ∧ Hid (PN wr g g (p6 ++ ((s.map WsL.wp).take j).flatMap wsB)) ∧ Hid ((p6 ++ ((s.map WsL.wp).take j).flatMap wsB).length ≤ 200000 + 210000 * j) ∧ Hid (Below w.heap.size w wr) ∧ Hid (Below g w3 wr)) (fun i _ => s.length - (intOf i).toNat)
  case atStart => exact ⟨0, by omega, rfl, by simpa using HP6, hide (by have := Hl6.out; simp only [List.take_zero, List.flatMap_nil, List.append_nil]; omega), HB6, HG6⟩
  case round =>
    obtain ⟨j, hj, rfl, HPj, Hlj, HBj, HGj⟩ := hrel
    clear HP6 HB6 HG6 HF6 y0 y1 y2 y3 y4 y5 y6
    obtain ⟨pj, hpj⟩ : ∃ q, q = p6 ++ ((s.map WsL.wp).take j).flatMap wsB := ⟨_, rfl⟩
    have Hpj := hide hpj
    rw [← hpj] at HPj Hlj
    clear hpj
    by_cases hlt : j < s.length
    · have z0 : (j : Int) < s.length := by omega
      have zj : (0 : Int) ≤ j := by omega
      have HRj := hide (HX3.out.2.2.below HGj.out)
      obtain ⟨bb, bo, rfl, hB, hCc⟩ := RW.cell HRj.out (show 0 < s.length by omega)
      obtain ⟨d0, d1, d2, d3, d4, d5, d6⟩ := hCc j hlt
      obtain ⟨x, hx⟩ : ∃ x, s[j] = x := ⟨_, rfl⟩
      rw [hx] at d0 d1 d2 d3 d4 d5 d6
      have hxm : x ∈ s := by rw [← hx]; exact List.getElem_mem hlt
      have Hokx := hide (Hks.out x hxm)
      have Hwx := hide (Hwa.out x hxm)
      have HRx := hide (HRj.out.2 x hxm)
      obtain ⟨w7, hw7, F7, hs7, hb7⟩ := wish_box wr (.int .u32 x.t) (.int .u8 x.r) (.bool x.rd) (.slice x.hA x.h.length x.hc) (.bool x.kn) (.slice x.sA x.s.length x.sc) (.slice x.gA x.g.length x.gc)
      have hgwr : g ≤ wr.heap.size := by have := HPj.out.lt; omega
      have Hnx := hide (show pj ++ wsB x.wp = p6 ++ ((s.map WsL.wp).take (j + 1)).flatMap wsB by
        rw [List.take_succ_eq_append_getElem (by rw [List.length_map]; exact hlt), List.flatMap_append, List.getElem_map, hx, Hpj.out, List.append_assoc]
        simp)
      have Hln := hide (show (pj ++ wsB x.wp).length ≤ 200000 + 210000 * (j + 1) by
        obtain ⟨o1, o2, o3, o4, -⟩ := Hokx.out
        have h1 := ws_len (x := x.wp) ⟨o1, by show x.t ≤ 1099511627776; omega⟩ ⟨o3, by show x.r ≤ 1099511627776; omega⟩ Hwx.out.1 Hwx.out.2.1 Hwx.out.2.2
        have h2 := Hlj.out
        rw [List.length_append]
        omega)
      have HW := hide (penwish g g pj x w7 (HPj.out.below hb7) (HRx.out.1.below (hb7.mono hgwr)) (HRx.out.2.1.below (hb7.mono hgwr)) (RD.below HRx.out.2.2 (hb7.mono hgwr)) Hokx.out Hwx.out.1 Hwx.out.2.1 Hwx.out.2.2 (by have := Hlj.out; omega))
      have Hw7 := hide hw7
      have HB7 := hide (fresh HBj.out hb7)
      have HG7 := hide (HGj.out.trans (hb7.mono hgwr))
      clear hCc hx hxm F7 hw7 hs7 hb7 HPj HRj HRx Hokx Hwx
      go_wp2_with fail
      rw [Hw7.out]
      refine HW.out.mono ?_
      rintro e w8 ⟨rfl, hp8, hb8, -⟩
      have HP8 := hide hp8
      have HB8 := hide (HB7.out.trans (hb8.mono hgw))
      have HG8 := hide (HG7.out.trans hb8)
      clear hp8 hb8 d0 d1 d2 d3 d4 d5 d6
      go_wp2_with fail
      go_roundw
      case rel =>
        refine ⟨j + 1, by omega, by go_num, ?_, ?_, HB8, HG8⟩
        · rw [← Hnx.out]; exact HP8
        · rw [← Hnx.out]; exact Hln
      case measure => simp [intOf]; omega
    · obtain rfl : j = s.length := by omega
      have z0 : ¬ (s.length : Int) < s.length := by omega
      obtain ⟨A9, c9, hB9, ho9, -⟩ := HPj.out
      have d9 := hB9.cell
      have HR9 := hide (RD.of_own ho9)
      obtain ⟨pl, hpl⟩ : ∃ q, q = List.length pj := ⟨_, rfl⟩
      rw [← hpl] at d9
      have Hpl := hide hpl.symm
      clear hB9 ho9 hpl
      go_wp2_with fail
      refine (wrap_body A9 pl c9 _ wr HR9.out Hpl.out).mono ?_
      rintro e w10 ⟨A10, c10, q10, rfl, hq10, ho10, hb10⟩
      have HQ := hide (And.intro hq10 ho10)
      have hbz := fresh HBj.out hb10
      have hsz := HBj.out.size
      clear hq10 ho10 hb10 d9
      go_wp2_with fail
      refine bodyPost_ret (v := .tuple #[.slice A10 q10.length c10, .int .i64 (wrE pj)]) (by simp [results, Try.results21, go_sem]) rfl ?_
      have e9 : BB = pj := by
        rw [HBB.out, Hpj.out, Hp6.out, List.take_of_length_le (by rw [List.length_map]; exact Nat.le_refl _)]
        show _ ++ nbs [((s.map WsL.wp).length : Int)] ++ _ = _
        rw [List.length_map]
        rfl
      rw [e9]
      exact ⟨A10, c10, q10, rfl, HQ.out.1, own_less HQ.out.2 hsz, hbz⟩
/-- What Put answers. -/
def putE (m : MP) : Int := if mayM m then wrE (bodyB m) else 8
def putV (m : MP) : List UInt8 := if mayM m then wrV (bodyB m) else []
theorem mput_any (x : MlL) (w : World) (hx : RM w w.heap.size x) (ox : okM x) :
    Calls Try.prog 21 #[x.val] w fun e w' => ∃ (A : Option Addr) (c : Nat) (q : List UInt8), e = .returned (.tuple #[.slice A (List.length (α := UInt8) q) c, .int .i64 (putE x.mp)]) ∧ q = putV x.mp ∧ w'.ownsRow w.heap.size 5 1 (.slice A q.length c) q.length (u8s q) ∧ Below w.heap.size w w' := by
  by_cases hm : mayM x.mp
  · rw [show putE x.mp = wrE (bodyB x.mp) from if_pos hm, show putV x.mp = wrV (bodyB x.mp) from if_pos hm]
    obtain ⟨k, t, r, ix, iA, ic, i, oA, oc, o, sA, sc, s⟩ := x
    have hk : k = 1 ∨ k = 2 ∨ k = 3 ∨ k = 4 ∨ k = 5 ∨ k = 6 := by
      rcases hm.1 with ⟨h | h, -⟩ | ⟨h, -⟩ | ⟨h, -⟩ | ⟨h, -⟩ | ⟨h, -⟩ <;> simp only [MlL.mp] at h <;> omega
    rcases hk with rfl | rfl | rfl | rfl | rfl | rfl
    · exact mput_up t r ix iA oA sA ic oc sc i o s w hx ox hm
    · exact mput_ack t r ix iA oA sA ic oc sc i o s w hx ox hm
    · exact mput_want t r ix iA oA sA ic oc sc i o s w hx ox hm
    · exact mput_ops t r ix iA oA sA ic oc sc i o s w hx ox hm
    · exact mput_manifest t r ix iA oA sA ic oc sc i o s w hx ox hm
    · exact mput_chunk t r ix iA oA sA ic oc sc i o s w hx ox hm
  · rw [show putE x.mp = 8 from if_neg hm, show putV x.mp = [] from if_neg hm]
    refine (mput_bad x w hx ox hm).mono ?_
    rintro e w' ⟨rfl, hb⟩
    exact ⟨none, 0, [], rfl, rfl, World.ownsRow_nil _ _ _ _, hb⟩
end Go.Proofs.Ytmkpfdcnikgokaa
