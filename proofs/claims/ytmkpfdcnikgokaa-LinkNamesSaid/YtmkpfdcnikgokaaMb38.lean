/-
  Texts of this claim, put together: MailNames, Open, LinkMath. What each theorem asks stands in its statement.
-/
import Derived.Test.YtmkpfdcnikgokaaRows
import Derived.ProofKit
import Derived.OpenShut
import Derived.ShutString
import Derived.ChangeOld
import Derived.Test.YtmkpfdcnikgokaaProg
import Derived.Test.YtmkpfdcnikgokaaMb1
import Derived.Test.YtmkpfdcnikgokaaMb3
import Derived.Test.YtmkpfdcnikgokaaMb33
import Derived.Test.YtmkpfdcnikgokaaMb37
set_option linter.unusedVariables false
set_option linter.unusedSimpArgs false
namespace Go.Proofs.Ytmkpfdcnikgokaa
open Go.RowKit
/-- The acknowledgement with an operation. -/
def oddL (a b c : Nat) : MlL := ⟨2, 0, 0, 0, some ⟨b, 0, none⟩, 1, [⟨0, some ⟨a, 0, none⟩, 1, [(3, 5)]⟩], some ⟨c, 0, none⟩, 1, [⟨0, 0, 0, none, 0, [], 0⟩], none, 0, []⟩
def upL (k : Int) : MlL := ⟨k, 0, 0, 0, none, 0, [], none, 0, [], none, 0, []⟩
theorem upL_ok (k : Int) : okM (upL k) := by
  simp only [okM, upL, List.length_nil, List.not_mem_nil, false_implies, implies_true, and_true, true_and]
  omega
theorem upL_rm (k : Int) (w : World) (B : Nat) : RM w B (upL k) := ⟨RT.nil _ _ _, ⟨RD.nil_, fun y hy => by cases hy⟩, RW.nil _ _ _⟩
theorem oddL_ok (a b c : Nat) : okM (oddL a b c) := by
  simp only [okM, oddL, okT, okS, okO, okI, List.mem_singleton, List.length_singleton, List.length_nil, forall_eq, List.not_mem_nil, false_implies, implies_true, and_true, true_and]
  omega
theorem none_bad : chkM (upL 0).mp = 8 := by decide
theorem up_bad : chkM (upL 1).mp = 8 := by decide
theorem odd_bad (a b c : Nat) : chkM (oddL a b c).mp = 8 := by
  show chkM ⟨2, 0, 0, 0, [(0, [(3, 5)])], [(0, 0, 0, [], 0)], []⟩ = 8
  decide
theorem code_nil : codeM [] = 30 := by
  unfold codeM
  rw [show opn [] = none from rfl]
theorem seven_bad : getB [7] = none := by
  have h : bodyM ([7], false) = (⟨0, 0, 0, 0, [], [], []⟩, ([7], true)) := by
    have e : eyeN 6 ([7], false) = (0, ([7], true)) := by
      unfold eyeN
      simp only
      rw [if_neg (by decide), show gget [7] = some (7, 1) by have := gget_nb 7 [] (by decide); rwa [nb_small (by decide)] at this]
      rfl
    unfold bodyM
    rw [e]
    rfl
  exact getB_bad h
set_option maxHeartbeats 6400000 in
set_option maxRecDepth 100000 in
theorem mailNames_walk (w : World) : Calls Try.prog 5 #[] w fun e w' => e = .returned (.bool true) ∧ Below w.heap.size w w' := by
  obtain ⟨i0, hi0, hz0, hz1, hz2⟩ := info_parts opinfo
  go_enter Try.func5, Try.ntmps5
  go_wp2_with fail
  refine (mack w).mono ?_
  rintro e w1 ⟨a, b, rfl, hr1, hb1⟩
  simp only [MlL.val]
  obtain ⟨w2a, hw2a, F2a, hs2a, hb2a⟩ := mail_box w1 (.int .u8 0) (.int .u32 0) (.int .u8 0) (.int .i64 0) (.slice none 0 0) (.slice none 0 0) (.slice none 0 0)
  obtain ⟨f0, f1, f2, f3, f4, f5, f6, F2, hb2r⟩ := refill (.int .u8 (ackL a b).k) (.int .u32 (ackL a b).t) (.int .u8 (ackL a b).r) (.int .i64 (ackL a b).ix) (.slice (ackL a b).iA (ackL a b).i.length (ackL a b).ic) (.slice (ackL a b).oA (ackL a b).o.length (ackL a b).oc) (.slice (ackL a b).sA (ackL a b).s.length (ackL a b).sc) F2a (Below.refl w1.heap.size w2a) (Nat.le_refl _)
  obtain ⟨y0, y1, y2, y3, y4, y5, y6⟩ := F2a.cells
  obtain ⟨w2, hw2⟩ : ∃ q, ((((((w2a.setCell ⟨w1.heap.size, 0, none⟩ (.int .u8 (ackL a b).k)).setCell ⟨w1.heap.size, 1, none⟩ (.int .u32 (ackL a b).t)).setCell ⟨w1.heap.size, 2, none⟩ (.int .u8 (ackL a b).r)).setCell ⟨w1.heap.size, 3, none⟩ (.int .i64 (ackL a b).ix)).setCell ⟨w1.heap.size, 4, none⟩ (.slice (ackL a b).iA (ackL a b).i.length (ackL a b).ic)).setCell ⟨w1.heap.size, 5, none⟩ (.slice (ackL a b).oA (ackL a b).o.length (ackL a b).oc)).setCell ⟨w1.heap.size, 6, none⟩ (.slice (ackL a b).sA (ackL a b).s.length (ackL a b).sc) = q := ⟨_, rfl⟩
  rw [hw2] at F2 hb2r
  have hb2 : Below w1.heap.size w1 w2 := hb2a.trans hb2r
  have hg2 : w1.heap.size < w2.heap.size := F2.lt
  have HR2 := hide ((hr1.below hb2).more hb2.size)
  have HB2 := hide (fresh hb1 hb2)
  have hgs : w1.heap.size < w2.heap.size := F2.lt
  obtain ⟨w3, hmk0, hown3, hgr3⟩ := run_makeSlice_full (P := Try.prog) w2 w2.heap.size 38 115 i0 (.agg #[.int .u8 0, .int .u32 0, .int .u8 0, .slice none 0 0, .int .i64 0]) 5 Try.underlying38 hi0 hz0 hz1 .i64 .i64 1 (by omega) (by rw [hz2]; omega) (by unfold maxLen; omega) (Nat.le_refl _)
  have hmk : (Instr.makeSlice 38 (.int .i64 1) (.int .i64 1)).run Try.prog w2 = .ok (.slice (some ⟨w2.heap.size, 0, none⟩) 1 1) w3 := hmk0
  rw [show (madeCells (Value.cells (.agg #[.int .u8 0, .int .u32 0, .int .u8 0, .slice none 0 0, .int .i64 0])) (1 * 5)).toList = [.int .u8 0, .int .u32 0, .int .u8 0, .slice none 0 0, .int .i64 0] by simp [madeCells, Value.cells, Array.range, List.range_succ]] at hown3
  have hb3 : Below w2.heap.size w2 w3 := grown_below (World.ownsRow_nil _ _ _ _ : w2.ownsRow w2.heap.size 115 5 (.slice none 0 0) 0 []) hgr3 (Nat.le_refl _)
  have F3 := F2.below hb3
  obtain ⟨x0, x1, x2, x3, x4, x5, x6⟩ := F3.cells
  have f5' := F3.fr 5
  obtain ⟨w4, hw4⟩ : ∃ q, w3.setCell ⟨w1.heap.size, 5, none⟩ (.slice (some ⟨w2.heap.size, 0, none⟩) 1 1) = q := ⟨_, rfl⟩
  have F4 := F3.set5 (.slice (some ⟨w2.heap.size, 0, none⟩) 1 1)
  rw [hw4] at F4
  have hb14 : Below w1.heap.size w1 w4 := by
    rw [← hw4]
    exact (fresh hb2 hb3).setCell (Nat.le_refl _) _
  have HB4 := hide (fresh hb1 hb14)
  have hR4 : RM w4 w4.heap.size (oddL a b w2.heap.size) := by
    refine ⟨((hr1.below hb14).more hb14.size).1, ⟨?_, fun y hy => ?_⟩, RW.nil _ _ _⟩
    · have h1 : w4.ownsRow w2.heap.size 115 5 (.slice (some ⟨w2.heap.size, 0, none⟩) 1 1) 1 [.int .u8 0, .int .u32 0, .int .u8 0, .slice none 0 0, .int .i64 0] := by
        rw [← hw4]
        exact own_setX (show w3.ownsRow w2.heap.size 115 5 (.slice (some ⟨w2.heap.size, 0, none⟩) 1 1) 1 [.int .u8 0, .int .u32 0, .int .u8 0, .slice none 0 0, .int .i64 0] from hown3) F3 (by decide) 5 _
      exact RD.of_own h1
    · simp only [oddL, List.mem_singleton] at hy
      subst hy
      exact RD.nil_
  have HR4 := hide hR4
  have HF4 := hide F4
  clear hown3 hgr3 F2 F3 F4 F2a hb2 hb3 hb14 hr1 hb1 hgs hb2a hb2r hs2a
  go_wp2_with fail
  refine (mget_any none 0 0 [] w4 RD.nil_ rfl (Nat.le_refl _) (by decide)).mono ?_
  rintro e w5 ⟨y, rfl, -, -, -, hb5⟩
  rw [code_nil]
  simp only [MlL.val]
  have HF5 := hide (HF4.out.below hb5)
  clear x0 x1 x2 x3 x4 x5 x6 f5' y0 y1 y2 y3 y4 y5 y6 f0 f1 f2 f3 f4 f5 f6 hw2a hw2 hmk0 hmk hw4
  obtain ⟨w6a, hw6a, F6a, hs6a, hb6a⟩ := mail_box w5 (.int .u8 0) (.int .u32 0) (.int .u8 0) (.int .i64 0) (.slice none 0 0) (.slice none 0 0) (.slice none 0 0)
  obtain ⟨f0, f1, f2, f3, f4, f5, f6, F6, hb6r⟩ := refill (.int .u8 y.k) (.int .u32 y.t) (.int .u8 y.r) (.int .i64 y.ix) (.slice y.iA y.i.length y.ic) (.slice y.oA y.o.length y.oc) (.slice y.sA y.s.length y.sc) F6a (Below.refl w5.heap.size w6a) (Nat.le_refl _)
  obtain ⟨y0, y1, y2, y3, y4, y5, y6⟩ := F6a.cells
  obtain ⟨w6, hw6⟩ : ∃ q, ((((((w6a.setCell ⟨w5.heap.size, 0, none⟩ (.int .u8 y.k)).setCell ⟨w5.heap.size, 1, none⟩ (.int .u32 y.t)).setCell ⟨w5.heap.size, 2, none⟩ (.int .u8 y.r)).setCell ⟨w5.heap.size, 3, none⟩ (.int .i64 y.ix)).setCell ⟨w5.heap.size, 4, none⟩ (.slice y.iA y.i.length y.ic)).setCell ⟨w5.heap.size, 5, none⟩ (.slice y.oA y.o.length y.oc)).setCell ⟨w5.heap.size, 6, none⟩ (.slice y.sA y.s.length y.sc) = q := ⟨_, rfl⟩
  rw [hw6] at F6 hb6r
  have hb6 : Below w5.heap.size w5 w6 := hb6a.trans hb6r
  have hg6 : w5.heap.size < w6.heap.size := F6.lt
  have HB6 := hide (fresh HB4.out (fresh hb5 hb6))
  have HF6 := hide (HF5.out.below hb6)
  have HR6 := hide ((HR4.out.below (fresh hb5 hb6)).more (fresh hb5 hb6).size)
  clear F6 F6a hb6 hb6a hb6r hs6a hg6 hb5 HR2 HB2 HB4 HR4 HF4 HF5
  obtain ⟨w7, hw7⟩ : ∃ q, w6.alloc (.cells #[.int .u8 7] 5) = q := ⟨_, rfl⟩
  have hb7 : Below w6.heap.size w6 w7 := by rw [← hw7]; exact boxed _ _
  have hr7 : RB w7 w7.heap.size (some ⟨w6.heap.size, 0, none⟩) [7] := by
    refine ⟨rfl, fun _ => ⟨_, _, rfl, by rw [← hw7, World.size_alloc]; omega, fun j u hu => ?_⟩⟩
    rw [Nat.zero_add, ← hw7, World.cell?_alloc_new, ← Array.getElem?_toList]
    exact hu
  have PW := hide (wrap_ok (some ⟨w6.heap.size, 0, none⟩) 1 [7] w7 hr7 (by decide))
  have Hw7 := hide hw7
  have HB7 := hide (fresh HB6.out hb7)
  have HF7 := hide (HF6.out.below hb7)
  have HR7 := hide ((HR6.out.below hb7).more hb7.size)
  clear hw7 hb7 hr7 HF6 HR6 HB6
  go_wp2_with fail
  rw [Hw7.out]
  refine PW.out.mono ?_
  rintro e w8 ⟨v, rfl, ho8, hb8⟩
  obtain ⟨A8, c8, rfl, hc8, -, -⟩ := own_slice ho8
  have hl8 : (frm [7]).length < 100000 := by rw [frm_len]; simp [nb_small]
  have PG := hide (mget_any A8 (frm [7]).length c8 (frm [7]) w8 (RD.of_own ho8) rfl hc8 hl8)
  rw [(codeM_frm (l := [7]) (by decide)).1, show mcode [7] = 8 by unfold mcode; rw [seven_bad]; rfl] at PG
  obtain ⟨fl, hfl⟩ : ∃ q, q = (frm [7]).length := ⟨_, rfl⟩
  rw [← hfl] at PG ⊢
  have HB8 := hide (fresh HB7.out hb8)
  have HF8 := hide (HF7.out.below hb8)
  have HR8 := hide ((HR7.out.below hb8).more hb8.size)
  clear ho8 hb8 hc8 hl8 hfl HB7 HF7 HR7 PW hw6a hw6 y0 y1 y2 y3 y4 y5 y6 f0 f1 f2 f3 f4 f5 f6
  go_wp2_with fail
  refine PG.out.mono ?_
  rintro e w9 ⟨z, rfl, -, -, -, hb9⟩
  simp only [MlL.val]
  have HF9 := hide (HF8.out.below hb9)
  obtain ⟨w10a, hw10a, F10a, hs10a, hb10a⟩ := mail_box w9 (.int .u8 0) (.int .u32 0) (.int .u8 0) (.int .i64 0) (.slice none 0 0) (.slice none 0 0) (.slice none 0 0)
  obtain ⟨f0, f1, f2, f3, f4, f5, f6, F10, hb10r⟩ := refill (.int .u8 z.k) (.int .u32 z.t) (.int .u8 z.r) (.int .i64 z.ix) (.slice z.iA z.i.length z.ic) (.slice z.oA z.o.length z.oc) (.slice z.sA z.s.length z.sc) F10a (Below.refl w9.heap.size w10a) (Nat.le_refl _)
  obtain ⟨y0, y1, y2, y3, y4, y5, y6⟩ := F10a.cells
  obtain ⟨w10, hw10⟩ : ∃ q, ((((((w10a.setCell ⟨w9.heap.size, 0, none⟩ (.int .u8 z.k)).setCell ⟨w9.heap.size, 1, none⟩ (.int .u32 z.t)).setCell ⟨w9.heap.size, 2, none⟩ (.int .u8 z.r)).setCell ⟨w9.heap.size, 3, none⟩ (.int .i64 z.ix)).setCell ⟨w9.heap.size, 4, none⟩ (.slice z.iA z.i.length z.ic)).setCell ⟨w9.heap.size, 5, none⟩ (.slice z.oA z.o.length z.oc)).setCell ⟨w9.heap.size, 6, none⟩ (.slice z.sA z.s.length z.sc) = q := ⟨_, rfl⟩
  rw [hw10] at F10 hb10r
  have hb10 : Below w9.heap.size w9 w10 := hb10a.trans hb10r
  have hg10 : w9.heap.size < w10.heap.size := F10.lt
  have HB10 := hide (fresh HB8.out (fresh hb9 hb10))
  have HF10 := hide (HF9.out.below hb10)
  have HR10 := hide ((HR8.out.below (fresh hb9 hb10)).more (fresh hb9 hb10).size)
  clear F10 F10a hb10 hb10a hb10r hs10a hg10 hb9 HB8 HF8 HR8 HF9 PG
  go_wp2_with fail
  refine (malive w10).mono ?_
  rintro e w11 ⟨rfl, hb11⟩
  have HB11 := hide (fresh HB10.out hb11)
  have HF11 := hide (HF10.out.below hb11)
  have HR11 := hide ((HR10.out.below hb11).more hb11.size)
  have C1 := hide (mcheck_any (upL 0) w11 (upL_rm 0 _ _) (upL_ok 0))
  rw [none_bad] at C1
  clear hb11 y0 y1 y2 y3 y4 y5 y6 f0 f1 f2 f3 f4 f5 f6 HF10 HR10 HB10 hw10a hw10
  go_wp2_with fail
  refine C1.out.mono ?_
  rintro e w12 ⟨rfl, hb12⟩
  have HB12 := hide (fresh HB11.out hb12)
  have HF12 := hide (HF11.out.below hb12)
  have HR12 := hide ((HR11.out.below hb12).more hb12.size)
  have C2 := hide (mcheck_any (upL 1) w12 (upL_rm 1 _ _) (upL_ok 1))
  rw [up_bad] at C2
  clear hb12 HF11 HR11 HB11 C1
  go_wp2_with fail
  refine C2.out.mono ?_
  rintro e w13 ⟨rfl, hb13⟩
  have HB13 := hide (fresh HB12.out hb13)
  have HF13 := hide (HF12.out.below hb13)
  have C3 := hide (mcheck_any (oddL a b w2.heap.size) w13 ((HR12.out.below hb13).more hb13.size) (oddL_ok _ _ _))
  rw [odd_bad] at C3
  obtain ⟨y0, y1, y2, y3, y4, y5, y6⟩ := HF13.out.cells
  clear hb13 HF12 HR12 HB12 C2
  go_wp2_with fail
  refine C3.out.mono ?_
  rintro e w14 ⟨rfl, hb14⟩
  have hbz := fresh HB13.out hb14
  clear y0 y1 y2 y3 y4 y5 y6
  go_wp2_with fail
  go_ret
  exact ⟨rfl, hbz⟩
end Go.Proofs.Ytmkpfdcnikgokaa
namespace Go.Proofs.Ytmkpfdcnikgokaa
open Go.ChangeShapes Go.WideShapes Go.ChangeAt Go.RowKit
theorem own : ownKnob Try.prog.godebug = none := by kernel_rfl
end Go.Proofs.Ytmkpfdcnikgokaa
namespace Go.Proofs.Ytmkpfdcnikgokaa
open Go.RowKit
theorem fboxF (w : World) (o : Obj) : Below w.heap.size w (w.alloc o) := (Below.refl w.heap.size w).alloc (Nat.le_refl _) o
/-- A frame of a list, as it lies. -/
structure FrL where
  A : Option Addr
  c : Nat
  b : List UInt8
def FrL.cell (x : FrL) : Value := .slice x.A x.b.length x.c
def frs (L : List FrL) : List Value := L.map FrL.cell
theorem frs_len (L : List FrL) : (frs L).length = L.length := by simp [frs]
theorem frs_append (L M : List FrL) : frs (L ++ M) = frs L ++ frs M := by simp [frs]
theorem frs_one (L : List FrL) : ∀ u ∈ frs L, u.oneCell' = true := by
  intro u hu
  obtain ⟨x, -, rfl⟩ := List.mem_map.1 hu
  rfl
/-- A list of frames that is read. -/
def RF (w : World) (B : Nat) (A : Option Addr) (L : List FrL) : Prop := RD w B 1 A L.length (frs L) ∧ ∀ x ∈ L, RB w B x.A x.b
theorem RF.below {w w' : World} {B : Nat} {A : Option Addr} {L : List FrL} (h : RF w B A L) (hb : Below B w w') : RF w' B A L := ⟨RD.below h.1 hb, fun x hx => RD.below (h.2 x hx) hb⟩
theorem RF.more {w : World} {B B' : Nat} {A : Option Addr} {L : List FrL} (h : RF w B A L) (hB : B ≤ B') : RF w B' A L := ⟨RD.more h.1 hB, fun x hx => RD.more (h.2 x hx) hB⟩
theorem RF.nil (w : World) (B : Nat) (A : Option Addr) : RF w B A [] := ⟨RD.nil_, fun x hx => by cases hx⟩
theorem RF.cell {w : World} {B : Nat} {A : Option Addr} {L : List FrL} (h : RF w B A L) (hl : 0 < L.length) : ∃ b off, A = some ⟨b, off, none⟩ ∧ b < B ∧ ∀ j (hj : j < L.length), w.cell? ⟨b, off + j, none⟩ = some (.slice L[j].A L[j].b.length L[j].c) := by
  obtain ⟨b, off, e, hb, hc⟩ := h.1.2 hl
  refine ⟨b, off, e, hb, fun j hj => hc j _ ?_⟩
  simp [frs, hj, FrL.cell]
theorem RF.less {w : World} {B : Nat} {A : Option Addr} {L : List FrL} (h : RF w B A L) (k : Nat) : RF w B A (L.take k) := by
  refine ⟨⟨by rw [frs_len, Nat.mul_one], fun h0 => ?_⟩, fun x hx => h.2 x (List.mem_of_mem_take hx)⟩
  rw [List.length_take] at h0
  obtain ⟨b, off, e, hb, hc⟩ := h.1.2 (by omega)
  refine ⟨b, off, e, hb, fun j u hu => hc j u ?_⟩
  have e2 : frs L = frs (L.take k) ++ frs (L.drop k) := by rw [← frs_append, List.take_append_drop]
  rw [e2, List.getElem?_append_left (List.getElem?_eq_some_iff.1 hu).1]
  exact hu
/-- A list of frames in memory of the call's own. -/
def OF (w : World) (base : Nat) (A : Option Addr) (c : Nat) (L : List FrL) : Prop :=
  w.ownsRow base 28 1 (.slice A L.length c) L.length (frs L) ∧ ∀ x ∈ L, w.ownsRow base 5 1 (.slice x.A x.b.length x.c) x.b.length (u8s x.b)
theorem OF.below {w w' : World} {base c : Nat} {A : Option Addr} {L : List FrL} (h : OF w base A c L) (hb : Below w.heap.size w w') : OF w' base A c L :=
  ⟨own_below h.1 hb (Nat.le_refl _), fun x hx => own_below (h.2 x hx) hb (Nat.le_refl _)⟩
theorem OF.rf {w : World} {base c : Nat} {A : Option Addr} {L : List FrL} (h : OF w base A c L) : RF w w.heap.size A L :=
  ⟨RD.of_own h.1, fun x hx => RD.of_own (h.2 x hx)⟩
theorem OF.nil (w : World) (base : Nat) : OF w base none 0 [] := ⟨World.ownsRow_nil _ _ _ _, fun x hx => by cases hx⟩
theorem fr_less {w : World} {base B : Nat} {e : TypeId} {size n : Nat} {v : Value} {L : List Value} (h : w.ownsRow base e size v n L) (hB : B ≤ base) : w.ownsRow B e size v n L := by
  refine ⟨h.1, ?_⟩
  rcases h.2 with h0 | ⟨g, cap, cur, h1, h2, h3⟩
  · exact .inl h0
  · exact .inr ⟨g, cap, cur, h1, Nat.le_trans hB h2, h3⟩
theorem OF.less {w : World} {base B c : Nat} {A : Option Addr} {L : List FrL} (h : OF w base A c L) (hB : B ≤ base) : OF w B A c L := ⟨fr_less h.1 hB, fun x hx => fr_less (h.2 x hx) hB⟩
theorem fr_kept {w w' : World} {base : Nat} {e e' : TypeId} {size n : Nat} {v : Value} {L : List Value} (h : w.ownsRow base e size v n L) (hne : e ≠ e') (hk : ∀ (b : Nat) (o' : Obj), w.heap[b]? = some o' → (∀ cur, o' ≠ .cells cur e' (0, 0)) → w'.heap[b]? = some o') : w'.ownsRow base e size v n L := by
  refine ⟨h.1, ?_⟩
  rcases h.2 with h0 | ⟨g, cap, cur, h1, h2, h3, h4⟩
  · exact .inl h0
  · exact .inr ⟨g, cap, cur, h1, h2, hk g _ h3 (fun cur e => by simp only [Obj.cells.injEq] at e; exact hne e.2.1), h4⟩
theorem frinfo : (Try.prog.info? 28).map (fun i => (i.zero, i.size, i.bytes)) = some (some (.slice none 0 0), 1, 24) := by kernel_rfl
theorem fru8 : (Try.prog.info? 5).map (fun i => (i.zero, i.size, i.bytes)) = some (some (.int .u8 0), 1, 1) := by kernel_rfl
/-- append of frames onto a list of the call's own, the rows that it leaves being said. -/
theorem wpList_append_kept {P : Program} (w : World) {ops : Array Oper} {rest : List Oper} {o : Oper} {a : Act} {Q : Exit → Act → World → Prop} (hgd : o.guard = none) (s x : Operand) (t : TypeId)
    (ho : o.op = .call { callee := .builtin .append, args := #[s, x], argTypes := #[t, t] })
    (base : Nat) (e : TypeId) (i : TypeInfo) (z : Value) (size bytes : Nat) (ht : P.underlying t = some (.slice e)) (hi : P.info? e = some i) (hz : i.zero = some z)
    (hsize : i.size = size) (hby : i.bytes = bytes) (hzs : z.cells.size = size) (hsz : 0 < size)
    (v : Value) (n : Nat) (xs : List Value) (hs : a.eval s = v) (hown : w.ownsRow base e size v n xs)
    (B : Nat) (A : Option Addr) (m c : Nat) (news : List Value) (hx : a.eval x = .slice A m c) (hr : RD w B size A m news) (h1 : ∀ u ∈ news, u.oneCell' = true)
    (h63 : n + m ≤ 1073741824) (hbytes : bytes ≤ 65536) (hbase : base ≤ w.heap.size)
    (h : ∀ v' w', w'.ownsRow base e size v' (n + m) (xs ++ news) → Below base w w' → (∀ (b : Nat) (o' : Obj), w.heap[b]? = some o' → (∀ cur, o' ≠ .cells cur e (0, 0)) → w'.heap[b]? = some o') → wpList P ops Q rest (a.put o.dst v') w') : wpList P ops Q (o :: rest) a w := by
  refine wpList_plain hgd fun K hK => ?_
  have hb' : (n + m) * bytes ≤ 140737488355328 := by
    have : (n + m) * bytes ≤ (n + m) * 65536 := Nat.mul_le_mul_left _ hbytes
    omega
  obtain ⟨v', w', hrun, h2, h3⟩ := run_append_src (P := P) w base t o.type e i z size bytes ht hi hz hsize hby hzs hsz v n xs hown B A m c news hr h1 (by unfold maxLen; omega) hb' hbase
  have hkeep : ∀ (b : Nat) (o' : Obj), w.heap[b]? = some o' → (∀ cur, o' ≠ .cells cur e (0, 0)) → w'.heap[b]? = some o' := by
    intro b o' hb hne
    obtain ⟨-, -, -, -, hk⟩ := h3
    rw [hk b (Array.getElem?_eq_some_iff.1 hb).1 ?_]
    · exact hb
    · rcases hown.2 with ⟨rfl, _⟩ | ⟨g, cap, cur, rfl, _, hg, _⟩
      · intro e1; cases e1
      · intro e1
        simp only [Value.ownBlock, Option.some.injEq] at e1
        subst e1
        rw [hg] at hb
        exact hne cur (Option.some.inj hb).symm
  unfold Oper.wp execOp
  simp only [ho, resolve, invoke, builtin, Sem.run_bind, Sem.run_pure, Result.andThen_ok, List.map_toArray, List.map_cons, List.map_nil, hs, hx, hrun]
  exact hK _ _ (h v' w' h2 (grown_below hown h3 hbase) hkeep)
/-- append of one frame of the call's own. -/
theorem wpList_append_fr (w : World) {ops : Array Oper} {rest : List Oper} {o : Oper} {a : Act} {Q : Exit → Act → World → Prop} (hgd : o.guard = none) (s x : Operand)
    (ho : o.op = .call { callee := .builtin .append, args := #[s, x], argTypes := #[22, 22] })
    (base : Nat) (A : Option Addr) (c n : Nat) (L : List FrL) (hn : L.length = n) (hs : a.eval s = .slice A n c) (hO : OF w base A c L)
    (y : FrL) (hy : w.ownsRow base 5 1 (.slice y.A y.b.length y.c) y.b.length (u8s y.b)) (B : Option Addr) (hx : a.eval x = .slice B 1 1) (hr : RD w w.heap.size 1 B 1 [y.cell])
    (h63 : n + 1 ≤ 1073741824) (hbase : base ≤ w.heap.size)
    (h : ∀ A' c' w', OF w' base A' c' (L ++ [y]) → Below base w w' → wpList Try.prog ops Q rest (a.put o.dst (.slice A' (n + 1) c')) w') : wpList Try.prog ops Q (o :: rest) a w := by
  obtain ⟨i0, hi0, hz0, hz1, hz2⟩ := info_parts frinfo
  subst hn
  refine wpList_append_kept w hgd s x 22 ho base 28 i0 (.slice none 0 0) 1 24 Try.underlying22 hi0 hz0 hz1 hz2 rfl (by decide) _ L.length (frs L) hs hO.1 w.heap.size B 1 1 [y.cell] hx hr (frs_one [y]) h63 (by decide) hbase fun v' w' h1 h2 h3 => ?_
  obtain ⟨A', c', rfl, -, -, -⟩ := own_slice h1
  refine h A' c' w' ⟨?_, fun q hq => ?_⟩ h2
  · rw [frs_append, List.length_append, List.length_singleton]
    exact h1
  · rcases List.mem_append.1 hq with hq | hq
    · exact fr_kept (hO.2 q hq) (by decide) h3
    · simp only [List.mem_singleton] at hq
      subst hq
      exact fr_kept hy (by decide) h3
theorem fr_row (w : World) (y : FrL) : RD (w.alloc (.cells #[.slice y.A y.b.length y.c] 28)) (w.alloc (.cells #[.slice y.A y.b.length y.c] 28)).heap.size 1 (some ⟨w.heap.size, 0, none⟩) 1 [y.cell] := by
  refine ⟨rfl, fun _ => ⟨_, _, rfl, by rw [World.size_alloc]; omega, fun j u hu => ?_⟩⟩
  rw [Nat.zero_add, World.cell?_alloc_new, ← Array.getElem?_toList]
  exact hu
end Go.Proofs.Ytmkpfdcnikgokaa
