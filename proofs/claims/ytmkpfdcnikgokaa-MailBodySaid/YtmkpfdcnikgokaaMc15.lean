/-
  Texts of this claim, put together: PenClock, CodeGetMath. What each theorem asks stands in its statement.
-/
import Derived.Test.YtmkpfdcnikgokaaMc7
import Derived.Test.YtmkpfdcnikgokaaMc9
import Derived.Test.YtmkpfdcnikgokaaMc11
import Derived.Test.YtmkpfdcnikgokaaMc14
set_option linter.unusedVariables false
set_option linter.unusedSimpArgs false
namespace Go.Proofs.Ytmkpfdcnikgokaa
open Go.RowKit
/-- A clock's numbers. -/
def spNums : Int → List Sp → List Int
  | _, [] => []
  | was, x :: l => (x.1 - was) :: (x.2 - x.1) :: spNums x.2 l
def wasS : Int → List Sp → Int
  | was, [] => was
  | _, x :: l => wasS x.2 l
def tmNums (x : PT) : List Int := x.1 :: (x.2.length : Int) :: spNums 0 x.2
def ckNums (P : List PT) : List Int := (P.length : Int) :: P.flatMap tmNums
theorem spNums_snoc : ∀ (l : List Sp) (was : Int) (x : Sp), spNums was (l ++ [x]) = spNums was l ++ [x.1 - wasS was l, x.2 - x.1]
  | [], _, _ => rfl
  | y :: l, was, x => by simp only [List.cons_append, spNums, wasS, spNums_snoc l y.2 x]
theorem wasS_snoc : ∀ (l : List Sp) (was : Int) (x : Sp), wasS was (l ++ [x]) = x.2
  | [], _, _ => rfl
  | y :: l, was, x => by simp only [List.cons_append, wasS, wasS_snoc l y.2 x]
theorem wasS_take : ∀ (l : List Sp) (was least : Int) (k : Nat) (h : k < l.length), 0 ≤ was → was ≤ least → chainS least l → 0 ≤ wasS was (l.take k) ∧ wasS was (l.take k) ≤ l[k].1
  | x :: l, was, least, 0, _, h0, h1, hc => by
    obtain ⟨c1, c2, c3, c4⟩ := hc
    simp only [List.take_zero, wasS, List.getElem_cons_zero]
    omega
  | x :: l, was, least, k + 1, h, h0, h1, hc => by
    obtain ⟨c1, c2, c3, c4⟩ := hc
    have hk : k < l.length := by simpa using h
    have := wasS_take l x.2 (x.2 + 2) k hk (by omega) (by omega) c4
    simpa only [List.take_succ_cons, wasS, List.getElem_cons_succ] using this
theorem penput_new (base g c q : Nat) (pre : List UInt8) (L : List Int) (cs : Array Value) (hcs : cs = (i64s L).toArray) (w : World) (hq : q = w.heap.size) (hp : PN w base g pre) (hL : ∀ z ∈ L, 0 ≤ z ∧ z ≤ 1099511627776) (hsz : pre.length + 6 * L.length ≤ 1000000000) :
    Calls Try.prog 48 #[.pointer (some ⟨g, 0, none⟩), .slice (some ⟨q, 0, none⟩) L.length c] (w.alloc (.cells cs 3)) fun e w' => e = .returned (.tuple #[]) ∧ PN w' base g (pre ++ nbs L) ∧ Below base w w' ∧ KeptP w w' := by
  subst hcs hq
  have hb := boxed w (.cells (i64s L).toArray 3)
  have h1 := hp.lt
  have h2 := hp.ge
  refine (penput base g w.heap.size c pre L _ (hp.below hb) (heap_alloc_new _ _) hL hsz).mono ?_
  rintro e w' ⟨he, h3, h4, h5⟩
  exact ⟨he, h3, (hb.mono (by omega)).trans h4, (KeptP.below hb).trans h5⟩
set_option maxHeartbeats 6400000 in
set_option maxRecDepth 100000 in
theorem penclock (base g : Nat) (pre : List UInt8) (A : Option Addr) (n c : Nat) (L : List TmL) (w : World) (hp : PN w base g pre) (hr : RT w base A L) (hn : L.length = n) (hok : ∀ x ∈ L, okT x) (hm : mayT (L.map TmL.pt)) (hsz : pre.length ≤ 500000000) :
    Calls Try.prog 49 #[.pointer (some ⟨g, 0, none⟩), .slice A n c] w fun e w' => e = .returned (.tuple #[]) ∧ PN w' base g (pre ++ nbs (ckNums (L.map TmL.pt))) ∧ Below base w w' ∧ KeptP w w' := by
  have hlt := hp.lt
  have hge := hp.ge
  have hn8 : n ≤ 8 := by
    have := chainT_len _ (-1) (by omega) hm
    rw [List.length_map, hn] at this
    rcases this with h | h
    · omega
    · have : (L.map TmL.pt).length = 0 := by rw [h]; rfl
      rw [List.length_map, hn] at this
      omega
  have Hm := hide hm
  have HR := hide hr
  have HP := hide hp
  have Hn := hide hn
  have Hok := hide hok
  clear hm hr hp hn hok
  go_enter Try.func49, Try.ntmps49
  go_wp2_with fail
  refine (penput_new base g 1 _ pre [(n : Int)] _ rfl w rfl HP.out (fun z hz => by simp only [List.mem_singleton] at hz; omega) (by simp only [List.length_singleton]; omega)).mono ?_
  rintro e w2 ⟨rfl, hp2, hb2, hk2⟩
  have hl2 : (pre ++ nbs [(n : Int)]).length ≤ 500000006 := by
    have := nbs_len (L := [(n : Int)]) (fun z hz => by simp only [List.mem_singleton] at hz; omega)
    rw [List.length_append]
    simp only [List.length_singleton] at this
    omega
  have HP2 := hide hp2
  have HK2 := hide hk2
  have Hl2 := hide hl2
  clear hp2 hk2 hl2
  go_wp2_with fail
  go_loopw [16] (fun i wr => ∃ j : Nat, j ≤ n ∧ i = .int .i64 (j : Int) ∧ Hid (PN wr base g (pre ++ nbs ((n : Int) :: ((L.map TmL.pt).take j).flatMap tmNums))) ∧ Hid ((pre ++ nbs ((n : Int) :: ((L.map TmL.pt).take j).flatMap tmNums)).length ≤ 500000006 + 15000 * j) ∧ Below base w wr ∧ Hid (KeptP w wr)) (fun i _ => n - (intOf i).toNat)
  case atStart => exact ⟨0, by omega, rfl, HP2, Hl2, hb2, HK2⟩
  case round =>
    obtain ⟨j, hj, rfl, HPj, Hlj, hb, HK⟩ := hrel
    clear HP2 HK2 Hl2 HP
    obtain ⟨pj, hpj⟩ : ∃ q, q = pre ++ nbs ((n : Int) :: ((L.map TmL.pt).take j).flatMap tmNums) := ⟨_, rfl⟩
    have Hpj := hide hpj
    rw [← hpj] at HPj Hlj
    clear hpj
    by_cases hltn : j < n
    · have z0 : (j : Int) < n := by omega
      have zj : (0 : Int) ≤ j := by omega
      have hltL : j < L.length := by rw [Hn.out]; exact hltn
      obtain ⟨bb, bo, rfl, hB, hCc⟩ := RT.cell (HR.out.below hb) (by omega)
      obtain ⟨d0, d1⟩ := hCc j hltL
      obtain ⟨x, hx⟩ : ∃ x, L[j] = x := ⟨_, rfl⟩
      rw [hx] at d0 d1
      obtain ⟨R, sA, sc, s⟩ := x
      simp only at d0 d1
      have hxm : (⟨R, sA, sc, s⟩ : TmL) ∈ L := by rw [← hx]; exact List.getElem_mem hltL
      obtain ⟨q1, q2, q3, q4⟩ := Hok.out _ hxm
      simp only at q1 q2 q3 q4
      have hall := chainT_all _ _ Hm.out (TmL.pt ⟨R, sA, sc, s⟩) (List.mem_map_of_mem hxm)
      have hs9 : s.length ≤ 1024 := hall.1.1
      have Hch := hide (show chainS 1 s from hall.1.2)
      have HRx := hide (HR.out.2 _ hxm)
      have hR8 : IntKind.i64.wrap R = R := IntWalk.i64_in _ (by omega)
      obtain ⟨w3, hw3, F3, hs3, hb3⟩ := two_pb wr (.int .u8 R) (.slice sA s.length sc) 79
      obtain ⟨y0, y1⟩ := F3.cells
      obtain ⟨gx, hgx⟩ : ∃ q, q = wr.heap.size := ⟨_, rfl⟩
      have Hgx := hide hgx
      have Hs3 := hide (show gx + 1 = w3.heap.size by rw [← hw3, World.size_alloc, hgx])
      have Hw3 := hide hw3
      have HF3 := hide F3
      rw [← hgx] at HF3
      have hHP3 := hide (HPj.out.below hb3)
      have hgxw : base ≤ gx := by
        have := HPj.out.lt
        rw [hgx]
        omega
      have HB3 := hide (hb.trans (hb3.mono (by rw [hgx] at hgxw; exact hgxw)))
      have HK3 := hide (HK.out.trans (KeptP.below hb3))
      have Hnext : Hid (((n : Int) :: ((L.map TmL.pt).take (j + 1)).flatMap tmNums) = ((n : Int) :: ((L.map TmL.pt).take j).flatMap tmNums) ++ [R, (s.length : Int)] ++ spNums 0 s) := hide (by
        rw [List.take_succ_eq_append_getElem (by rw [List.length_map]; exact hltL), List.flatMap_append, List.getElem_map, hx]
        simp [tmNums, TmL.pt])
      clear hCc hx hxm q3 hall F3 HPj HK hb3 hgx hw3
      go_wp2_with fail
      rw [Hw3.out, ← Hgx.out]
      refine (penput_new base g 2 _ pj [R, (s.length : Int)] _ rfl w3 Hs3.out hHP3.out (fun z hz => by simp only [List.mem_cons, List.not_mem_nil, or_false] at hz; omega) (by have := Hlj.out; simp only [List.length_cons, List.length_nil]; omega)).mono ?_
      rintro e w4 ⟨rfl, hp4, hb4, hk4⟩
      have HF4 := hide (hk4 gx _ HF3.out (fun cur e => by simp at e) (fun cur e => by simp at e))
      have HP4 := hide hp4
      have HB4 := hide (HB3.out.trans hb4)
      have HK4 := hide (HK3.out.trans hk4)
      have Hl4 : Hid ((pj ++ nbs [R, (s.length : Int)]).length ≤ 500000018 + 15000 * j) := hide (by
        have := nbs_len (L := [R, (s.length : Int)]) (fun z hz => by simp only [List.mem_cons, List.not_mem_nil, or_false] at hz; omega)
        have := Hlj.out
        simp only [List.length_cons, List.length_nil] at *
        rw [List.length_append]
        omega)
      obtain ⟨v0, v1⟩ := PB.cells HF4.out
      clear hp4 hk4 hHP3 HB3 HK3 HF3 y0 y1
      go_wp2_with fail
      go_loopw [6, 32] (fun v i wr => ∃ k : Nat, k ≤ s.length ∧ i = .int .i64 (k : Int) ∧ v = .int .i64 (wasS 0 (s.take k)) ∧ Hid (PN wr base g (pj ++ nbs ([R, (s.length : Int)] ++ spNums 0 (s.take k)))) ∧ Hid ((pj ++ nbs ([R, (s.length : Int)] ++ spNums 0 (s.take k))).length ≤ 500000018 + 15000 * j + 12 * k) ∧ Hid (PB wr gx (.int .u8 R) (.slice sA s.length sc) 79) ∧ Below base w wr ∧ Hid (KeptP w wr)) (fun _ i _ => s.length - (intOf i).toNat)
      case atStart => exact ⟨0, by omega, rfl, rfl, HP4, Hl4, HF4, HB4.out, HK4⟩
      case round =>
        obtain ⟨k, hk, rfl, rfl, HPk, Hlk, HFk, hbk, HKk⟩ := hrel
        clear HP4 HK4 Hl4 HF4 v0 v1 HB4
        obtain ⟨pk, hpk⟩ : ∃ q, q = pj ++ nbs ([R, (s.length : Int)] ++ spNums 0 (s.take k)) := ⟨_, rfl⟩
        have Hpk := hide hpk
        rw [← hpk] at HPk Hlk
        clear hpk
        obtain ⟨was, hwas⟩ : ∃ q, q = wasS 0 (s.take k) := ⟨_, rfl⟩
        have Hwas := hide hwas
        rw [← hwas]
        by_cases hlk : k < s.length
        · have z1 : (k : Int) < s.length := by omega
          have zk : (0 : Int) ≤ k := by omega
          obtain ⟨b2, o2, rfl, hB2, hC2⟩ := RS.cell (RD.below HRx.out hbk) (by omega)
          obtain ⟨e0, e1⟩ := hC2 k hlk
          obtain ⟨wa0, wa1⟩ := wasS_take s 0 1 k hlk (by omega) (by omega) Hch.out
          obtain ⟨ch1, ch2, ch3⟩ := chainS_at s 1 k hlk Hch.out
          rw [← hwas] at wa0 wa1
          obtain ⟨a, ha⟩ : ∃ q, q = s[k].1 := ⟨_, rfl⟩
          obtain ⟨b, hb9⟩ : ∃ q, q = s[k].2 := ⟨_, rfl⟩
          rw [← ha] at e0 wa1 ch1 ch3
          rw [← hb9] at e1 ch1 ch2
          have Hab := hide (show s[k] = (a, b) by rw [ha, hb9])
          obtain ⟨w5, hw5, F5, hs5, hb5⟩ := two_pb wr (.int .u32 a) (.int .u32 b) 76
          obtain ⟨t0, t1⟩ := F5.cells
          have u1 : IntKind.i64.wrap a = a := IntWalk.i64_in _ (by omega)
          have u2 : IntKind.i64.wrap b = b := IntWalk.i64_in _ (by omega)
          have u3 : IntKind.i64.wrap (a - was) = a - was := IntWalk.i64_in _ (by omega)
          have u4 : IntKind.u32.wrap (b - a) = b - a := IntWalk.u32_in _ (by omega)
          have u5 : IntKind.i64.wrap (b - a) = b - a := IntWalk.i64_in _ (by omega)
          obtain ⟨gs, hgs⟩ : ∃ q, q = wr.heap.size := ⟨_, rfl⟩
          have Hgs := hide hgs
          have Hs5 := hide (show gs + 1 = w5.heap.size by rw [← hw5, World.size_alloc, hgs])
          have Hw5 := hide hw5
          have HF5 := hide F5
          rw [← hgs] at HF5
          have HP5 := hide (HPk.out.below hb5)
          have hgsw : base ≤ gs := by
            have := HPk.out.lt
            rw [hgs]
            omega
          have HB5 := hide (hbk.trans (hb5.mono (by rw [hgs] at hgsw; exact hgsw)))
          have HK5 := hide (HKk.out.trans (KeptP.below hb5))
          have HFx5 := hide (HFk.out.below hb5)
          clear hC2 ha hb9 F5 hb5 hgs hw5 hwas HPk HKk HFk
          go_wp2_with fail
          rw [Hw5.out, ← Hgs.out]
          refine (penput_new base g 2 _ pk [a - was, b - a] _ rfl w5 Hs5.out HP5.out (fun z hz => by simp only [List.mem_cons, List.not_mem_nil, or_false] at hz; omega) (by have := Hlk.out; simp only [List.length_cons, List.length_nil]; omega)).mono ?_
          rintro e w6 ⟨rfl, hp6, hb6, hk6⟩
          have HF6 := hide (hk6 gs _ HF5.out (fun cur e => by simp at e) (fun cur e => by simp at e))
          have HFx6 := hide (hk6 gx _ HFx5.out (fun cur e => by simp at e) (fun cur e => by simp at e))
          have HP6 := hide hp6
          have HB6 := hide (HB5.out.trans hb6)
          have HK6 := hide (HK5.out.trans hk6)
          have Hl6 : Hid ((pk ++ nbs [a - was, b - a]).length ≤ 500000018 + 15000 * j + 12 * (k + 1)) := hide (by
            have := nbs_len (L := [a - was, b - a]) (fun z hz => by simp only [List.mem_cons, List.not_mem_nil, or_false] at hz; omega)
            have := Hlk.out
            simp only [List.length_cons, List.length_nil] at *
            rw [List.length_append]
            omega)
          have Hnx := hide (show pk ++ nbs [a - was, b - a] = pj ++ nbs ([R, (s.length : Int)] ++ spNums 0 (s.take (k + 1))) by
            rw [List.take_succ_eq_append_getElem hlk, Hab.out, spNums_snoc, ← Hwas.out, Hpk.out, List.append_assoc, ← nbs_append, List.append_assoc])
          have Hwn := hide (show wasS 0 (s.take (k + 1)) = b by rw [List.take_succ_eq_append_getElem hlk, Hab.out, wasS_snoc])
          obtain ⟨v0, v1⟩ := PB.cells HF6.out
          clear hp6 hk6 HP5 HB5 HK5 HF5 HFx5 t0 t1 e0 e1
          go_wp2_with fail
          go_roundw
          case rel =>
            refine ⟨k + 1, by omega, by go_num, by rw [Hwn.out], ?_, ?_, HFx6, HB6.out, HK6⟩
            · rw [← Hnx.out]; exact HP6
            · rw [← Hnx.out]; exact Hl6
          case measure => simp [intOf]; omega
        · obtain rfl : k = s.length := by omega
          have z1 : ¬ (s.length : Int) < s.length := by omega
          have Hfin := hide (show pk = pre ++ nbs ((n : Int) :: ((L.map TmL.pt).take (j + 1)).flatMap tmNums) by
            rw [Hpk.out, Hnext.out, Hpj.out, List.take_of_length_le (Nat.le_refl _), List.append_assoc, ← nbs_append, List.append_assoc])
          go_wp2_with fail
          go_roundw
          case rel =>
            refine ⟨j + 1, by omega, by go_num, ?_, ?_, hbk, HKk⟩
            · rw [← Hfin.out]; exact HPk
            · rw [← Hfin.out]; exact hide (by have := Hlk.out; omega)
          case measure => simp [intOf]; omega
    · obtain rfl : j = n := by omega
      have z0 : ¬ (j : Int) < j := by omega
      have Hfin := hide (show pj = pre ++ nbs (ckNums (L.map TmL.pt)) by
        rw [Hpj.out, List.take_of_length_le (by rw [List.length_map]; exact Nat.le_of_eq Hn.out)]
        unfold ckNums
        rw [List.length_map, Hn.out])
      rw [Hfin.out] at HPj
      go_wp2_with fail
      exact bodyPost_end (v := .tuple #[]) (by simp [results, Try.results49, go_sem]) rfl ⟨rfl, HPj.out, hb, HK.out⟩
end Go.Proofs.Ytmkpfdcnikgokaa
namespace Go.Proofs.Ytmkpfdcnikgokaa
open Go.RowKit
/-- next, whether something was wrong or not. -/
theorem next_any (A : Option Addr) (b : List UInt8) (n c g a : Nat) (bad : Bool) (lo hi : Int) (w : World) (h : RDR w g A n c a bad) (hr : RB w w.heap.size A b) (hn : b.length = n) (hl : n < 1073741824) (ha : a ≤ n) (hc : n ≤ c) (hA : A = none → c = 0) (hlh : lo ≤ hi) :
    Calls Try.prog 82 #[.pointer (some ⟨g, 0, none⟩), .int .i64 lo, .int .i64 hi] w fun e w' => ∃ x a' bd, e = .returned (.int .i64 x) ∧ RDR w' g A n c a' bd ∧ OnlyAt g w w' ∧ a' ≤ n ∧ lo ≤ x ∧ x ≤ hi ∧
      (bad = false → ∀ y q, nxt b a lo hi = some (y, q) → x = y ∧ a' = q ∧ bd = false) ∧ (bad = false → nxt b a lo hi = none → bd = true) ∧ (bad = true → bd = true) := by
  cases bad with
  | true =>
    refine (next_bad A n c g a lo hi w h).mono ?_
    rintro e w' ⟨rfl, rfl⟩
    exact ⟨lo, a, true, rfl, h, OnlyAt.refl _ _, ha, Int.le_refl _, hlh, fun e => (by cases e), fun e => (by cases e), fun _ => rfl⟩
  | false =>
    refine (next_ok A b n c g a lo hi w h hr hn hl ha hc hA).mono ?_
    rintro e w' ⟨x, a', bd, he, h1, h2, h3, h4, h5⟩
    have hx : lo ≤ x ∧ x ≤ hi := by
      cases hq : nxt b a lo hi with
      | none =>
        rw [(h5 hq).1]
        exact ⟨Int.le_refl _, hlh⟩
      | some q =>
        obtain ⟨y, q⟩ := q
        rw [(h4 y q hq).1]
        exact ⟨(nxt_inv hq).1, (nxt_inv hq).2.1⟩
    exact ⟨x, a', bd, he, h1, h2, h3, hx.1, hx.2, fun _ => h4, fun _ h => (h5 h).2, fun e => (by cases e)⟩
/-- What is known of an answer, with one number more read. -/
theorem read_step {α : Type} {G : Option α} {b : List UInt8} {a a' : Nat} {lo hi x : Int} {bd bd' : Bool} {K : Int × Nat → Option α} (h1 : bd = false → G = (nxt b a lo hi).bind K) (h2 : bd = true → G = none)
    (hs : bd = false → ∀ y q, nxt b a lo hi = some (y, q) → x = y ∧ a' = q ∧ bd' = false) (hn : bd = false → nxt b a lo hi = none → bd' = true) (hb : bd = true → bd' = true) : (bd' = false → G = K (x, a')) ∧ (bd' = true → G = none) := by
  cases bd with
  | true =>
    have := hb rfl
    subst this
    exact ⟨fun e => (by cases e), fun _ => h2 rfl⟩
  | false =>
    have h1 := h1 rfl
    cases hq : nxt b a lo hi with
    | none =>
      have := hn rfl hq
      subst this
      rw [hq] at h1
      exact ⟨fun e => (by cases e), fun _ => h1⟩
    | some q =>
      obtain ⟨y, q⟩ := q
      obtain ⟨rfl, rfl, rfl⟩ := hs rfl y q hq
      rw [hq] at h1
      exact ⟨fun _ => h1, fun e => (by cases e)⟩
/-- The end of reading: is it an operation? -/
def finP (o : Rd) : Option Rd := if mayO o.1 o.2.1 o.2.2.1 o.2.2.2.1 o.2.2.2.2.1 then some o else none
theorem getP_start (b : List UInt8) : getP b = (nxt b 0 1 4).bind fun k => (nxt b k.2 1 64).bind fun m => (rdRuns b m.1.toNat m.2 0).bind fun q => (rdTail b k.1 q.1 q.2.1 q.2.2).bind finP := rfl
/-- What is known before a run is read. -/
theorem run_start {b : List UInt8} {m a : Nat} {was : Int} {k : Int} {p : List Rn} :
    ((rdRuns b (m + 1) a was).bind fun q => (rdTail b k (p ++ q.1) q.2.1 q.2.2).bind finP) =
      (nxt b a 1 1073741824).bind fun d => (nxt b d.2 0 7).bind fun r => (nxt b r.2 1 4096).bind fun mm =>
        if 1073741824 < was + d.1 + mm.1 - 1 then none else (rdRuns b m mm.2 (was + d.1 + mm.1 - 1)).bind fun q => (rdTail b k ((p ++ [(was + d.1, r.1, mm.1)]) ++ q.1) q.2.1 q.2.2).bind finP := by
  simp only [rdRuns, Option.bind_assoc]
  congr 1
  funext d
  congr 1
  funext r
  congr 1
  funext mm
  split
  · rfl
  · rw [Option.bind_map]
    congr 1
    funext q
    simp
/-- An answer, as its parts. -/
def outP : Option Rd → Int × Int × Int × List Rn × Int × Nat × Int
  | some (k, t, r, p, z, n) => (k, t, r, p, z, n, 0)
  | none => (0, 0, 0, [], 0, 0, 8)
theorem own_only {w w' : World} {base g n c at' size k : Nat} {A : Option Addr} {bad : Bool} {v : Value} {L : List Value} (h : w.ownsRow base 123 size v k L) (hR : RDR w g A n c at' bad) (ho : OnlyAt g w w') : w'.ownsRow base 123 size v k L := by
  refine ⟨h.1, ?_⟩
  rcases h.2 with h0 | ⟨q, cap, cur, h1, h2, h3, h4⟩
  · exact .inl h0
  · have hne : q ≠ g := by
      intro e
      unfold RDR at hR
      rw [← e, h3] at hR
      simp at hR
    exact .inr ⟨q, cap, cur, h1, h2, (ho.2 q hne (Array.getElem?_eq_some_iff.1 h3).1).trans h3, h4⟩
theorem RDR.kept {w w' : World} {g n c at' : Nat} {A : Option Addr} {bad : Bool} (h : RDR w g A n c at' bad) (hk : ∀ (b : Nat) (o : Obj), w.heap[b]? = some o → (∀ cur, o ≠ .cells cur 123 (0, 0)) → w'.heap[b]? = some o) : RDR w' g A n c at' bad := hk g _ h (fun cur e => by simp at e)
theorem FB.keptR {w w' : World} {g : Nat} {k t r s z : Value} (h : FB w g k t r s z) (hk : ∀ (b : Nat) (o : Obj), w.heap[b]? = some o → (∀ cur, o ≠ .cells cur 123 (0, 0)) → w'.heap[b]? = some o) : FB w' g k t r s z := hk g _ h (fun cur e => by simp at e)
theorem FB.set0 {w : World} {g : Nat} {k t r s z : Value} (h : FB w g k t r s z) (v : Value) : FB (w.setCell ⟨g, 0, none⟩ v) g v t r s z := heap_setCell_same _ _ _ _ _ _ h
theorem FB.set12 {w : World} {g : Nat} {k t r s z : Value} (h : FB w g k t r s z) (u v : Value) : FB ((w.setCell ⟨g, 1, none⟩ u).setCell ⟨g, 2, none⟩ v) g k u v s z := heap_setCell_same _ _ _ _ _ _ (heap_setCell_same _ _ _ _ _ _ h)
theorem RDR.other {w : World} {g n c at' : Nat} {A : Option Addr} {bad : Bool} (h : RDR w g A n c at' bad) {g' : Nat} (hne : g ≠ g') (off : Nat) (v : Value) : RDR (w.setCell ⟨g', off, none⟩ v) g A n c at' bad := (heap_setCell_other _ _ _ _ hne).trans h
theorem own_set {w : World} {base g size n : Nat} {v : Value} {L : List Value} {k t r s z : Value} (h : w.ownsRow base 123 size v n L) (hF : FB w g k t r s z) (off : Nat) (u : Value) : (w.setCell ⟨g, off, none⟩ u).ownsRow base 123 size v n L := by
  refine ⟨h.1, ?_⟩
  rcases h.2 with h0 | ⟨q, cap, cur, h1, h2, h3, h4⟩
  · exact .inl h0
  · have hne : q ≠ g := by
      intro e
      unfold FB at hF
      rw [← e, h3] at hF
      simp at hF
    exact .inr ⟨q, cap, cur, h1, h2, (heap_setCell_other _ _ _ _ hne).trans h3, h4⟩
theorem own_put5 {w : World} {base g size n : Nat} {v : Value} {L : List Value} {k t r s z k' t' r' s' z' : Value} (h : w.ownsRow base 123 size v n L) (hF : FB w g k t r s z) : (put5 w g k' t' r' s' z').ownsRow base 123 size v n L := by
  refine ⟨h.1, ?_⟩
  rcases h.2 with h0 | ⟨q, cap, cur, h1, h2, h3, h4⟩
  · exact .inl h0
  · have hne : q ≠ g := by
      intro e
      unfold FB at hF
      rw [← e, h3] at hF
      simp at hF
    exact .inr ⟨q, cap, cur, h1, h2, (put5_other hne).trans h3, h4⟩
theorem own_set2 {w : World} {base g size n : Nat} {v : Value} {L : List Value} {k t r s z : Value} (h : w.ownsRow base 123 size v n L) (hF : FB w g k t r s z) (x y : Value) : ((w.setCell ⟨g, 1, none⟩ x).setCell ⟨g, 2, none⟩ y).ownsRow base 123 size v n L := by
  have h1 : FB (w.setCell ⟨g, 1, none⟩ x) g k x r s z := heap_setCell_same _ _ _ _ _ _ hF
  exact own_set (own_set h hF 1 x) h1 2 y
end Go.Proofs.Ytmkpfdcnikgokaa
