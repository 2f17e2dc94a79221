/-
  What octavoref03 does: Framed, Wrap, Open: the same frames. Condition: fewer than 30,000 bytes.
-/
import Derived.Test.YtmekoenmaiekfaaFrameAlive
import Derived.Test.YtmekoenmaiekfaaCrcTells
import Derived.Test.YtmekoenmaiekfaaNumRef
namespace Go.Proofs.Ytmekoenmaiekfaa
open Go.RowKit

theorem shut_bytes (t : List UInt8) (sv : Nat) (h : sv = (smT tb t).toNat) : u8s (shut4 t) = u8s t ++ [.int .u8 ((sv : Int) % 256), .int .u8 ((sv : Int) / 256 % 256), .int .u8 ((sv : Int) / 65536 % 256), .int .u8 ((sv : Int) / 16777216)] := by
  have hs : sv < 2 ^ 32 := h ▸ (smT tb t).isLt
  have e : ∀ k, (byteOf (sm t) k).toNat = sv / 256 ^ k % 256 := fun k => by
    unfold byteOf
    rw [UInt8.toNat_ofNat']
    show (smT tb t).toNat / 256 ^ k % 256 % 2 ^ 8 = _
    rw [← h]
    omega
  rw [shut4, u8s_append]
  congr 1
  simp only [u8s, List.map_cons, List.map_nil, e]
  have x0 : ((sv / 256 ^ 0 % 256 : Nat) : Int) = (sv : Int) % 256 := by omega
  have x1 : ((sv / 256 ^ 1 % 256 : Nat) : Int) = (sv : Int) / 256 % 256 := by omega
  have x2 : ((sv / 256 ^ 2 % 256 : Nat) : Int) = (sv : Int) / 65536 % 256 := by omega
  have x3 : ((sv / 256 ^ 3 % 256 : Nat) : Int) = (sv : Int) / 16777216 := by omega
  rw [x0, x1, x2, x3]
theorem row_all (w : World) (cs : Array Value) (e : TypeId) : RD (w.alloc (.cells cs e)) (w.alloc (.cells cs e)).heap.size 1 (some ⟨w.heap.size, 0, none⟩) cs.size cs.toList := by
  refine ⟨by simp, fun _ => ⟨_, _, rfl, by rw [World.size_alloc]; omega, fun j u hu => ?_⟩⟩
  rw [Nat.zero_add, World.cell?_alloc_new]
  rwa [Array.getElem?_toList] at hu

set_option maxHeartbeats 800000 in
set_option maxRecDepth 100000 in
theorem framed_ok (A : Option Addr) (n c : Nat) (l : List UInt8) (w : World) (hr : RB w w.heap.size A l) (hn : l.length = n) (h : n < 30000) :
    Calls Try.prog 44 #[.slice A n c] w fun e w' => ∃ v, e = .returned v ∧ w'.ownsRow w.heap.size 5 1 v (frm l).length (u8s (frm l)) ∧ Below w.heap.size w w' := by
  subst hn
  obtain ⟨i0, hi0, hz0, hz1, hz2⟩ := info_parts u8info
  have C := hide (fun w => refbytes_ok l.length w (by omega))
  have hsix := nb_six (n := l.length) (by omega)
  have hpos := nb_pos l.length
  go_enter Try.func44, Try.ntmps44
  go_wp2_with fail
  refine (unhide C _).mono ?_
  rintro e w1 ⟨v1, rfl, hown1, hb1⟩
  have hown0 : (w.alloc (.cells #[.int .u8 70] 5)).ownsRow w.heap.size 5 1 (.slice (some ⟨w.heap.size, 0, none⟩) 1 1) 1 (u8s [70]) := World.ownsRow_lit w _ 1 (Nat.le_refl _) (by decide) rfl
  have hown0' := own_below hown0 hb1 (Nat.le_refl _)
  obtain ⟨A1, c1, rfl, -, -, -⟩ := own_slice hown1
  have hr1 : RB w1 w1.heap.size A1 (nb l.length) := RD.of_own hown1
  have hbw1 := below_alloc _ _ _ hb1
  have hs1 := hbw1.size
  clear hown0 hown1 C hb1
  go_wp2_with (first
    | (at_builtin; refine wpList_append_src _ rfl (.tmp 6) (.tmp 9) 23 rfl w.heap.size 5 i0 (.int .u8 0) 1 1 Try.underlying23 hi0 hz0 hz1 hz2 rfl (by decide) _ _ _ rfl hown0' _ A1 (nb l.length).length c1 (u8s (nb l.length)) rfl hr1 (u8s_one _) (by omega) (by decide) hs1 ?_; intro v2 w2 hown2 hb2; have hrl2 := RD.below (RD.below hr hbw1) hb2; have hs2 := Nat.le_trans hs1 hb2.size; have hsz : 1 + (nb l.length).length + l.length ≤ 1073741824 := (by omega))
    | (at_builtin; refine wpList_append_src _ rfl (.tmp 11) (.tmp 12) 23 rfl w.heap.size 5 i0 (.int .u8 0) 1 1 Try.underlying23 hi0 hz0 hz1 hz2 rfl (by decide) _ _ _ rfl hown2 w.heap.size A l.length c (u8s l) rfl hrl2 (u8s_one _) hsz (by decide) hs2 ?_; intro v3 w3 hown3 hb3))
  have e3 : u8s [70] ++ u8s (nb l.length) ++ u8s l = u8s (head l) := by simp [head, u8s]
  rw [e3, ← head_len l] at hown3
  have hh := head_len l
  obtain ⟨A3, c3, rfl, -, -, -⟩ := own_slice hown3
  have hbw3 := hbw1.trans (hb2.trans hb3)
  have hh2 : (head l).length ≤ 30007 := by omega
  clear e3 hown2 hown0' hrl2 hs2 hsz hb2 hb3 hr1 hr hh hsix hpos
  refine (plain_tb A3 c3 (head l) w3 (RD.of_own hown3) (by omega)).mono ?_
  rintro e w4 ⟨rfl, hb4⟩
  have hown4 := own_below hown3 hb4 (Nat.le_refl _)
  have hbw4 := fresh hbw3 hb4
  have hs4 := hbw4.size
  have hsm := (smT tb (head l)).isLt
  obtain ⟨sv, hsv⟩ : ∃ sv : Nat, sv = (smT tb (head l)).toNat := ⟨_, rfl⟩
  rw [← hsv] at hsm ⊢
  have Hsv := hide hsv
  clear hsv hown3 hb4 hbw3 hbw1 hs1
  go_wp2_with (at_builtin; refine wpList_append_src _ rfl (.tmp 16) (.tmp 31) 23 rfl w.heap.size 5 i0 (.int .u8 0) 1 1 Try.underlying23 hi0 hz0 hz1 hz2 rfl (by decide) _ _ _ rfl (hown4.alloc _) _ (some ⟨w4.heap.size, 0, none⟩) 4 4 _ rfl (row_all w4 _ _) (by intro u hu; simp at hu; rcases hu with rfl | rfl | rfl | rfl <;> rfl) (by omega) (by decide) (by rw [World.size_alloc]; omega) ?_; intro v5 w5 hown5 hb5)
  go_ret
  refine ⟨v5, rfl, ?_, hbw4.trans (((Below.refl w.heap.size w4).alloc hs4 _).trans hb5)⟩
  have e1 : (frm l).length = (head l).length + 4 := shut4_len _
  have e2 : u8s (frm l) = _ := shut_bytes (head l) sv Hsv.out
  rw [e1, e2]
  exact hown5

theorem refwrap_many (A : Option Addr) (c : Nat) (l : List UInt8) (w : World) (h : (16384 : Int) < (l.length : Int)) :
    Calls Try.prog 35 #[.slice A l.length c] w fun e w' => e = .returned (.tuple #[.slice none 0 0, .int .i64 4]) ∧ w = w' := by
  go_enter Try.func35, Try.ntmps35
  go_wp2_with fail
  go_ret2
  exact ⟨rfl, rfl⟩

theorem refwrap_ok (A : Option Addr) (c : Nat) (l : List UInt8) (w : World) (hr : RB w w.heap.size A l) (h : l.length ≤ 16384) :
    Calls Try.prog 35 #[.slice A l.length c] w fun e w' => ∃ v, e = .returned (.tuple #[v, .int .i64 0]) ∧ w'.ownsRow w.heap.size 5 1 v (frm l).length (u8s (frm l)) ∧ Below w.heap.size w w' := by
  have h' : (l.length : Int) ≤ 16384 := by omega
  go_enter Try.func35, Try.ntmps35
  go_wp2_with fail
  refine (framed_ok A l.length c l w hr rfl (by omega)).mono ?_
  rintro e w1 ⟨v1, rfl, hown1, hb1⟩
  go_wp2_with fail
  go_ret2
  exact ⟨_, rfl, hown1, hb1⟩
end Go.Proofs.Ytmekoenmaiekfaa
