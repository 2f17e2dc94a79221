/-
  Texts of this claim, put together: StampMath, IdBase, PlaceMath, PlaceBase. What each theorem asks stands in its statement.
-/
import Derived.Test.YtmkpfdcnikgokaaGreatRows
import Derived.Test.YtmkpfdcnikgokaaGreatLt1
import Derived.Test.YtmkpfdcnikgokaaGreatLt4
set_option linter.unusedVariables false
set_option linter.unusedSimpArgs false
set_option maxRecDepth 100000
set_option maxHeartbeats 25600000
namespace Go.Proofs.YtmkpfdcnikgokaaGreat
open Ieee
/-- The word of a difference of two whole numbers. -/
def dfv (a b:Nat):Nat:=if b≤a then fv (a - b) else double.word true (rungOf (b - a))
theorem diff_scale (a b s t:Nat):∃ r:Nat,Datum.sum (.number false (a * 2 ^ s) (-(s:Int))) (Datum.opposite (.number false (b * 2 ^ t) (-(t:Int))))=some (if b≤a then .number false ((a - b) * 2 ^ r) (-(r:Int)) else .number true ((b - a) * 2 ^ r) (-(r:Int))):=by
 refine⟨max s t,?_⟩
 have hb:min (-(s:Int)) (-(t:Int))=-((max s t:Nat):Int):=by omega
 have e1:(-(s:Int) - -((max s t:Nat):Int)).toNat=max s t - s:=by omega
 have e2:(-(t:Int) - -((max s t:Nat):Int)).toNat=max s t - t:=by omega
 have k1:a * 2 ^ s * 2 ^ (max s t - s)=a * 2 ^ (max s t):=by rw [Nat.mul_assoc,←Nat.pow_add];congr 2;omega
 have k2:b * 2 ^ t * 2 ^ (max s t - t)=b * 2 ^ (max s t):=by rw [Nat.mul_assoc,←Nat.pow_add];congr 2;omega
 have tot:signed false (a * 2 ^ s) (max s t - s)+signed (!false) (b * 2 ^ t) (max s t - t)=((a * 2 ^ (max s t):Nat):Int) - ((b * 2 ^ (max s t):Nat):Int):=by
  unfold signed
  rw [Nat.shiftLeft_eq,Nat.shiftLeft_eq,k1,k2]
  simp
  omega
 unfold Datum.opposite Datum.sum
 simp only [hb,e1,e2,tot]
 have hp:=Nat.two_pow_pos (max s t)
 by_cases h:b≤a
 ·have hm:b * 2 ^ (max s t)≤a * 2 ^ (max s t):=Nat.mul_le_mul_right _ h
  have hx:((a * 2 ^ (max s t):Nat):Int) - ((b * 2 ^ (max s t):Nat):Int)=(((a - b) * 2 ^ (max s t):Nat):Int):=by rw [Nat.sub_mul];omega
  rw [hx,if_pos h]
  generalize (a - b) * 2 ^ (max s t)=x
  have hn:decide ((x:Int) < 0)=false:=by simp
  rw [hn,Int.natAbs_natCast]
  split <;> rfl
 ·have hm:a * 2 ^ (max s t) < b * 2 ^ (max s t):=Nat.mul_lt_mul_of_pos_right (by omega) hp
  have hx:((a * 2 ^ (max s t):Nat):Int) - ((b * 2 ^ (max s t):Nat):Int)=-(((b - a) * 2 ^ (max s t):Nat):Int):=by rw [Nat.sub_mul];omega
  have hpos:0 < (b - a) * 2 ^ (max s t):=Nat.mul_pos (by omega) hp
  rw [hx,if_neg h]
  generalize (b - a) * 2 ^ (max s t)=x at hpos
  have hn:decide (-(x:Int) < 0)=true:=by simp;omega
  rw [hn,Int.natAbs_neg,Int.natAbs_natCast,if_neg (by omega)]
theorem sub_fv (a b:Nat) (ha:a < 2 ^ 53) (hb:b < 2 ^ 53):floatBits .sub .f64 (fv a) (fv b)=some (dfv a b):=by
 obtain⟨s,hs⟩:=read_fv a ha
 obtain⟨t,ht⟩:=read_fv b hb
 show double.sub (fv a) (fv b)=_
 unfold Format.sub
 rw [hs,ht]
 obtain⟨r,hr⟩:=diff_scale a b s t
 rw [hr]
 unfold dfv
 by_cases h:b≤a
 ·rw [if_pos h,if_pos h]
  exact congrArg some (write_scale (a - b) r (by omega))
 ·rw [if_neg h,if_neg h]
  exact congrArg some (nearest_scale true (b - a) r (by omega) (by omega))
theorem order_pos (m:Nat) (i j:Int) (h:0 < m):Datum.order (.number false m i) (.number false 0 j)=some .gt:=by
 unfold Datum.order signed
 simp only [Bool.false_eq_true,if_false,Nat.shiftLeft_eq]
 have:0 < m * 2 ^ (i - min i j).toNat:=Nat.mul_pos h (Nat.two_pow_pos _)
 generalize m * 2 ^ (i - min i j).toNat=x at this
 congr 1
 simp only [compare,compareOfLessAndEq]
 rw [if_neg (by omega),if_neg (by omega)]
theorem order_zero (i j:Int):Datum.order (.number false 0 i) (.number false 0 j)=some .eq:=by
 unfold Datum.order signed
 simp only [Bool.false_eq_true,if_false,Nat.zero_shiftLeft]
 rfl
theorem order_neg (m:Nat) (i j:Int) (h:0 < m):Datum.order (.number true m i) (.number false 0 j)=some .lt:=by
 unfold Datum.order signed
 simp only [Bool.false_eq_true,if_false,if_true,Nat.shiftLeft_eq]
 have:0 < m * 2 ^ (i - min i j).toNat:=Nat.mul_pos h (Nat.two_pow_pos _)
 generalize m * 2 ^ (i - min i j).toNat=x at this
 congr 1
 simp only [compare,compareOfLessAndEq]
 rw [if_pos (by omega)]
theorem dfv_gt (a b:Nat) (ha:a < 2 ^ 53) (h:b < a):FloatKind.f64.format.order (dfv a b) 0=some .gt:=by
 show (double.read (dfv a b)).order (double.read 0)=_
 unfold dfv
 rw [if_pos (by omega),read_zero]
 obtain⟨s,hs⟩:=read_fv (a - b) (by omega)
 rw [hs]
 exact order_pos _ _ _ (Nat.mul_pos (by omega) (Nat.two_pow_pos _))
theorem dfv_eq (a:Nat):FloatKind.f64.format.order (dfv a a) 0=some .eq:=by
 show (double.read (dfv a a)).order (double.read 0)=_
 unfold dfv
 rw [if_pos (Nat.le_refl _),Nat.sub_self,fv_zero,read_zero]
 exact order_zero _ _
theorem dfv_lt (a b:Nat) (hb:b < 2 ^ 53) (h:a < b):FloatKind.f64.format.order (dfv a b) 0=some .lt:=by
 show (double.read (dfv a b)).order (double.read 0)=_
 unfold dfv
 rw [if_neg (by omega),read_zero,read_word true (b - a) (by omega) (by omega)]
 exact order_neg _ _ _ (Nat.mul_pos (by omega) (Nat.two_pow_pos _))
theorem sub_pair (a b c d:Nat) (ha:a < 2 ^ 53) (hb:b < 2 ^ 53) (hc:c < 2 ^ 53) (hd:d < 2 ^ 53):cSumBits .sub .f64 (fv a) (fv b) (fv c) (fv d)=some (dfv a c,dfv b d):=by
 unfold cSumBits
 rw [sub_fv a c ha hc,sub_fv b d hb hd]
 rfl
end Go.Proofs.YtmkpfdcnikgokaaGreat
namespace Go.Proofs.YtmkpfdcnikgokaaGreat
open Go.RowKit
theorem boxed (w:World) (o:Obj):Below w.heap.size w (w.alloc o):=(Below.refl _ _).alloc (Nat.le_refl _) _
theorem at_ok (t r:Int) (w:World) (h0:0≤t) (g0:0≤r):
 Calls Tryz.prog 187 #[.agg #[.int .u32 t,.int .u8 r]] w fun e w'=>e= .returned (.complex .f64 (fv t.toNat) (fv r.toNat))∧Below w.heap.size w w':=by
 have e1:=hide (show floatOfInt .f64 t=fv t.toNat by unfold fv;rw [Int.toNat_of_nonneg h0])
 have e2:=hide (show floatOfInt .f64 r=fv r.toNat by unfold fv;rw [Int.toNat_of_nonneg g0])
 go_enter Tryz.func187,Tryz.ntmps187
 go_wp2_with fail
 go_ret
 refine⟨?_,boxed _ _⟩
 show Ending.returned (Value.complex .f64 (floatOfInt .f64 t) (floatOfInt .f64 r))=_
 rw [e1.out,e2.out]
/-- Which of two stamps is less. -/
def lessB (t r t' r':Int):Bool:=decide (t < t'∨t=t'∧r < r')
/-- Two boxes, one behind the other. -/
theorem two_boxes (w:World) (a b c d:Value) (T T':TypeId):∃ w2,(w.alloc (.cells #[a,b] T)).alloc (.cells #[c,d] T')=w2∧w2.cell? ⟨w.heap.size,0,none⟩=some a∧w2.cell? ⟨w.heap.size,1,none⟩=some b∧w2.cell? ⟨w.heap.size+1,0,none⟩=some c∧w2.cell? ⟨w.heap.size+1,1,none⟩=some d∧w.heap.size+1 < w2.heap.size∧Below w.heap.size w w2:=by
 refine⟨_,rfl,?_,?_,?_,?_,?_,(boxed _ _).trans ((boxed _ _).mono (by simp))⟩
 ·rw [World.cell?_alloc_lt _ _ _ (by simp),World.cell?_alloc_new];rfl
 ·rw [World.cell?_alloc_lt _ _ _ (by simp),World.cell?_alloc_new];rfl
 ·simp
 ·simp
 ·simp
/-- The bits of 'real', 'imag' of a difference, and what the tests on them answer. -/
theorem df_cases (a b:Int) (h0:0≤a) (h1:a < 4294967296) (g0:0≤b) (g1:b < 4294967296):
 ((FloatKind.f64.format.order (dfv b.toNat a.toNat) 0 == some .gt)=decide (a < b))∧((FloatKind.f64.format.order (dfv b.toNat a.toNat) 0 == some .eq)=decide (a=b)):=by
 rcases Int.lt_trichotomy a b with h | h | h
 ·rw [dfv_gt _ _ (by omega) (by omega)]
  exact⟨by rw [decide_eq_true h];rfl,by rw [decide_eq_false (by omega)];rfl⟩
 ·subst h
  rw [dfv_eq]
  exact⟨by rw [decide_eq_false (by omega)];rfl,by rw [decide_eq_true rfl];rfl⟩
 ·rw [dfv_lt _ _ (by omega) (by omega)]
  exact⟨by rw [decide_eq_false (by omega)];rfl,by rw [decide_eq_false (by omega)];rfl⟩
theorem less_any (t r t' r':Int) (w:World) (h0:0≤t) (h1:t < 4294967296) (g0:0≤r) (g1:r < 256) (h0':0≤t') (h1':t' < 4294967296) (g0':0≤r') (g1':r' < 256):
 Calls Tryz.prog 174 #[.agg #[.int .u32 t,.int .u8 r],.agg #[.int .u32 t',.int .u8 r']] w fun e w'=>e= .returned (.bool (lessB t r t' r'))∧Below w.heap.size w w':=by
 obtain⟨c1,c2⟩:=df_cases t t' h0 h1 h0' h1'
 obtain⟨c3,c4⟩:=df_cases r r' g0 (by omega) g0' (by omega)
 have hsub:=fun w=>run_complex_sum (P:=Tryz.prog) w .sub (.inr rfl) 174 .f64 _ _ _ _ _ _ (sub_pair t'.toNat r'.toNat t.toNat r.toNat (by omega) (by omega) (by omega) (by omega))
 have A1:=hide (fun w=>at_ok t r w h0 g0)
 have A2:=hide (fun w=>at_ok t' r' w h0' g0')
 generalize dfv t'.toNat t.toNat=x at c1 c2 hsub
 generalize dfv r'.toNat r.toNat=y at c3 c4 hsub
 generalize fv t.toNat=ft at A1 hsub
 generalize fv r.toNat=fr at A1 hsub
 generalize fv t'.toNat=ft' at A2 hsub
 generalize fv r'.toNat=fr' at A2 hsub
 clear c4 h1 h1' g1 g1' h0 h0' g0 g0'
 have C1:=hide c1
 have C2:=hide c2
 have C3:=hide c3
 clear c1 c2 c3
 obtain⟨w2,hw2,k0,k1,k2,k3,hs2,hb2⟩:=two_boxes w (.int .u32 t) (.int .u8 r) (.int .u32 t') (.int .u8 r') 46 46
 have Hw2:=hide hw2
 clear hw2
 go_enter Tryz.func174,Tryz.ntmps174
 go_wp2_with fail
 rw [Hw2.out]
 have hs1:w.heap.size < w2.heap.size:=by omega
 generalize w.heap.size=g at k0 k1 k2 k3 hs2 hs1 ⊢
 refine wp_region_past (by kernel_rfl) (by kernel_rfl) ?_
 repeat (quiet_step ((first
  | (go_at_call_of 187 (Value.agg #[Value.int .u32 t,Value.int .u8 r]);exact past_call (unhide A1 _))
  | (go_at_call_of 187 (Value.agg #[Value.int .u32 t',Value.int .u8 r']);exact past_call (unhide A2 _)))))
 refine wpQuiet_nil ?_
 intro w3 hw3
 obtain⟨u,rfl⟩:=hw3
 have hb3:=hb2.trans ((below_past w2 u).mono hb2.size)
 clear hsub k0 k1 k2 k3
 rcases Int.lt_trichotomy t t' with h | h | h
 ·have d1:(FloatKind.f64.format.order x 0 == some .gt)=true:=C1.out.trans (decide_eq_true h)
  have hfin:=hide (show lessB t r t' r'=true from decide_eq_true (.inl h))
  clear h
  go_wp2_with fail
  go_ret
  exact⟨ret_bool hfin.out.symm,hb3⟩
 ·have d1:(FloatKind.f64.format.order x 0 == some .gt)=false:=C1.out.trans (decide_eq_false (by omega))
  have d2:(FloatKind.f64.format.order x 0 == some .eq)=true:=C2.out.trans (decide_eq_true h)
  by_cases h2:r < r'
  ·have d3:(FloatKind.f64.format.order y 0 == some .gt)=true:=C3.out.trans (decide_eq_true h2)
   have hfin:=hide (show lessB t r t' r'=true from decide_eq_true (.inr ⟨h,h2⟩))
   clear h h2
   go_wp2_with fail
   go_ret
   exact⟨ret_bool hfin.out.symm,hb3⟩
  ·have d3:(FloatKind.f64.format.order y 0 == some .gt)=false:=C3.out.trans (decide_eq_false h2)
   have hfin:=hide (show lessB t r t' r'=false from decide_eq_false (by omega))
   clear h h2
   go_wp2_with fail
   go_ret
   exact⟨ret_bool hfin.out.symm,hb3⟩
 ·have d1:(FloatKind.f64.format.order x 0 == some .gt)=false:=C1.out.trans (decide_eq_false (by omega))
  have d2:(FloatKind.f64.format.order x 0 == some .eq)=false:=C2.out.trans (decide_eq_false (by omega))
  have hfin:=hide (show lessB t r t' r'=false from decide_eq_false (by omega))
  clear h
  go_wp2_with fail
  go_ret
  exact⟨ret_bool hfin.out.symm,hb3⟩
theorem refless_any (t r t' r':Int) (w:World):
 Calls Tryz.prog 130 #[.agg #[.int .u32 t,.int .u8 r],.agg #[.int .u32 t',.int .u8 r']] w fun e w'=>e= .returned (.bool (lessB t r t' r'))∧Below w.heap.size w w':=by
 obtain⟨w2,hw2,-,-,-,-,-,hb2⟩:=two_boxes w (.int .u32 t) (.int .u8 r) (.int .u32 t') (.int .u8 r') 46 46
 subst hw2
 rcases Int.lt_trichotomy t t' with h | h | h
 ·have hfin:=hide (show lessB t r t' r'=true from decide_eq_true (.inl h))
  go_enter Tryz.func130,Tryz.ntmps130
  go_wp2_with fail
  go_ret
  exact⟨ret_bool hfin.out.symm,hb2⟩
 ·subst h
  have h1:¬ t < t:=by omega
  by_cases h2:r < r'
  ·have hfin:=hide (show lessB t r t r'=true from decide_eq_true (.inr ⟨rfl,h2⟩))
   go_enter Tryz.func130,Tryz.ntmps130
   go_wp2_with fail
   go_ret
   exact⟨ret_bool hfin.out.symm,hb2⟩
  ·have hfin:=hide (show lessB t r t r'=false from decide_eq_false (by omega))
   go_enter Tryz.func130,Tryz.ntmps130
   go_wp2_with fail
   go_ret
   exact⟨ret_bool hfin.out.symm,hb2⟩
 ·have hfin:=hide (show lessB t r t' r'=false from decide_eq_false (by omega))
  have h1:¬ t < t':=by omega
  have h2:(t == t')=false:=by simp;omega
  clear h
  go_enter Tryz.func130,Tryz.ntmps130
  go_wp2_with fail
  go_ret
  exact⟨ret_bool hfin.out.symm,hb2⟩
/-- May a stamp be? -/
def mayI (t r:Int):Prop:=1≤t∧t≤1073741824∧r < 8
instance (t r:Int):Decidable (mayI t r):=by unfold mayI;infer_instance
theorem scheck_yes (t r:Int) (w:World) (h:mayI t r):
 Calls Tryz.prog 153 #[.agg #[.int .u32 t,.int .u8 r]] w fun e w'=>e= .returned (.int .i64 0)∧Below w.heap.size w w':=by
 obtain⟨h1,h2,h3⟩:=h
 have g1:¬ t < 1:=by omega
 have g2:¬ 1073741824 < t:=by omega
 have g3:¬ 8≤r:=by omega
 clear h1 h2 h3
 go_enter Tryz.func153,Tryz.ntmps153
 go_wp2_with fail
 go_ret
 exact⟨rfl,boxed _ _⟩
theorem scheck_no (t r:Int) (w:World) (h:¬ mayI t r):
 Calls Tryz.prog 153 #[.agg #[.int .u32 t,.int .u8 r]] w fun e w'=>e= .returned (.int .i64 8)∧Below w.heap.size w w':=by
 have hc:t < 1∨(¬ t < 1∧1073741824 < t)∨(¬ t < 1∧¬ 1073741824 < t∧8≤r):=by unfold mayI at h;omega
 clear h
 rcases hc with h1 | ⟨h1,h2⟩ | ⟨h1,h2,h3⟩
 all_goals
  go_enter Tryz.func153,Tryz.ntmps153
  go_wp2_with fail
  go_ret
  exact⟨rfl,boxed _ _⟩
theorem refmay_any (t r:Int) (w:World):
 Calls Tryz.prog 131 #[.agg #[.int .u32 t,.int .u8 r]] w fun e w'=>e= .returned (.bool (decide (mayI t r)))∧Below w.heap.size w w':=by
 by_cases h:mayI t r
 ·have hfin:=hide (decide_eq_true h)
  obtain⟨h1,h2,h3⟩:=h
  go_enter Tryz.func131,Tryz.ntmps131
  go_wp2_with fail
  go_ret
  exact⟨ret_bool hfin.out.symm,boxed _ _⟩
 ·have hfin:=hide (decide_eq_false h)
  have hc:¬ 1≤t∨(1≤t∧¬ t≤1073741824)∨(1≤t∧t≤1073741824∧¬ r < 8):=by unfold mayI at h;omega
  clear h
  rcases hc with h1 | ⟨h1,h2⟩ | ⟨h1,h2,h3⟩
  all_goals
   go_enter Tryz.func131,Tryz.ntmps131
   go_wp2_with fail
   go_ret
   exact⟨ret_bool hfin.out.symm,boxed _ _⟩
/-- The parts of a stamp are of their types. -/
def okI (a:Int×Int):Prop:=0≤a.1∧a.1 < 4294967296∧0≤a.2∧a.2 < 256
theorem keep_cell {w w':World} {b o:Nat} {u:Value} (hb:Below w.heap.size w w') (hlt:b < w.heap.size) (h:w.cell? ⟨b,o,none⟩=some u):w'.cell? ⟨b,o,none⟩=some u:=(hb.cell (p:=⟨b,o,none⟩) hlt).trans h
/-- One box. -/
theorem one_box (w:World) (a b:Value) (T:TypeId):∃ w2,w.alloc (.cells #[a,b] T)=w2∧w2.cell? ⟨w.heap.size,0,none⟩=some a∧w2.cell? ⟨w.heap.size,1,none⟩=some b∧w.heap.size < w2.heap.size∧Below w.heap.size w w2:=by
 refine⟨_,rfl,?_,?_,by simp,boxed _ _⟩
 ·rw [World.cell?_alloc_new];rfl
 ·rw [World.cell?_alloc_new];rfl
/-- The number that Check answers. -/
def chkI (t r:Int):Int:=if mayI t r then 0 else 8
theorem scheck_any (t r:Int) (w:World):
 Calls Tryz.prog 153 #[.agg #[.int .u32 t,.int .u8 r]] w fun e w'=>e= .returned (.int .i64 (chkI t r))∧Below w.heap.size w w':=by
 unfold chkI
 by_cases h:mayI t r
 ·rw [if_pos h];exact scheck_yes t r w h
 ·rw [if_neg h];exact scheck_no t r w h
end Go.Proofs.YtmkpfdcnikgokaaGreat
namespace Go.Proofs.YtmkpfdcnikgokaaGreat
/-- A run: T, R, Many. -/
abbrev Rn:=Int×Int×Int
/-- A stamp: T, R. -/
abbrev Id2:=Int×Int
/-- A run's last time. -/
def rend (x:Rn):Int:=x.1+x.2.2 - 1
/-- May a run be, by itself? -/
def oneR (x:Rn):Prop:=1≤x.1∧x.1≤1073741824∧x.2.1 < 8∧1≤x.2.2∧x.2.2≤4096∧x.1+x.2.2 - 1≤1073741824
instance (x:Rn):Decidable (oneR x):=by unfold oneR;infer_instance
/-- May a run stand behind another one? -/
def stepR (x y:Rn):Prop:=x.1+x.2.2 - 1 < y.1∧¬ (y.2.1=x.2.1∧y.1=x.1+x.2.2 - 1+1)
instance (x y:Rn):Decidable (stepR x y):=by unfold stepR;infer_instance
/-- Runs that may stand behind one another, behind a run that stands ahead. -/
def chainA (x:Rn):List Rn→Prop
 | []=>True
 | y :: l=>oneR y∧stepR x y∧chainA y l
def chainR:List Rn→Prop
 | []=>True
 | x :: l=>oneR x∧chainA x l
instance chainA_dec:(x:Rn)→(l:List Rn)→Decidable (chainA x l)
 | _, []=>isTrue trivial
 | x,y :: l=>by unfold chainA;have:=chainA_dec y l;infer_instance
instance (l:List Rn):Decidable (chainR l):=by cases l <;> unfold chainR <;> infer_instance
/-- How many stamps. -/
def long (p:List Rn):Int:=p.foldl (fun n x=>n+x.2.2) 0
theorem long_snoc (p:List Rn) (x:Rn):long (p++ [x])=long p+x.2.2:=by simp [long]
/-- May a place be? -/
def mayR (p:List Rn):Prop:=1≤p.length∧p.length≤64∧chainR p∧long p≤4096
instance (p:List Rn):Decidable (mayR p):=by unfold mayR;infer_instance
/-- Is it the beginning, or may it be? -/
def anyR (p:List Rn):Prop:=p= []∨mayR p
instance (p:List Rn):Decidable (anyR p):=by unfold anyR;infer_instance
theorem chainA_snoc (y:Rn):∀ (l:List Rn) (x:Rn),chainA x (l++ [y])↔chainA x l∧oneR y∧stepR ((x :: l).getLast (by simp)) y:=by
 intro l
 induction l with
 | nil=>intro x;simp [chainA]
 | cons z l ih=>
   intro x
   simp only [List.cons_append,chainA,ih z]
   rw [List.getLast_cons (by simp:z :: l≠ [])]
   constructor
   ·rintro ⟨a,b,c,d,e⟩;exact⟨⟨a,b,c⟩,d,e⟩
   ·rintro ⟨⟨a,b,c⟩,d,e⟩;exact⟨a,b,c,d,e⟩
theorem chainR_one (y:Rn):chainR [y]↔oneR y:=by simp [chainR,chainA]
theorem chainR_snoc {l:List Rn} (h:l≠ []) (y:Rn):chainR (l++ [y])↔chainR l∧oneR y∧stepR (l.getLast h) y:=by
 match l,h with
 | x :: l,_=>
   simp only [List.cons_append,chainR,chainA_snoc]
   constructor
   ·rintro ⟨a,b,c,d⟩;exact⟨⟨a,b⟩,c,d⟩
   ·rintro ⟨⟨a,b⟩,c,d⟩;exact⟨a,b,c,d⟩
theorem chainR_tail {x:Rn} {l:List Rn} (h:chainR (x :: l)):chainR l:=by
 cases l with
 | nil=>trivial
 | cons y l=>exact⟨h.2.1,h.2.2.2⟩
theorem chainR_mem {l:List Rn} (h:chainR l):∀ x∈l,oneR x:=by
 induction l with
 | nil=>intro x hx;cases hx
 | cons y l ih=>
   intro x hx
   rcases List.mem_cons.1 hx with rfl | hx
   ·exact h.1
   ·exact ih (chainR_tail h) x hx
theorem chainR_append {p q:List Rn} (h:chainR (p++q)):chainR p∧chainR q:=by
 induction p with
 | nil=>exact⟨trivial,h⟩
 | cons x p ih=>
   obtain⟨h1,h2⟩:=ih (chainR_tail h)
   refine⟨?_,h2⟩
   cases p with
   | nil=>exact⟨h.1,trivial⟩
   | cons y p=>exact⟨h.1,h1.1,h.2.2.1,h1.2⟩
/-! ### the order of stamps' lists -/
/-! ### a place is made of its stamps -/
end Go.Proofs.YtmkpfdcnikgokaaGreat
namespace Go.Proofs.YtmkpfdcnikgokaaGreat
open Go.RowKit
/-- Runs as cells. -/
def rns (l:List Rn):List Value:=l.flatMap fun x=> [.int .u32 x.1,.int .u8 x.2.1,.int .i64 x.2.2]
theorem rns_len (l:List Rn):(rns l).length=l.length * 3:=by
 induction l with
 | nil=>rfl
 | cons a l ih=>simp only [rns,List.flatMap_cons,List.length_append,List.length_cons,List.length_nil] at *;omega
theorem rns_append (a b:List Rn):rns (a++b)=rns a++rns b:=by simp [rns]
theorem rns_get (l:List Rn):∀ (i:Nat) (h:i < l.length),(rns l)[i * 3]?=some (.int .u32 l[i].1)∧(rns l)[i * 3+1]?=some (.int .u8 l[i].2.1)∧(rns l)[i * 3+2]?=some (.int .i64 l[i].2.2):=by
 induction l with
 | nil=>intro i h;simp at h
 | cons a l ih=>
   intro i h
   have e:rns (a :: l)= .int .u32 a.1 :: .int .u8 a.2.1 :: .int .i64 a.2.2 :: rns l:=rfl
   rw [e]
   cases i with
   | zero=>exact⟨rfl,rfl,rfl⟩
   | succ i=>
     have:=ih i (by simpa using h)
     rw [show (i+1) * 3=i * 3+3 by omega]
     exact this
theorem rns_one (l:List Rn):∀ u∈rns l,u.oneCell'=true:=by
 intro u hu
 simp only [rns,List.mem_flatMap] at hu
 obtain⟨a,_,h⟩:=hu
 simp at h
 rcases h with rfl | rfl | rfl <;> rfl
/-- A slice of runs that reads as l. -/
def RR (w:World) (B:Nat) (A:Option Addr) (l:List Rn):Prop:=RD w B 3 A l.length (rns l)
theorem RR.cell {w:World} {B:Nat} {A:Option Addr} {l:List Rn} (h:RR w B A l) (hl:0 < l.length):
 ∃ b off,A=some ⟨b,off,none⟩∧b < B∧∀ j (hj:j < l.length),w.cell? ⟨b,off+j * 3,none⟩=some (.int .u32 l[j].1)∧w.cell? ⟨b,off+j * 3+1,none⟩=some (.int .u8 l[j].2.1)∧w.cell? ⟨b,off+j * 3+2,none⟩=some (.int .i64 l[j].2.2):=by
 obtain⟨b,off,e,hb,hc⟩:=h.2 hl
 refine⟨b,off,e,hb,fun j hj=>⟨hc (j * 3) _ (rns_get l j hj).1,?_,?_⟩⟩
 ·have:=hc (j * 3+1) _ (rns_get l j hj).2.1
  rwa [←Nat.add_assoc] at this
 ·have:=hc (j * 3+2) _ (rns_get l j hj).2.2
  rwa [←Nat.add_assoc] at this
theorem RR.below' {w w':World} {A:Option Addr} {l:List Rn} (h:RR w w.heap.size A l) (hb:Below w.heap.size w w'):RR w' w'.heap.size A l:=(RD.below h hb).more hb.size
theorem RR.of_own {w:World} {base:Nat} {e:TypeId} {c n:Nat} {A:Option Addr} {l:List Rn} (h:w.ownsRow base e 3 (.slice A n c) n (rns l)) (hn:l.length=n):RR w w.heap.size A l:=by
 subst hn
 exact RD.of_own h
theorem RR.new (w:World) (cs:Array Value) (T:TypeId) (l:List Rn) (h:cs.toList=rns l):RR (w.alloc (.cells cs T)) (w.alloc (.cells cs T)).heap.size (some ⟨w.heap.size,0,none⟩) l:=by
 refine⟨rns_len l,fun _=>⟨_,_,rfl,by rw [World.size_alloc];omega,fun j u hu=>?_⟩⟩
 rw [Nat.zero_add,World.cell?_alloc_new,←Array.getElem?_toList,h]
 exact hu
/-- The parts of a run are of their types. -/
def okR (x:Rn):Prop:=0≤x.1∧x.1 < 4294967296∧0≤x.2.1∧x.2.1 < 256∧-9223372036854775808≤x.2.2∧x.2.2≤9223372036854775807
theorem first_ok (t r m:Int) (w:World):
 Calls Tryz.prog 181 #[.agg #[.int .u32 t,.int .u8 r,.int .i64 m]] w fun e w'=>e= .returned (.agg #[.int .u32 t,.int .u8 r])∧Below w.heap.size w w':=by
 go_enter Tryz.func181,Tryz.ntmps181
 go_wp2_with fail
 exact bodyPost_ret (v:= .agg #[.int .u32 t,.int .u8 r]) (by simp [results,Tryz.results181,go_sem]) rfl ⟨rfl,(boxed _ _).trans ((boxed _ _).mono (by simp))⟩
theorem last_ok (t r m:Int) (w:World) (h1:0≤t) (h2:t≤1073741824) (h3:1≤m) (h4:m≤4096):
 Calls Tryz.prog 182 #[.agg #[.int .u32 t,.int .u8 r,.int .i64 m]] w fun e w'=>e= .returned (.agg #[.int .u32 (t+m - 1),.int .u8 r])∧Below w.heap.size w w':=by
 go_enter Tryz.func182,Tryz.ntmps182
 go_wp2_with fail
 exact bodyPost_ret (v:= .agg #[.int .u32 (t+m - 1),.int .u8 r]) (by simp [results,Tryz.results182,go_sem]) rfl ⟨rfl,(boxed _ _).trans ((boxed _ _).mono (by simp))⟩
theorem take_chain {p:List Rn} {k:Nat} (hk:k < p.length):chainR (p.take (k+1))↔chainR (p.take k)∧oneR p[k]∧(∀ h:0 < k,stepR (p[k - 1]'(by omega)) p[k]):=by
 rw [List.take_succ_eq_append_getElem hk]
 rcases Nat.eq_zero_or_pos k with h0 | h0
 ·subst h0
  rw [List.take_zero,List.nil_append,chainR_one]
  exact⟨fun h=>⟨trivial,h,fun h=>absurd h (by omega)⟩,fun h=>h.2.1⟩
 ·have hne:p.take k≠ []:=by
   intro e
   have:=congrArg List.length e
   rw [List.length_take,Nat.min_eq_left (Nat.le_of_lt hk),List.length_nil] at this
   omega
  rw [chainR_snoc hne]
  have hl:(p.take k).getLast hne=p[k - 1]'(by omega):=by
   rw [List.getLast_eq_getElem]
   simp only [List.getElem_take,List.length_take,Nat.min_eq_left (Nat.le_of_lt hk)]
  rw [hl]
  exact⟨fun h=>⟨h.1,h.2.1,fun _=>h.2.2⟩,fun h=>⟨h.1,h.2.1,h.2.2 h0⟩⟩
theorem chain_take {p:List Rn} (h:chainR p) (k:Nat):chainR (p.take k):=by
 have:chainR (p.take k++p.drop k):=by rw [List.take_append_drop];exact h
 exact (chainR_append this).1
/-- The number that Check answers. -/
def chkR (p:List Rn):Int:=if mayR p then 0 else 8
theorem chkR_no {p:List Rn} (h:¬ mayR p):chkR p=8:=if_neg h
theorem chkR_bad {p:List Rn} {k:Nat} (h:¬ chainR (p.take k)):chkR p=8:=if_neg (fun hm=>h (chain_take hm.2.2.1 k))
theorem pcheck_any (A:Option Addr) (n c:Nat) (p:List Rn) (w:World) (hr:RR w w.heap.size A p) (hn:p.length=n) (hl:n < 1073741824) (hok:∀ x∈p,okR x):
 Calls Tryz.prog 157 #[.slice A n c] w fun e w'=>e= .returned (.int .i64 (chkR p))∧Below w.heap.size w w':=by
 subst hn
 by_cases h1:(p.length:Int) < 1
 ·have hf:=hide (show chkR p=8 from chkR_no (fun h=>by have:=h.1;omega))
  go_enter Tryz.func157,Tryz.ntmps157
  go_wp2_with fail
  go_ret
  exact⟨ret_int hf.out.symm,Below.refl _ _⟩
 by_cases h2:(64:Int) < (p.length:Int)
 ·have hf:=hide (show chkR p=8 from chkR_no (fun h=>by have:=h.2.1;omega))
  go_enter Tryz.func157,Tryz.ntmps157
  go_wp2_with fail
  go_ret
  exact⟨ret_int hf.out.symm,Below.refl _ _⟩
 have Hok:=hide hok
 clear hok
 go_enter Tryz.func157,Tryz.ntmps157
 go_wp2_with fail
 obtain⟨w1,hw1,m0,m1,hs1,hb1⟩:=one_box w (.int .u32 0) (.int .u8 0) 46
 have f0:w1.frozen? ⟨w.heap.size,0,none⟩=false:=by rw [←hw1];simp
 have f1:w1.frozen? ⟨w.heap.size,1,none⟩=false:=by rw [←hw1];simp
 have hr1:RR w1 w.heap.size A p:=RD.below hr hb1
 rw [hw1]
 clear hw1
 go_loopw [3,17] (fun d i wr=>∃ (k:Nat) (y:Int),k≤p.length∧i= .int .i64 (k:Int)∧d= .int .i64 y∧0≤y∧y≤4096 * (k:Int)∧Hid (y=long (p.take k))∧Hid (chainR (p.take k))∧Below w.heap.size w wr∧w.heap.size < wr.heap.size∧
  wr.frozen? ⟨w.heap.size,0,none⟩=false∧wr.frozen? ⟨w.heap.size,1,none⟩=false∧∃ a b:Int,wr.cell? ⟨w.heap.size,0,none⟩=some (.int .u32 a)∧wr.cell? ⟨w.heap.size,1,none⟩=some (.int .u8 b)∧0≤a∧a≤1073741824∧
  Hid (∀ h:0 < k∧k≤p.length,a=rend (p[k - 1]'(by omega))∧b=(p[k - 1]'(by omega)).2.1)) (fun _ i _=>p.length - (intOf i).toNat)
 case atStart=>exact⟨0,0,by omega,rfl,rfl,by decide,by decide,hide rfl,hide trivial,hb1,hs1,f0,f1,0,0,m0,m1,by decide,by decide,hide (fun h=>absurd h.1 (by decide))⟩
 case round=>
  obtain⟨k,y,hk,rfl,rfl,hy0,hy1,hy,hch,hb,hs,g0,g1,a,b,q0,q1,ha0,ha1,hab⟩:=hrel
  by_cases hlt:k < p.length
  ·obtain⟨b0,o0,rfl,hB0,hC0⟩:=RR.cell (RD.below hr hb) (by omega)
   obtain⟨d0,d1,d2⟩:=hC0 k hlt
   clear hC0
   have z0:(k:Int) < p.length:=by omega
   obtain⟨t,ht⟩:∃ t,t=p[k].1:=⟨_,rfl⟩
   obtain⟨r,hr'⟩:∃ r,r=p[k].2.1:=⟨_,rfl⟩
   obtain⟨m,hm⟩:∃ m,m=p[k].2.2:=⟨_,rfl⟩
   rw [←ht] at d0
   rw [←hr'] at d1
   rw [←hm] at d2
   have hel:p[k]=(t,r,m):=by rw [ht,hr',hm]
   have hokk:=Hok.out p[k] (List.getElem_mem hlt)
   rw [hel] at hokk
   obtain⟨t0,t1,r0,r1,n0,n1⟩:=hokk
   simp only at t0 t1 r0 r1 n0 n1
   have hchk:=take_chain hlt
   rw [hel] at hchk
   have Hchk:=hide hchk
   have Hel:=hide hel
   clear ht hr' hm hel hchk
   by_cases c1:m < 1
   ·have hf:=hide (show chkR p=8 from chkR_bad (k:=k+1) (fun h=>by have:=(Hchk.out.1 h).2.1.2.2.2.1;simp only at this;omega))
    go_wp2_with fail
    go_ret
    exact⟨ret_int hf.out.symm,hb.trans ((boxed wr _).mono hb.size)⟩
   by_cases c2:(4096:Int) < m
   ·have hf:=hide (show chkR p=8 from chkR_bad (k:=k+1) (fun h=>by have:=(Hchk.out.1 h).2.1.2.2.2.2.1;simp only at this;omega))
    go_wp2_with fail
    go_ret
    exact⟨ret_int hf.out.symm,hb.trans ((boxed wr _).mono hb.size)⟩
   -- the run's box
   have hbx:Below w.heap.size w (wr.alloc (.cells #[.int .u32 t,.int .u8 r,.int .i64 m] 120)):=hb.trans ((boxed wr _).mono hb.size)
   have keepx:∀ W,Below (wr.alloc (.cells #[.int .u32 t,.int .u8 r,.int .i64 m] 120)).heap.size (wr.alloc (.cells #[.int .u32 t,.int .u8 r,.int .i64 m] 120)) W→W.cell? ⟨wr.heap.size,0,none⟩=some (.int .u32 t)∧W.cell? ⟨wr.heap.size,1,none⟩=some (.int .u8 r)∧W.cell? ⟨wr.heap.size,2,none⟩=some (.int .i64 m)∧
    W.cell? ⟨w.heap.size,0,none⟩=some (.int .u32 a)∧W.cell? ⟨w.heap.size,1,none⟩=some (.int .u8 b)∧W.frozen? ⟨w.heap.size,0,none⟩=false∧W.frozen? ⟨w.heap.size,1,none⟩=false∧w.heap.size < W.heap.size:=by
    intro W hW
    have hl1:wr.heap.size < (wr.alloc (.cells #[.int .u32 t,.int .u8 r,.int .i64 m] 120)).heap.size:=by simp
    have hl2:w.heap.size < (wr.alloc (.cells #[.int .u32 t,.int .u8 r,.int .i64 m] 120)).heap.size:=by simp;omega
    refine⟨(hW.cell (p:=⟨wr.heap.size,0,none⟩) hl1).trans ?_,(hW.cell (p:=⟨wr.heap.size,1,none⟩) hl1).trans ?_,(hW.cell (p:=⟨wr.heap.size,2,none⟩) hl1).trans ?_,
     (hW.cell (p:=⟨w.heap.size,0,none⟩) hl2).trans ?_,(hW.cell (p:=⟨w.heap.size,1,none⟩) hl2).trans ?_,(hW.frozen (p:=⟨w.heap.size,0,none⟩) hl2).trans ?_,(hW.frozen (p:=⟨w.heap.size,1,none⟩) hl2).trans ?_,Nat.lt_of_lt_of_le hl2 hW.size⟩
    ·rw [World.cell?_alloc_new];rfl
    ·rw [World.cell?_alloc_new];rfl
    ·rw [World.cell?_alloc_new];rfl
    ·rw [World.cell?_alloc_lt _ _ _ hs];exact q0
    ·rw [World.cell?_alloc_lt _ _ _ hs];exact q1
    ·have:=(boxed wr (.cells #[.int .u32 t,.int .u8 r,.int .i64 m] 120)).frozen (p:=⟨w.heap.size,0,none⟩) hs
     exact this.trans g0
    ·have:=(boxed wr (.cells #[.int .u32 t,.int .u8 r,.int .i64 m] 120)).frozen (p:=⟨w.heap.size,1,none⟩) hs
     exact this.trans g1
   have Keepx:=hide keepx
   clear keepx
   by_cases c3:mayI t r
   ·have c3b:=c3
    obtain⟨c31,c32,c33⟩:=c3b
    have Hc3:=hide c3
    clear c3
    go_wp2_with fail
    refine (first_ok t r m _).mono ?_
    rintro e w2 ⟨rfl,hb2⟩
    obtain⟨x0,x1,x2,x3,x4,x5,x6,x7⟩:=Keepx.out w2 hb2
    have hbw2:=hbx.trans (hb2.mono hbx.size)
    go_wp2_with fail
    refine (scheck_yes t r w2 Hc3.out).mono ?_
    rintro e w3 ⟨rfl,hb3⟩
    have hb23:=fresh hb2 hb3
    clear x0 x1 x2 x3 x4 x5 x6 x7
    obtain⟨x0,x1,x2,x3,x4,x5,x6,x7⟩:=Keepx.out w3 hb23
    have hbw3:=hbw2.trans (hb3.mono hbw2.size)
    go_wp2_with fail
    refine (last_ok t r m w3 t0 c32 (by omega) (by omega)).mono ?_
    rintro e w4 ⟨rfl,hb4⟩
    have hb24:=fresh hb23 hb4
    clear x0 x1 x2 x3 x4 x5 x6 x7
    obtain⟨x0,x1,x2,x3,x4,x5,x6,x7⟩:=Keepx.out w4 hb24
    have hbw4:=hbw3.trans (hb4.mono hbw3.size)
    by_cases c4:t+m - 1≤1073741824
    ·have hone:oneR (t,r,m):=⟨c31,c32,c33,by simp only;omega,by simp only;omega,c4⟩
     have Hone:=hide hone
     clear hone
     go_wp2_with fail
     refine (scheck_yes (t+m - 1) r w4 ⟨by omega,c4,c33⟩).mono ?_
     rintro e w5 ⟨rfl,hb5⟩
     have hb25:=fresh hb24 hb5
     clear x0 x1 x2 x3 x4 x5 x6 x7
     obtain⟨x0,x1,x2,x3,x4,x5,x6,x7⟩:=Keepx.out w5 hb25
     have hbw5:=hbw4.trans (hb5.mono hbw4.size)
     clear q0 q1 g0 g1 d0 d1 d2
     by_cases hstep:0 < k→∀ h:k≤p.length,stepR (p[k - 1]'(by omega)) (t,r,m)
     ·have hch':=hide (show chainR (p.take (k+1)) from Hchk.out.2 ⟨hch.out,Hone.out,fun h=>hstep h hk⟩)
      have hlong:=hide (show long (p.take (k+1))=y+m by rw [List.take_succ_eq_append_getElem hlt,long_snoc,hy.out,Hel.out])
      have hab':=hide (show ∀ h:0 < k+1∧k+1≤p.length,t+m - 1=rend (p[k+1 - 1]'(by omega))∧r=(p[k+1 - 1]'(by omega)).2.1 by
       intro h
       simp only [Nat.add_sub_cancel]
       rw [Hel.out]
       exact⟨rfl,rfl⟩)
      have hkc:(¬ (0:Int) < k)∨((0:Int) < k∧a < t∧(¬ r=b))∨((0:Int) < k∧a < t∧(r == b)=true∧(t == a+1)=false):=by
       by_cases hk0:0 < k
       ·obtain⟨e1,e2⟩:=hab.out ⟨hk0,hk⟩
        obtain⟨s1,s2⟩:=hstep hk0 hk
        simp only at s1 s2
        unfold rend at e1
        rw [←e2,←e1] at s2
        rw [←e1] at s1
        by_cases hrb:r=b
        ·exact .inr (.inr ⟨by omega,s1,by simpa using hrb,by simpa using fun h=>s2 ⟨hrb,h⟩⟩)
        ·exact .inr (.inl ⟨by omega,s1,hrb⟩)
       ·exact .inl (by omega)
      clear hstep
      have fin:∀ W,Below w.heap.size w W→Below w.heap.size w ((W.setCell ⟨w.heap.size,0,none⟩ (.int .u32 (t+m - 1))).setCell ⟨w.heap.size,1,none⟩ (.int .u8 r)):=fun W hW=>(hW.setCell (Nat.le_refl _) _).setCell (Nat.le_refl _) _
      have Fin:=hide fin
      clear fin
      have hym:y+m≤4096 * ((k:Int)+1):=by omega
      rcases hkc with k1 | ⟨k1,k2,k3⟩ | ⟨k1,k2,k3,k4⟩
      all_goals
       go_wp2_with fail
       refine (last_ok t r m w5 t0 c32 (by omega) (by omega)).mono ?_
       rintro e w6 ⟨rfl,hb6⟩
       have hb26:=fresh hb25 hb6
       clear x0 x1 x2 x3 x4 x5 x6 x7
       obtain⟨x0,x1,x2,x3,x4,x5,x6,x7⟩:=Keepx.out w6 hb26
       have hbw6:=hbw5.trans (hb6.mono hbw5.size)
       go_wp2_with fail
       go_roundw
       case rel=>
        refine⟨k+1,y+m,by omega,by go_num,rfl,by omega,by omega,hide hlong.out.symm,hch',Fin.out _ hbw6,by simp;omega,by simp [x5],by simp [x6],t+m - 1,r,?_,?_,by omega,c4,hab'⟩
        ·simp [go_sem,x3]
        ·simp [go_sem,x4]
       case measure=>simp [intOf];omega
     ·have hk0:0 < k:=by
       apply Classical.byContradiction
       intro h
       exact hstep (fun h2=>absurd h2 h)
      have hst:¬ stepR (p[k - 1]'(by omega)) (t,r,m):=fun h=>hstep (fun _ _=>h)
      have hf:=hide (show chkR p=8 from chkR_bad (k:=k+1) (fun h=>hst ((Hchk.out.1 h).2.2 hk0)))
      have k1:(0:Int) < k:=by omega
      have hkc:t≤a∨(¬ t≤a∧r=b∧t=a+1):=by
       obtain⟨e1,e2⟩:=hab.out ⟨hk0,hk⟩
       unfold rend at e1
       unfold stepR at hst
       simp only at hst
       rw [←e2,←e1] at hst
       by_cases hta:t≤a
       ·exact .inl hta
       ·exact .inr ⟨hta,by omega,by omega⟩
      clear hstep hst
      rcases hkc with k2 | ⟨k2,k3,k4⟩
      ·go_wp2_with fail
       go_ret
       exact⟨ret_int hf.out.symm,hbw5⟩
      ·have K4:=hide k4
       have e1:(r == b)=true:=by simpa using k3
       have e2:(t == a+1)=true:=by simpa using k4
       clear k3 k4
       go_wp2_with fail
       go_ret
       exact⟨ret_int hf.out.symm,hbw5⟩
    ·have hf:=hide (show chkR p=8 from chkR_bad (k:=k+1) (fun h=>by have:=(Hchk.out.1 h).2.1.2.2.2.2.2;simp only at this;omega))
     have hno:=hide (show ¬ mayI (t+m - 1) r from fun h=>c4 h.2.1)
     go_wp2_with fail
     refine (scheck_no (t+m - 1) r w4 hno.out).mono ?_
     rintro e w5 ⟨rfl,hb5⟩
     go_wp2_with fail
     go_ret
     exact⟨ret_int hf.out.symm,hbw4.trans (hb5.mono hbw4.size)⟩
   ·have hf:=hide (show chkR p=8 from chkR_bad (k:=k+1) (fun h=>by have:=(Hchk.out.1 h).2.1;exact c3 ⟨this.1,this.2.1,this.2.2.1⟩))
    have Hc3:=hide c3
    clear c3
    go_wp2_with fail
    refine (first_ok t r m _).mono ?_
    rintro e w2 ⟨rfl,hb2⟩
    have hbw2:=hbx.trans (hb2.mono hbx.size)
    go_wp2_with fail
    refine (scheck_no t r w2 Hc3.out).mono ?_
    rintro e w3 ⟨rfl,hb3⟩
    go_wp2_with fail
    go_ret
    exact⟨ret_int hf.out.symm,hbw2.trans (hb3.mono hbw2.size)⟩
  ·have hkl:¬ (k:Int) < p.length:=by omega
   have hall:p.take k=p:=List.take_of_length_le (by omega)
   have hy':=hy.out
   have hch':=hch.out
   rw [hall] at hy' hch'
   by_cases hlong:(4096:Int) < y
   ·have hf:=hide (show chkR p=8 from chkR_no (fun h=>by have:=h.2.2.2;omega))
    clear hall hy' hch' hy
    go_wp2_with fail
    go_ret
    exact⟨ret_int hf.out.symm,hb⟩
   ·have hf:=hide (show chkR p=0 from if_pos ⟨by omega,by omega,hch',by omega⟩)
    clear hall hy' hch' hy
    go_wp2_with fail
    go_ret
    exact⟨ret_int hf.out.symm,hb⟩
end Go.Proofs.YtmkpfdcnikgokaaGreat
