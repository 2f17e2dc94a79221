/-
  Texts of this claim, put together: Fields, OpTwin, TwinRow. What each theorem asks stands in its statement.
-/
import Derived.Test.YtmkpfdcnikgokaaGreatMd4
import Derived.Test.YtmkpfdcnikgokaaGreatMd23
set_option linter.unusedVariables false
set_option linter.unusedSimpArgs false
set_option maxRecDepth 100000
set_option maxHeartbeats 25600000
namespace Go.Proofs.YtmkpfdcnikgokaaGreat
open Go.RowKit
structure Oo (w0:World) (B g:Nat) (M:Value->Value->World->Prop) (l1 c1 s1 t1 f1 l2 c2 s2 t2 f2:Nat) (O1 O2:Value) (C1 C2:Value->World->Prop) (done:Nat->Bool) (ρ:Nat->Value) (W:World):Prop where
 b:Below B w0 W
 e:done t1=false->Below w0.heap.size w0 W
 k1:done c1=true->C1 (ρ s1) W
 k2:done c2=true->C2 (ρ s2) W
 m:M (if done t1=true then ρ s1 else O1) (if done t2=true then ρ s2 else O2) W
 zl1:done c1=true->done l1=true
 zl2:done c2=true->done l2=true
 zt1:done t1=true->done c1=true/\done c2=true
 zt2:done t2=true->done t1=true
structure FA2 (c1 c2 t1 t2 s1 s2:Nat):Prop where
 nc1c2:c1≠c2
 nc1t1:c1≠t1
 nc1t2:c1≠t2
 nc2t1:c2≠t1
 nc2t2:c2≠t2
 nt1t2:t1≠t2
 ns1s2:s1≠s2
section
variable {w0:World} {B g:Nat} {M:Value->Value->World->Prop} {l1 c1 s1 t1 f1 l2 c2 s2 t2 f2:Nat} {O1 O2:Value} {C1 C2:Value->World->Prop} {done:Nat->Bool} {ρ:Nat->Value} {W:World}
theorem Oo.start (hb:Below B w0 W) (he:Below w0.heap.size w0 W) (hm:M O1 O2 W):Oo w0 B g M l1 c1 s1 t1 f1 l2 c2 s2 t2 f2 O1 O2 C1 C2 (fun _=>false) ρ W where
 b:=hb
 e:=fun _=>he
 m:=by simpa using hm
 k1:=fun h=>by cases h
 zl1:=fun h=>by cases h
 k2:=fun h=>by cases h
 zl2:=fun h=>by cases h
 zt1:=fun h=>by cases h
 zt2:=fun h=>by cases h
theorem Oo.plain (h:Oo w0 B g M l1 c1 s1 t1 f1 l2 c2 s2 t2 f2 O1 O2 C1 C2 done ρ W) (i d:Nat) (v:Value) (ha:c1≠i/\c2≠i/\t1≠i/\t2≠i/\s1≠d/\s2≠d):Oo w0 B g M l1 c1 s1 t1 f1 l2 c2 s2 t2 f2 O1 O2 C1 C2 (Bo done i) (Bn ρ (some d) v) W:=by
 obtain⟨ac1,ac2,at1,at2,as1,as2⟩:=ha;have mq:Bo done i c1=done c1:=Bp ac1;have lc:Bo done i c2=done c2:=Bp ac2;have jp:Bo done i t1=done t1:=Bp at1;have mh:Bo done i t2=done t2:=Bp at2;have YU:Bn ρ (some d) v s1=ρ s1:=Fm as1;have YT:Bn ρ (some d) v s2=ρ s2:=Fm as2;exact
 { b:=h.b
   e:=by rw [jp];exact h.e
   m:=by simp only [jp,mh,YU,YT];exact h.m
   k1:=by rw [mq,YU];exact h.k1
   zl1:=by rw [mq];exact fun k=>B9 (h.zl1 k)
   k2:=by rw [lc,YT];exact h.k2
   zl2:=by rw [lc];exact fun k=>B9 (h.zl2 k)
   zt1:=by rw [jp,mq,lc];exact h.zt1
   zt2:=by rw [mh,jp];exact h.zt2 }
theorem Oo.no1 (h:Oo w0 B g M l1 c1 s1 t1 f1 l2 c2 s2 t2 f2 O1 O2 C1 C2 done ρ W) (hn:done c1=false):done t1=false/\done t2=false:=by
 have h1:done t1=false:=by
  cases hx:done t1 with
  | false=>rfl
  | true=>rw [(h.zt1 hx).1] at hn;cases hn
 have h2:done t2=false:=by
  cases hx:done t2 with
  | false=>rfl
  | true=>rw [h.zt2 hx] at h1;cases h1
 exact⟨h1,h2⟩
theorem Oo.no2 (h:Oo w0 B g M l1 c1 s1 t1 f1 l2 c2 s2 t2 f2 O1 O2 C1 C2 done ρ W) (hn:done c2=false):done t1=false/\done t2=false:=by
 have h1:done t1=false:=by
  cases hx:done t1 with
  | false=>rfl
  | true=>rw [(h.zt1 hx).2] at hn;cases hn
 have h2:done t2=false:=by
  cases hx:done t2 with
  | false=>rfl
  | true=>rw [h.zt2 hx] at h1;cases h1
 exact⟨h1,h2⟩
theorem Oo.call1 (h:Oo w0 B g M l1 c1 s1 t1 f1 l2 c2 s2 t2 f2 O1 O2 C1 C2 done ρ W) (hA:FA2 c1 c2 t1 t2 s1 s2) (hn:done c1=false) (hl:done l1=true) (hB:B<=W.heap.size) {v:Value} {W':World} (hv:C1 v W') (hb:Below W.heap.size W W') (ku:∀ v,C2 v W->C2 v W') (hm:∀ a1 a2,M a1 a2 W->M a1 a2 W'):Oo w0 B g M l1 c1 s1 t1 f1 l2 c2 s2 t2 f2 O1 O2 C1 C2 (Bo done c1) (Bn ρ (some s1) v) W':=by
 obtain⟨n1,n2⟩:=h.no1 hn;have jp:Bo done c1 t1=false:=by rw [Bp (hA.nc1t1.symm)];exact n1
 have mh:Bo done c1 t2=false:=by rw [Bp (hA.nc1t2.symm)];exact n2
 have lc:Bo done c1 c2=done c2:=Bp (hA.nc1c2.symm);have p2:Bn ρ (some s1) v s2=ρ s2:=Fm (hA.ns1s2.symm);exact
 { b:=h.b.trans (hb.mono hB)
   e:=fun _=>Ad (h.e n1) hb
   m:=by
    have h9:=h.m
    simp only [jp,mh,n1,n2,Bool.false_eq_true,if_false] at h9 |-
    exact hm _ _ h9
   k1:=fun _=>by rw [Ot];exact hv
   zl1:=fun _=>B9 hl
   k2:=by rw [lc,p2];exact fun k=>ku _ (h.k2 k)
   zl2:=by rw [lc];exact fun k=>B9 (h.zl2 k)
   zt1:=by rw [jp];exact fun e=>by cases e
   zt2:=by rw [mh];exact fun e=>by cases e }
theorem Oo.call2 (h:Oo w0 B g M l1 c1 s1 t1 f1 l2 c2 s2 t2 f2 O1 O2 C1 C2 done ρ W) (hA:FA2 c1 c2 t1 t2 s1 s2) (hn:done c2=false) (hl:done l2=true) (hB:B<=W.heap.size) {v:Value} {W':World} (hv:C2 v W') (hb:Below W.heap.size W W') (xi:∀ v,C1 v W->C1 v W') (hm:∀ a1 a2,M a1 a2 W->M a1 a2 W'):Oo w0 B g M l1 c1 s1 t1 f1 l2 c2 s2 t2 f2 O1 O2 C1 C2 (Bo done c2) (Bn ρ (some s2) v) W':=by
 obtain⟨n1,n2⟩:=h.no2 hn;have jp:Bo done c2 t1=false:=by rw [Bp (hA.nc2t1.symm)];exact n1
 have mh:Bo done c2 t2=false:=by rw [Bp (hA.nc2t2.symm)];exact n2
 have mq:Bo done c2 c1=done c1:=Bp (hA.nc1c2);have p1:Bn ρ (some s2) v s1=ρ s1:=Fm (hA.ns1s2);exact
 { b:=h.b.trans (hb.mono hB)
   e:=fun _=>Ad (h.e n1) hb
   m:=by
    have h9:=h.m
    simp only [jp,mh,n1,n2,Bool.false_eq_true,if_false] at h9 |-
    exact hm _ _ h9
   k2:=fun _=>by rw [Ot];exact hv
   zl2:=fun _=>B9 hl
   k1:=by rw [mq,p1];exact fun k=>xi _ (h.k1 k)
   zl1:=by rw [mq];exact fun k=>B9 (h.zl1 k)
   zt1:=by rw [jp];exact fun e=>by cases e
   zt2:=by rw [mh];exact fun e=>by cases e }
theorem Oo.store1 (h:Oo w0 B g M l1 c1 s1 t1 f1 l2 c2 s2 t2 f2 O1 O2 C1 C2 done ρ W) (hA:FA2 c1 c2 t1 t2 s1 s2) (hn:done t1=false) (hp:done c1=true/\done c2=true) (hg:B<=g) (xi:∀ v,C1 v W->C1 v (W.setCell ⟨g,f1,none⟩ (ρ s1))) (ku:∀ v,C2 v W->C2 v (W.setCell ⟨g,f1,none⟩ (ρ s1))) (hm:∀ a1 a2,M a1 a2 W->M (ρ s1) a2 (W.setCell ⟨g,f1,none⟩ (ρ s1))) {u:Value}:Oo w0 B g M l1 c1 s1 t1 f1 l2 c2 s2 t2 f2 O1 O2 C1 C2 (Bo done t1) (Bn ρ none u) (W.setCell ⟨g,f1,none⟩ (ρ s1)):=by
 have mh:Bo done t1 t2=done t2:=Bp (hA.nt1t2.symm);have jp:Bo done t1 t1=true:=Oq _ _;have mq:Bo done t1 c1=done c1:=Bp (hA.nc1t1);have lc:Bo done t1 c2=done c2:=Bp (hA.nc2t1);exact
 { b:=h.b.setCell hg _
   e:=by
    rw [jp];exact fun e=>by cases e
   m:=by
    have h9:=h.m
    simp only [jp,mh,hn,Bool.false_eq_true,if_false,if_true] at h9 |-
    exact hm _ _ h9
   k1:=by rw [mq];exact fun k=>xi _ (h.k1 k)
   zl1:=by rw [mq];exact fun k=>B9 (h.zl1 k)
   k2:=by rw [lc];exact fun k=>ku _ (h.k2 k)
   zl2:=by rw [lc];exact fun k=>B9 (h.zl2 k)
   zt1:=by rw [mq,lc];exact fun _=>hp
   zt2:=by rw [mh];exact fun _=>jp }
theorem Oo.store2 (h:Oo w0 B g M l1 c1 s1 t1 f1 l2 c2 s2 t2 f2 O1 O2 C1 C2 done ρ W) (hA:FA2 c1 c2 t1 t2 s1 s2) (hn:done t2=false) (hp:done t1=true) (hg:B<=g) (xi:∀ v,C1 v W->C1 v (W.setCell ⟨g,f2,none⟩ (ρ s2))) (ku:∀ v,C2 v W->C2 v (W.setCell ⟨g,f2,none⟩ (ρ s2))) (hm:∀ a1 a2,M a1 a2 W->M a1 (ρ s2) (W.setCell ⟨g,f2,none⟩ (ρ s2))) {u:Value}:Oo w0 B g M l1 c1 s1 t1 f1 l2 c2 s2 t2 f2 O1 O2 C1 C2 (Bo done t2) (Bn ρ none u) (W.setCell ⟨g,f2,none⟩ (ρ s2)):=by
 have jp:Bo done t2 t1=done t1:=Bp (hA.nt1t2);have mh:Bo done t2 t2=true:=Oq _ _;have mq:Bo done t2 c1=done c1:=Bp (hA.nc1t2);have lc:Bo done t2 c2=done c2:=Bp (hA.nc2t2);exact
 { b:=h.b.setCell hg _
   e:=by
    intro e
    rw [jp,hp] at e
    cases e
   m:=by
    have h9:=h.m
    simp only [jp,mh,hn,Bool.false_eq_true,if_false,if_true] at h9 |-
    exact hm _ _ h9
   k1:=by rw [mq];exact fun k=>xi _ (h.k1 k)
   zl1:=by rw [mq];exact fun k=>B9 (h.zl1 k)
   k2:=by rw [lc];exact fun k=>ku _ (h.k2 k)
   zl2:=by rw [lc];exact fun k=>B9 (h.zl2 k)
   zt1:=by rw [jp,mq,lc];exact h.zt1
   zt2:=by rw [jp];exact fun _=>hp }
end
structure Lq (w0:World) (B g:Nat) (M:Value->Value->Value->World->Prop) (l1 c1 s1 t1 f1 l2 c2 s2 t2 f2 l3 c3 s3 t3 f3:Nat) (O1 O2 O3:Value) (C1 C2 C3:Value->World->Prop) (done:Nat->Bool) (ρ:Nat->Value) (W:World):Prop where
 b:Below B w0 W
 e:done t1=false->Below w0.heap.size w0 W
 k1:done c1=true->C1 (ρ s1) W
 k2:done c2=true->C2 (ρ s2) W
 k3:done c3=true->C3 (ρ s3) W
 m:M (if done t1=true then ρ s1 else O1) (if done t2=true then ρ s2 else O2) (if done t3=true then ρ s3 else O3) W
 zl1:done c1=true->done l1=true
 zl2:done c2=true->done l2=true
 zl3:done c3=true->done l3=true
 zc:done c3=true->done c2=true
 zt1:done t1=true->done c1=true/\done c2=true/\done c3=true
 zt2:done t2=true->done t1=true
 zt3:done t3=true->done t2=true
structure FA3 (c1 c2 c3 t1 t2 t3 s1 s2 s3:Nat):Prop where
 nc1c2:c1≠c2
 nc1c3:c1≠c3
 nc1t1:c1≠t1
 nc1t2:c1≠t2
 nc1t3:c1≠t3
 nc2c3:c2≠c3
 nc2t1:c2≠t1
 nc2t2:c2≠t2
 nc2t3:c2≠t3
 nc3t1:c3≠t1
 nc3t2:c3≠t2
 nc3t3:c3≠t3
 nt1t2:t1≠t2
 nt1t3:t1≠t3
 nt2t3:t2≠t3
 ns1s2:s1≠s2
 ns1s3:s1≠s3
 ns2s3:s2≠s3
section
variable {w0:World} {B g:Nat} {M:Value->Value->Value->World->Prop} {l1 c1 s1 t1 f1 l2 c2 s2 t2 f2 l3 c3 s3 t3 f3:Nat} {O1 O2 O3:Value} {C1 C2 C3:Value->World->Prop} {done:Nat->Bool} {ρ:Nat->Value} {W:World}
theorem Lq.start (hb:Below B w0 W) (he:Below w0.heap.size w0 W) (hm:M O1 O2 O3 W):Lq w0 B g M l1 c1 s1 t1 f1 l2 c2 s2 t2 f2 l3 c3 s3 t3 f3 O1 O2 O3 C1 C2 C3 (fun _=>false) ρ W where
 b:=hb
 e:=fun _=>he
 m:=by simpa using hm
 k1:=fun h=>by cases h
 zl1:=fun h=>by cases h
 k2:=fun h=>by cases h
 zl2:=fun h=>by cases h
 k3:=fun h=>by cases h
 zl3:=fun h=>by cases h
 zt1:=fun h=>by cases h
 zt2:=fun h=>by cases h
 zt3:=fun h=>by cases h
 zc:=fun h=>by cases h
theorem Lq.plain (h:Lq w0 B g M l1 c1 s1 t1 f1 l2 c2 s2 t2 f2 l3 c3 s3 t3 f3 O1 O2 O3 C1 C2 C3 done ρ W) (i d:Nat) (v:Value) (ha:c1≠i/\c2≠i/\c3≠i/\t1≠i/\t2≠i/\t3≠i/\s1≠d/\s2≠d/\s3≠d):Lq w0 B g M l1 c1 s1 t1 f1 l2 c2 s2 t2 f2 l3 c3 s3 t3 f3 O1 O2 O3 C1 C2 C3 (Bo done i) (Bn ρ (some d) v) W:=by
 obtain⟨ac1,ac2,ac3,at1,at2,at3,as1,as2,as3⟩:=ha;have mq:Bo done i c1=done c1:=Bp ac1;have lc:Bo done i c2=done c2:=Bp ac2;have r8:Bo done i c3=done c3:=Bp ac3;have jp:Bo done i t1=done t1:=Bp at1;have mh:Bo done i t2=done t2:=Bp at2;have xr:Bo done i t3=done t3:=Bp at3;have YU:Bn ρ (some d) v s1=ρ s1:=Fm as1;have YT:Bn ρ (some d) v s2=ρ s2:=Fm as2;have ps3:Bn ρ (some d) v s3=ρ s3:=Fm as3;exact
 { b:=h.b
   e:=by rw [jp];exact h.e
   m:=by simp only [jp,mh,xr,YU,YT,ps3];exact h.m
   k1:=by rw [mq,YU];exact h.k1
   zl1:=by rw [mq];exact fun k=>B9 (h.zl1 k)
   k2:=by rw [lc,YT];exact h.k2
   zl2:=by rw [lc];exact fun k=>B9 (h.zl2 k)
   k3:=by rw [r8,ps3];exact h.k3
   zl3:=by rw [r8];exact fun k=>B9 (h.zl3 k)
   zt1:=by rw [jp,mq,lc,r8];exact h.zt1
   zc:=by rw [r8,lc];exact h.zc
   zt2:=by rw [mh,jp];exact h.zt2
   zt3:=by rw [xr,mh];exact h.zt3 }
theorem Lq.no1 (h:Lq w0 B g M l1 c1 s1 t1 f1 l2 c2 s2 t2 f2 l3 c3 s3 t3 f3 O1 O2 O3 C1 C2 C3 done ρ W) (hn:done c1=false):done t1=false/\done t2=false/\done t3=false:=by
 have h1:done t1=false:=by
  cases hx:done t1 with
  | false=>rfl
  | true=>rw [(h.zt1 hx).1] at hn;cases hn
 have h2:done t2=false:=by
  cases hx:done t2 with
  | false=>rfl
  | true=>rw [h.zt2 hx] at h1;cases h1
 have h3:done t3=false:=by
  cases hx:done t3 with
  | false=>rfl
  | true=>rw [h.zt3 hx] at h2;cases h2
 exact⟨h1,h2,h3⟩
theorem Lq.no2 (h:Lq w0 B g M l1 c1 s1 t1 f1 l2 c2 s2 t2 f2 l3 c3 s3 t3 f3 O1 O2 O3 C1 C2 C3 done ρ W) (hn:done c2=false):done t1=false/\done t2=false/\done t3=false:=by
 have h1:done t1=false:=by
  cases hx:done t1 with
  | false=>rfl
  | true=>rw [(h.zt1 hx).2.1] at hn;cases hn
 have h2:done t2=false:=by
  cases hx:done t2 with
  | false=>rfl
  | true=>rw [h.zt2 hx] at h1;cases h1
 have h3:done t3=false:=by
  cases hx:done t3 with
  | false=>rfl
  | true=>rw [h.zt3 hx] at h2;cases h2
 exact⟨h1,h2,h3⟩
theorem Lq.no3 (h:Lq w0 B g M l1 c1 s1 t1 f1 l2 c2 s2 t2 f2 l3 c3 s3 t3 f3 O1 O2 O3 C1 C2 C3 done ρ W) (hn:done c3=false):done t1=false/\done t2=false/\done t3=false:=by
 have h1:done t1=false:=by
  cases hx:done t1 with
  | false=>rfl
  | true=>rw [(h.zt1 hx).2.2] at hn;cases hn
 have h2:done t2=false:=by
  cases hx:done t2 with
  | false=>rfl
  | true=>rw [h.zt2 hx] at h1;cases h1
 have h3:done t3=false:=by
  cases hx:done t3 with
  | false=>rfl
  | true=>rw [h.zt3 hx] at h2;cases h2
 exact⟨h1,h2,h3⟩
theorem Lq.call1 (h:Lq w0 B g M l1 c1 s1 t1 f1 l2 c2 s2 t2 f2 l3 c3 s3 t3 f3 O1 O2 O3 C1 C2 C3 done ρ W) (hA:FA3 c1 c2 c3 t1 t2 t3 s1 s2 s3) (hn:done c1=false) (hl:done l1=true) (hB:B<=W.heap.size) {v:Value} {W':World} (hv:C1 v W') (hb:Below W.heap.size W W') (ku:∀ v,C2 v W->C2 v W') (BQ:∀ v,C3 v W->C3 v W') (hm:∀ a1 a2 a3,M a1 a2 a3 W->M a1 a2 a3 W'):Lq w0 B g M l1 c1 s1 t1 f1 l2 c2 s2 t2 f2 l3 c3 s3 t3 f3 O1 O2 O3 C1 C2 C3 (Bo done c1) (Bn ρ (some s1) v) W':=by
 obtain⟨n1,n2,n3⟩:=h.no1 hn;have jp:Bo done c1 t1=false:=by rw [Bp (hA.nc1t1.symm)];exact n1
 have mh:Bo done c1 t2=false:=by rw [Bp (hA.nc1t2.symm)];exact n2
 have xr:Bo done c1 t3=false:=by rw [Bp (hA.nc1t3.symm)];exact n3
 have lc:Bo done c1 c2=done c2:=Bp (hA.nc1c2.symm);have p2:Bn ρ (some s1) v s2=ρ s2:=Fm (hA.ns1s2.symm);have r8:Bo done c1 c3=done c3:=Bp (hA.nc1c3.symm);have p3:Bn ρ (some s1) v s3=ρ s3:=Fm (hA.ns1s3.symm);exact
 { b:=h.b.trans (hb.mono hB)
   e:=fun _=>Ad (h.e n1) hb
   m:=by
    have h9:=h.m
    simp only [jp,mh,xr,n1,n2,n3,Bool.false_eq_true,if_false] at h9 |-
    exact hm _ _ _ h9
   k1:=fun _=>by rw [Ot];exact hv
   zl1:=fun _=>B9 hl
   k2:=by rw [lc,p2];exact fun k=>ku _ (h.k2 k)
   zl2:=by rw [lc];exact fun k=>B9 (h.zl2 k)
   k3:=by rw [r8,p3];exact fun k=>BQ _ (h.k3 k)
   zl3:=by rw [r8];exact fun k=>B9 (h.zl3 k)
   zc:=by rw [r8,lc];exact h.zc
   zt1:=by rw [jp];exact fun e=>by cases e
   zt2:=by rw [mh];exact fun e=>by cases e
   zt3:=by rw [xr];exact fun e=>by cases e }
theorem Lq.call2 (h:Lq w0 B g M l1 c1 s1 t1 f1 l2 c2 s2 t2 f2 l3 c3 s3 t3 f3 O1 O2 O3 C1 C2 C3 done ρ W) (hA:FA3 c1 c2 c3 t1 t2 t3 s1 s2 s3) (hn:done c2=false) (hl:done l2=true) (hB:B<=W.heap.size) {v:Value} {W':World} (hv:C2 v W') (hb:Below W.heap.size W W') (xi:∀ v,C1 v W->C1 v W') (BQ:∀ v,C3 v W->C3 v W') (hm:∀ a1 a2 a3,M a1 a2 a3 W->M a1 a2 a3 W'):Lq w0 B g M l1 c1 s1 t1 f1 l2 c2 s2 t2 f2 l3 c3 s3 t3 f3 O1 O2 O3 C1 C2 C3 (Bo done c2) (Bn ρ (some s2) v) W':=by
 obtain⟨n1,n2,n3⟩:=h.no2 hn;have jp:Bo done c2 t1=false:=by rw [Bp (hA.nc2t1.symm)];exact n1
 have mh:Bo done c2 t2=false:=by rw [Bp (hA.nc2t2.symm)];exact n2
 have xr:Bo done c2 t3=false:=by rw [Bp (hA.nc2t3.symm)];exact n3
 have mq:Bo done c2 c1=done c1:=Bp (hA.nc1c2);have p1:Bn ρ (some s2) v s1=ρ s1:=Fm (hA.ns1s2);have r8:Bo done c2 c3=done c3:=Bp (hA.nc2c3.symm);have p3:Bn ρ (some s2) v s3=ρ s3:=Fm (hA.ns2s3.symm);exact
 { b:=h.b.trans (hb.mono hB)
   e:=fun _=>Ad (h.e n1) hb
   m:=by
    have h9:=h.m
    simp only [jp,mh,xr,n1,n2,n3,Bool.false_eq_true,if_false] at h9 |-
    exact hm _ _ _ h9
   k2:=fun _=>by rw [Ot];exact hv
   zl2:=fun _=>B9 hl
   k1:=by rw [mq,p1];exact fun k=>xi _ (h.k1 k)
   zl1:=by rw [mq];exact fun k=>B9 (h.zl1 k)
   k3:=by rw [r8,p3];exact fun k=>BQ _ (h.k3 k)
   zl3:=by rw [r8];exact fun k=>B9 (h.zl3 k)
   zc:=fun _=>Oq _ _
   zt1:=by rw [jp];exact fun e=>by cases e
   zt2:=by rw [mh];exact fun e=>by cases e
   zt3:=by rw [xr];exact fun e=>by cases e }
theorem Lq.call3 (h:Lq w0 B g M l1 c1 s1 t1 f1 l2 c2 s2 t2 f2 l3 c3 s3 t3 f3 O1 O2 O3 C1 C2 C3 done ρ W) (hA:FA3 c1 c2 c3 t1 t2 t3 s1 s2 s3) (hn:done c3=false) (hl:done l3=true) (hp:done c2=true) (hB:B<=W.heap.size) {v:Value} {W':World} (hv:C3 v W') (hb:Below W.heap.size W W') (xi:∀ v,C1 v W->C1 v W') (ku:∀ v,C2 v W->C2 v W') (hm:∀ a1 a2 a3,M a1 a2 a3 W->M a1 a2 a3 W'):Lq w0 B g M l1 c1 s1 t1 f1 l2 c2 s2 t2 f2 l3 c3 s3 t3 f3 O1 O2 O3 C1 C2 C3 (Bo done c3) (Bn ρ (some s3) v) W':=by
 obtain⟨n1,n2,n3⟩:=h.no3 hn;have jp:Bo done c3 t1=false:=by rw [Bp (hA.nc3t1.symm)];exact n1
 have mh:Bo done c3 t2=false:=by rw [Bp (hA.nc3t2.symm)];exact n2
 have xr:Bo done c3 t3=false:=by rw [Bp (hA.nc3t3.symm)];exact n3
 have mq:Bo done c3 c1=done c1:=Bp (hA.nc1c3);have p1:Bn ρ (some s3) v s1=ρ s1:=Fm (hA.ns1s3);have lc:Bo done c3 c2=done c2:=Bp (hA.nc2c3);have p2:Bn ρ (some s3) v s2=ρ s2:=Fm (hA.ns2s3);exact
 { b:=h.b.trans (hb.mono hB)
   e:=fun _=>Ad (h.e n1) hb
   m:=by
    have h9:=h.m
    simp only [jp,mh,xr,n1,n2,n3,Bool.false_eq_true,if_false] at h9 |-
    exact hm _ _ _ h9
   k3:=fun _=>by rw [Ot];exact hv
   zl3:=fun _=>B9 hl
   k1:=by rw [mq,p1];exact fun k=>xi _ (h.k1 k)
   zl1:=by rw [mq];exact fun k=>B9 (h.zl1 k)
   k2:=by rw [lc,p2];exact fun k=>ku _ (h.k2 k)
   zl2:=by rw [lc];exact fun k=>B9 (h.zl2 k)
   zc:=fun _=>by rw [lc];exact hp
   zt1:=by rw [jp];exact fun e=>by cases e
   zt2:=by rw [mh];exact fun e=>by cases e
   zt3:=by rw [xr];exact fun e=>by cases e }
theorem Lq.store1 (h:Lq w0 B g M l1 c1 s1 t1 f1 l2 c2 s2 t2 f2 l3 c3 s3 t3 f3 O1 O2 O3 C1 C2 C3 done ρ W) (hA:FA3 c1 c2 c3 t1 t2 t3 s1 s2 s3) (hn:done t1=false) (hp:done c1=true/\done c2=true/\done c3=true) (hg:B<=g) (xi:∀ v,C1 v W->C1 v (W.setCell ⟨g,f1,none⟩ (ρ s1))) (ku:∀ v,C2 v W->C2 v (W.setCell ⟨g,f1,none⟩ (ρ s1))) (BQ:∀ v,C3 v W->C3 v (W.setCell ⟨g,f1,none⟩ (ρ s1))) (hm:∀ a1 a2 a3,M a1 a2 a3 W->M (ρ s1) a2 a3 (W.setCell ⟨g,f1,none⟩ (ρ s1))) {u:Value}:Lq w0 B g M l1 c1 s1 t1 f1 l2 c2 s2 t2 f2 l3 c3 s3 t3 f3 O1 O2 O3 C1 C2 C3 (Bo done t1) (Bn ρ none u) (W.setCell ⟨g,f1,none⟩ (ρ s1)):=by
 have mh:Bo done t1 t2=done t2:=Bp (hA.nt1t2.symm);have xr:Bo done t1 t3=done t3:=Bp (hA.nt1t3.symm);have jp:Bo done t1 t1=true:=Oq _ _;have mq:Bo done t1 c1=done c1:=Bp (hA.nc1t1);have lc:Bo done t1 c2=done c2:=Bp (hA.nc2t1);have r8:Bo done t1 c3=done c3:=Bp (hA.nc3t1);exact
 { b:=h.b.setCell hg _
   e:=by
    rw [jp];exact fun e=>by cases e
   m:=by
    have h9:=h.m
    simp only [jp,mh,xr,hn,Bool.false_eq_true,if_false,if_true] at h9 |-
    exact hm _ _ _ h9
   k1:=by rw [mq];exact fun k=>xi _ (h.k1 k)
   zl1:=by rw [mq];exact fun k=>B9 (h.zl1 k)
   k2:=by rw [lc];exact fun k=>ku _ (h.k2 k)
   zl2:=by rw [lc];exact fun k=>B9 (h.zl2 k)
   k3:=by rw [r8];exact fun k=>BQ _ (h.k3 k)
   zl3:=by rw [r8];exact fun k=>B9 (h.zl3 k)
   zc:=by rw [r8,lc];exact h.zc
   zt1:=by rw [mq,lc,r8];exact fun _=>hp
   zt2:=by rw [mh];exact fun _=>jp
   zt3:=by rw [xr,mh];exact h.zt3 }
theorem Lq.store2 (h:Lq w0 B g M l1 c1 s1 t1 f1 l2 c2 s2 t2 f2 l3 c3 s3 t3 f3 O1 O2 O3 C1 C2 C3 done ρ W) (hA:FA3 c1 c2 c3 t1 t2 t3 s1 s2 s3) (hn:done t2=false) (hp:done t1=true) (hg:B<=g) (xi:∀ v,C1 v W->C1 v (W.setCell ⟨g,f2,none⟩ (ρ s2))) (ku:∀ v,C2 v W->C2 v (W.setCell ⟨g,f2,none⟩ (ρ s2))) (BQ:∀ v,C3 v W->C3 v (W.setCell ⟨g,f2,none⟩ (ρ s2))) (hm:∀ a1 a2 a3,M a1 a2 a3 W->M a1 (ρ s2) a3 (W.setCell ⟨g,f2,none⟩ (ρ s2))) {u:Value}:Lq w0 B g M l1 c1 s1 t1 f1 l2 c2 s2 t2 f2 l3 c3 s3 t3 f3 O1 O2 O3 C1 C2 C3 (Bo done t2) (Bn ρ none u) (W.setCell ⟨g,f2,none⟩ (ρ s2)):=by
 have jp:Bo done t2 t1=done t1:=Bp (hA.nt1t2);have xr:Bo done t2 t3=done t3:=Bp (hA.nt2t3.symm);have mh:Bo done t2 t2=true:=Oq _ _;have mq:Bo done t2 c1=done c1:=Bp (hA.nc1t2);have lc:Bo done t2 c2=done c2:=Bp (hA.nc2t2);have r8:Bo done t2 c3=done c3:=Bp (hA.nc3t2);exact
 { b:=h.b.setCell hg _
   e:=by
    intro e
    rw [jp,hp] at e
    cases e
   m:=by
    have h9:=h.m
    simp only [jp,mh,xr,hn,Bool.false_eq_true,if_false,if_true] at h9 |-
    exact hm _ _ _ h9
   k1:=by rw [mq];exact fun k=>xi _ (h.k1 k)
   zl1:=by rw [mq];exact fun k=>B9 (h.zl1 k)
   k2:=by rw [lc];exact fun k=>ku _ (h.k2 k)
   zl2:=by rw [lc];exact fun k=>B9 (h.zl2 k)
   k3:=by rw [r8];exact fun k=>BQ _ (h.k3 k)
   zl3:=by rw [r8];exact fun k=>B9 (h.zl3 k)
   zc:=by rw [r8,lc];exact h.zc
   zt1:=by rw [jp,mq,lc,r8];exact h.zt1
   zt2:=by rw [jp];exact fun _=>hp
   zt3:=by rw [xr];exact fun _=>mh }
theorem Lq.store3 (h:Lq w0 B g M l1 c1 s1 t1 f1 l2 c2 s2 t2 f2 l3 c3 s3 t3 f3 O1 O2 O3 C1 C2 C3 done ρ W) (hA:FA3 c1 c2 c3 t1 t2 t3 s1 s2 s3) (hn:done t3=false) (hp:done t2=true) (hg:B<=g) (xi:∀ v,C1 v W->C1 v (W.setCell ⟨g,f3,none⟩ (ρ s3))) (ku:∀ v,C2 v W->C2 v (W.setCell ⟨g,f3,none⟩ (ρ s3))) (BQ:∀ v,C3 v W->C3 v (W.setCell ⟨g,f3,none⟩ (ρ s3))) (hm:∀ a1 a2 a3,M a1 a2 a3 W->M a1 a2 (ρ s3) (W.setCell ⟨g,f3,none⟩ (ρ s3))) {u:Value}:Lq w0 B g M l1 c1 s1 t1 f1 l2 c2 s2 t2 f2 l3 c3 s3 t3 f3 O1 O2 O3 C1 C2 C3 (Bo done t3) (Bn ρ none u) (W.setCell ⟨g,f3,none⟩ (ρ s3)):=by
 have jp:Bo done t3 t1=done t1:=Bp (hA.nt1t3);have mh:Bo done t3 t2=done t2:=Bp (hA.nt2t3);have xr:Bo done t3 t3=true:=Oq _ _;have mq:Bo done t3 c1=done c1:=Bp (hA.nc1t3);have lc:Bo done t3 c2=done c2:=Bp (hA.nc2t3);have r8:Bo done t3 c3=done c3:=Bp (hA.nc3t3);exact
 { b:=h.b.setCell hg _
   e:=by
    intro e
    rw [jp,h.zt2 hp] at e
    cases e
   m:=by
    have h9:=h.m
    simp only [jp,mh,xr,hn,Bool.false_eq_true,if_false,if_true] at h9 |-
    exact hm _ _ _ h9
   k1:=by rw [mq];exact fun k=>xi _ (h.k1 k)
   zl1:=by rw [mq];exact fun k=>B9 (h.zl1 k)
   k2:=by rw [lc];exact fun k=>ku _ (h.k2 k)
   zl2:=by rw [lc];exact fun k=>B9 (h.zl2 k)
   k3:=by rw [r8];exact fun k=>BQ _ (h.k3 k)
   zl3:=by rw [r8];exact fun k=>B9 (h.zl3 k)
   zc:=by rw [r8,lc];exact h.zc
   zt1:=by rw [jp,mq,lc,r8];exact h.zt1
   zt2:=by rw [mh,jp];exact h.zt2
   zt3:=by rw [mh];exact fun _=>hp }
end
theorem Gi {w:World} {aa n c:Nat} {e:TypeId} {size:Nat} {A:Option Addr} {xs:List Value} (h:w.ownsRow aa e size (.slice A n c) n xs):A=none->c=0:=by
 intro hA;rcases h.2 with⟨h1,-⟩ | ⟨g,cap,bh,h1,-⟩
 ·simp only [Value.slice.injEq] at h1;exact h1.2.2
 ·simp only [Value.slice.injEq] at h1;rw [hA] at h1;cases h1.1
theorem Adk (k t r z:Int) (A:Option Addr) (n c:Nat) (p:List Rn) (w:World) (hr:RR w w.heap.size A p) (hn:p.length=n) (hl:n < 1073741824):
 Calls Tryz.prog 82 #[Gq k t r A n c z] w fun e w'=>∃ A' c',e= .returned (Gq k t r A' p.length c' z)/\(A'=none->c'=0)/\w'.ownsRow w.heap.size 120 3 (.slice A' p.length c') p.length (Ed p)/\Below w.heap.size w w':=by
 obtain⟨w1,au,F1,af,ac⟩:=Cv w (.int .u8 k) (.int .u32 t) (.int .u8 r) (.slice A n c) (.int .i64 z);obtain⟨w2,fc,F2,cd,ae⟩:=Cv w1 (.int .u8 0) (.int .u32 0) (.int .u8 0) (.slice none 0 0) (.int .i64 0);have al:=Ad ac ae;have FG:=F1.below ae;replace af:=FG.lt;have T:=Aa (Up A n c p w2 (hr.below' al) hn hl);obtain⟨c0,c1,c2,c3,c4⟩:=FG.cells;clear hr hn hl F1;go_enter Tryz.func82,Tryz.ntmps82;go_wp2_with fail;refine T.out.mono ?_;rintro e w3 ⟨v,rfl,ah,ag⟩;have AT:=FG.below ag;have KM:=F2.below ag;obtain⟨g1,ua⟩:∃ g,g=w.heap.size:=⟨_,rfl⟩;obtain⟨g2,oq⟩:∃ g,g=w1.heap.size:=⟨_,rfl⟩
 have ak:g1≠g2:=by rw [ua,oq];have:=ac.size;have:w.heap.size < w1.heap.size:=by rw [<-au];simp
                   omega
 have hg12:g1 < w2.heap.size:=by rw [ua];exact af
 have hg22:g2 < w2.heap.size:=by rw [oq];exact cd
 rw [<-ua] at AT;rw [<-oq] at KM;rw [<-ua,<-oq];clear au fc c0 c1 c2 c3 c4 FG F2;have z3:=AT.fr 3;have KN:=AT.set3 v;have qk:=KM.other (fun h=>ak h.symm) 3 v;have Hb4:=Aa (Ad al ag);obtain⟨w4,eo⟩:∃ w4,w3.setCell ⟨g1,3,none⟩ v=w4:=⟨_,rfl⟩;rw [eo] at KN qk;obtain⟨A',c',rfl,IR,-,-⟩:=Ao ah;have LN:=Aa (Gi ah);obtain⟨d0,d1,d2,d3,d4⟩:=KN.cells;have f0:=qk.fr 0;have f1:=qk.fr 1;have f2:=qk.fr 2;have f3:=qk.fr 3;have f4:=qk.fr 4;have HF:=Aa qk;have HG:=Aa (And.intro ua oq);have Hx:=Aa ak;have yt:=Aa ah;obtain⟨e0,e1,e2,e3,e4⟩:=AT.cells;obtain⟨u0,u1,u2,u3,u4⟩:=qk.cells;clear AT KM KN qk ua oq ak ah IR;go_wp2_with fail
 try rw [eo]
 have F5:=El HF.out (.int .u8 k) (.int .u32 t) (.int .u8 r) (.slice A' p.length c') (.int .i64 z);have tm:Below w.heap.size w (Di w4 g2 (.int .u8 k) (.int .u32 t) (.int .u8 r) (.slice A' p.length c') (.int .i64 z)):=by
  rw [<-eo];refine Cm (Hb4.out.setCell ?_ _) _ _ _ _ _ _ ?_
  ·rw [HG.out.1];exact Nat.le_refl _
  ·rw [HG.out.2];exact ac.size
 have li:(Di w4 g2 (.int .u8 k) (.int .u32 t) (.int .u8 r) (.slice A' p.length c') (.int .i64 z)).ownsRow w.heap.size 120 3 (.slice A' p.length c') p.length (Ed p):=by
  refine Nh yt.out al.size fun g hg=>?_;rw [Eg (by omega),<-eo,heap_setCell_other _ _ _ _ (by simp only;omega)]
 change bodyPost _ _ _ _ _ (Di w4 g2 (.int .u8 k) (.int .u32 t) (.int .u8 r) (.slice A' p.length c') (.int .i64 z));generalize Di w4 g2 (.int .u8 k) (.int .u32 t) (.int .u8 r) (.slice A' p.length c') (.int .i64 z)=W at F5 tm li |-;obtain⟨v0,v1,v2,v3,v4⟩:=F5.cells;refine bodyPost_ret (v:=Gq k t r A' p.length c' z) (by simp [results,Tryz.results82,go_sem,v0,v1,v2,v3,v4]) rfl ⟨A',c',rfl,LN.out,li,tm⟩
theorem Wr (k t r z:Int) (A:Option Addr) (n c:Nat) (p:List Rn) (w:World) (hr:RR w w.heap.size A p) (hn:p.length=n) (hl:n < 1073741824) (ff:A=none->c=0):
 Calls Tryz.prog 67 #[Gq k t r A n c z] w fun e w'=>∃ A' c',e= .returned (Gq k t r A' p.length c' z)/\(A'=none->c'=0)/\w'.ownsRow w.heap.size 120 3 (.slice A' p.length c') p.length (Ed p)/\Below w.heap.size w w':=by
 obtain⟨w1,au,F1,af,ac⟩:=Cv w (.int .u8 k) (.int .u32 t) (.int .u8 r) (.slice A n c) (.int .i64 z);obtain⟨w2,fc,F2,cd,ae⟩:=Cv w1 (.int .u8 0) (.int .u32 0) (.int .u8 0) (.slice none 0 0) (.int .i64 0);have al:=Ad ac ae;have FG:=F1.below ae;replace af:=FG.lt;have T:=Aa (Yn A n c p w2 (hr.below' al) hn hl ff);obtain⟨c0,c1,c2,c3,c4⟩:=FG.cells;clear hr hn hl ff F1;go_enter Tryz.func67,Tryz.ntmps67;go_wp2_with fail;refine T.out.mono ?_;rintro e w3 ⟨v,rfl,ah,ag⟩;have AT:=FG.below ag;have KM:=F2.below ag;obtain⟨g1,ua⟩:∃ g,g=w.heap.size:=⟨_,rfl⟩;obtain⟨g2,oq⟩:∃ g,g=w1.heap.size:=⟨_,rfl⟩
 have ak:g1≠g2:=by rw [ua,oq];have:=ac.size;have:w.heap.size < w1.heap.size:=by rw [<-au];simp
                   omega
 have hg12:g1 < w2.heap.size:=by rw [ua];exact af
 have hg22:g2 < w2.heap.size:=by rw [oq];exact cd
 rw [<-ua] at AT;rw [<-oq] at KM;rw [<-ua,<-oq];clear au fc c0 c1 c2 c3 c4 FG F2;have z3:=AT.fr 3;have KN:=AT.set3 v;have qk:=KM.other (fun h=>ak h.symm) 3 v;have Hb4:=Aa (Ad al ag);obtain⟨w4,eo⟩:∃ w4,w3.setCell ⟨g1,3,none⟩ v=w4:=⟨_,rfl⟩;rw [eo] at KN qk;obtain⟨A',c',rfl,IR,-,-⟩:=Ao ah;have LN:=Aa (Gi ah);obtain⟨d0,d1,d2,d3,d4⟩:=KN.cells;have f0:=qk.fr 0;have f1:=qk.fr 1;have f2:=qk.fr 2;have f3:=qk.fr 3;have f4:=qk.fr 4;have HF:=Aa qk;have HG:=Aa (And.intro ua oq);have Hx:=Aa ak;have yt:=Aa ah;obtain⟨e0,e1,e2,e3,e4⟩:=AT.cells;obtain⟨u0,u1,u2,u3,u4⟩:=qk.cells;clear AT KM KN qk ua oq ak ah IR;go_wp2_with fail
 try rw [eo]
 have F5:=El HF.out (.int .u8 k) (.int .u32 t) (.int .u8 r) (.slice A' p.length c') (.int .i64 z);have tm:Below w.heap.size w (Di w4 g2 (.int .u8 k) (.int .u32 t) (.int .u8 r) (.slice A' p.length c') (.int .i64 z)):=by
  rw [<-eo];refine Cm (Hb4.out.setCell ?_ _) _ _ _ _ _ _ ?_
  ·rw [HG.out.1];exact Nat.le_refl _
  ·rw [HG.out.2];exact ac.size
 have li:(Di w4 g2 (.int .u8 k) (.int .u32 t) (.int .u8 r) (.slice A' p.length c') (.int .i64 z)).ownsRow w.heap.size 120 3 (.slice A' p.length c') p.length (Ed p):=by
  refine Nh yt.out al.size fun g hg=>?_;rw [Eg (by omega),<-eo,heap_setCell_other _ _ _ _ (by simp only;omega)]
 change bodyPost _ _ _ _ _ (Di w4 g2 (.int .u8 k) (.int .u32 t) (.int .u8 r) (.slice A' p.length c') (.int .i64 z));generalize Di w4 g2 (.int .u8 k) (.int .u32 t) (.int .u8 r) (.slice A' p.length c') (.int .i64 z)=W at F5 tm li |-;obtain⟨v0,v1,v2,v3,v4⟩:=F5.cells;refine bodyPost_ret (v:=Gq k t r A' p.length c' z) (by simp [results,Tryz.results67,go_sem,v0,v1,v2,v3,v4]) rfl ⟨A',c',rfl,LN.out,li,tm⟩
theorem H9 {w w':World} {aa g size n:Nat} {e e':TypeId} {v:Value} {L:List Value} {cs:Array Value} (h:w.ownsRow aa e size v n L) (hF:w.heap[g]?=some (.cells cs e' (0,0))) (hT:e≠e') (hk:∀ k,k≠g->w'.heap[k]?=w.heap[k]?):w'.ownsRow aa e size v n L:=by
 refine⟨h.1,?_⟩;rcases h.2 with h1 | ⟨q,cap,bh,h1,h2,h3,h4⟩
 ·exact .inl h1
 ·refine .inr ⟨q,cap,bh,h1,h2,?_,h4⟩;have ak:q≠g:=by
   intro e;rw [e,hF] at h3;simp only [Option.some.injEq,Obj.cells.injEq] at h3;exact hT h3.2.1.symm
  rw [hk q ak,h3]
theorem Da.ne {w w':World} {aa g c:Nat} {e':TypeId} {A:Option Addr} {L:List Aq} {cs:Array Value} (h:Da w aa A c L) (hF:w.heap[g]?=some (.cells cs e' (0,0))) (h1:123≠e') (h2:129≠e') (hk:∀ k,k≠g->w'.heap[k]?=w.heap[k]?):Da w' aa A c L:=
 ⟨H9 h.1 hF h1 hk,fun x hx=>H9 (h.2 x hx) hF h2 hk⟩
theorem MB.ne {w w':World} {g gx:Nat} {e':TypeId} {cs:Array Value} {a b c d e f h:Value} (hM:MB w gx a b c d e f h) (hF:w.heap[g]?=some (.cells cs e' (0,0))) (hT:51≠e') (hk:∀ k,k≠g->w'.heap[k]?=w.heap[k]?):MB w' gx a b c d e f h:=by
 have ak:gx≠g:=by
  intro e;unfold MB at hM;rw [e,hF] at hM;simp only [Option.some.injEq,Obj.cells.injEq] at hM;exact hT hM.2.1.symm
 exact (hk gx ak).trans hM
theorem Gg {α:Type}:∀ (l r:List α) (k:Nat) (x:α),(l++r).set (l.length+k) x=l++r.set k x
 | [],r,k,x=>by simp
 | a :: l,r,k,x=>by
   rw [List.cons_append,List.length_cons,show l.length+1+k=(l.length+k)+1 by omega,List.set_cons_succ,Gg l r k x];rfl
theorem Z8:∀ (L:List Bj) (j:Nat) (y:Bj) (v0 v1 v2 v3 v4:Value),y.cells= [v0,v1,v2,v3,v4]->j < L.length->(((((Ec L).set (j * 5+0) v0).set (j * 5+1) v1).set (j * 5+2) v2).set (j * 5+3) v3).set (j * 5+4) v4=Ec (L.set j y)
 | x :: L,0,y,v0,v1,v2,v3,v4,hy,_=>by
   have e:Ec (x :: L)=x.cells++Ec L:=by simp [Ec]
   have e2:Ec ((x :: L).set 0 y)=y.cells++Ec L:=by simp [Ec]
   rw [e,e2,hy];simp [Bj.cells]
 | x :: L,j+1,y,v0,v1,v2,v3,v4,hy,hj=>by
   have ih:=Z8 L j y v0 v1 v2 v3 v4 hy (by simpa using hj);have e:Ec (x :: L)=x.cells++Ec L:=by simp [Ec]
   have e2:Ec ((x :: L).set (j+1) y)=x.cells++Ec (L.set j y):=by simp [Ec]
   have hl:x.cells.length=5:=rfl;rw [e,e2,<-ih];have hk:∀ i,(j+1) * 5+i=x.cells.length+(j * 5+i):=fun i=>by rw [hl];omega
   simp only [hk,Gg]
theorem Aet {W:World} {B g c n j:Nat} {Q:List Bj} (y:Bj) (v0 v1 v2 v3 v4:Value) (hy:y.cells= [v0,v1,v2,v3,v4]) (h:W.ownsRow B 104 5 (.slice (some ⟨g,0,none⟩) n c) n (Ec Q)) (hn:Q.length=n) (hj:j < n):
 (W.frozen? ⟨g,j * 5,none⟩=false/\(W.setCell ⟨g,j * 5,none⟩ v0).frozen? ⟨g,j * 5+1,none⟩=false/\((W.setCell ⟨g,j * 5,none⟩ v0).setCell ⟨g,j * 5+1,none⟩ v1).frozen? ⟨g,j * 5+2,none⟩=false/\(((W.setCell ⟨g,j * 5,none⟩ v0).setCell ⟨g,j * 5+1,none⟩ v1).setCell ⟨g,j * 5+2,none⟩ v2).frozen? ⟨g,j * 5+3,none⟩=false/\((((W.setCell ⟨g,j * 5,none⟩ v0).setCell ⟨g,j * 5+1,none⟩ v1).setCell ⟨g,j * 5+2,none⟩ v2).setCell ⟨g,j * 5+3,none⟩ v3).frozen? ⟨g,j * 5+4,none⟩=false)/\(∃ cs,W.heap[g]?=some (.cells cs 104 (0,0)))/\B<=g/\(((((W.setCell ⟨g,j * 5,none⟩ v0).setCell ⟨g,j * 5+1,none⟩ v1).setCell ⟨g,j * 5+2,none⟩ v2).setCell ⟨g,j * 5+3,none⟩ v3).setCell ⟨g,j * 5+4,none⟩ v4).ownsRow B 104 5 (.slice (some ⟨g,0,none⟩) n c) n (Ec (Q.set j y))/\∀ k,k≠g->(((((W.setCell ⟨g,j * 5,none⟩ v0).setCell ⟨g,j * 5+1,none⟩ v1).setCell ⟨g,j * 5+2,none⟩ v2).setCell ⟨g,j * 5+3,none⟩ v3).setCell ⟨g,j * 5+4,none⟩ v4).heap[k]?=W.heap[k]?:=by
 rcases h.2 with⟨h1,-⟩ | ⟨q,cap,bh,h1,h2,h3,h4,h5,h6,h7⟩
 ·simp at h1
 simp only [Value.slice.injEq,Option.some.injEq,Addr.mk.injEq,and_true,true_and] at h1;obtain⟨rfl,rfl⟩:=h1;have F0:=heap_setCell_same W g (j * 5) _ _ v0 h3;have F1:=heap_setCell_same (W.setCell ⟨g,j * 5,none⟩ v0) g (j * 5+1) _ _ v1 F0;have F2:=heap_setCell_same ((W.setCell ⟨g,j * 5,none⟩ v0).setCell ⟨g,j * 5+1,none⟩ v1) g (j * 5+2) _ _ v2 F1;have F3:=heap_setCell_same (((W.setCell ⟨g,j * 5,none⟩ v0).setCell ⟨g,j * 5+1,none⟩ v1).setCell ⟨g,j * 5+2,none⟩ v2) g (j * 5+3) _ _ v3 F2;have F4:=heap_setCell_same ((((W.setCell ⟨g,j * 5,none⟩ v0).setCell ⟨g,j * 5+1,none⟩ v1).setCell ⟨g,j * 5+2,none⟩ v2).setCell ⟨g,j * 5+3,none⟩ v3) g (j * 5+4) _ _ v4 F3;refine⟨⟨frozen_of_row _ g _ _ _ h3,frozen_of_row _ g _ _ _ F0,frozen_of_row _ g _ _ _ F1,frozen_of_row _ g _ _ _ F2,frozen_of_row _ g _ _ _ F3⟩,⟨bh,h3⟩,h2,⟨by rw [Aa9,List.length_set,hn],.inr ⟨g,c,_,rfl,h2,F4,h4,h5,by simpa using h6,?_⟩⟩,fun k hk=>?_⟩
 ·rw [<-Z8 Q j y v0 v1 v2 v3 v4 hy (by omega)];simp only [Array.toList_setIfInBounds,List.take_set,h7,Nat.add_zero]
 ·rw [heap_setCell_other _ _ _ _ hk,heap_setCell_other _ _ _ _ hk,heap_setCell_other _ _ _ _ hk,heap_setCell_other _ _ _ _ hk,heap_setCell_other _ _ _ _ hk]
theorem Z1:∀ (L:List Ay) (j:Nat) (y:Ay) (v0 v1 v2 v3 v4 v5 v6:Value),y.cells= [v0,v1,v2,v3,v4,v5,v6]->j < L.length->(((((((Jw L).set (j * 7+0) v0).set (j * 7+1) v1).set (j * 7+2) v2).set (j * 7+3) v3).set (j * 7+4) v4).set (j * 7+5) v5).set (j * 7+6) v6=Jw (L.set j y)
 | x :: L,0,y,v0,v1,v2,v3,v4,v5,v6,hy,_=>by
   have e:Jw (x :: L)=x.cells++Jw L:=by simp [Jw]
   have e2:Jw ((x :: L).set 0 y)=y.cells++Jw L:=by simp [Jw]
   rw [e,e2,hy];simp [Ay.cells]
 | x :: L,j+1,y,v0,v1,v2,v3,v4,v5,v6,hy,hj=>by
   have ih:=Z1 L j y v0 v1 v2 v3 v4 v5 v6 hy (by simpa using hj);have e:Jw (x :: L)=x.cells++Jw L:=by simp [Jw]
   have e2:Jw ((x :: L).set (j+1) y)=x.cells++Jw (L.set j y):=by simp [Jw]
   have hl:x.cells.length=7:=rfl;rw [e,e2,<-ih];have hk:∀ i,(j+1) * 7+i=x.cells.length+(j * 7+i):=fun i=>by rw [hl];omega
   simp only [hk,Gg]
theorem Ad8 {W:World} {B g c n j:Nat} {Q:List Ay} (y:Ay) (v0 v1 v2 v3 v4 v5 v6:Value) (hy:y.cells= [v0,v1,v2,v3,v4,v5,v6]) (h:W.ownsRow B 79 7 (.slice (some ⟨g,0,none⟩) n c) n (Jw Q)) (hn:Q.length=n) (hj:j < n):
 (W.frozen? ⟨g,j * 7,none⟩=false/\(W.setCell ⟨g,j * 7,none⟩ v0).frozen? ⟨g,j * 7+1,none⟩=false/\((W.setCell ⟨g,j * 7,none⟩ v0).setCell ⟨g,j * 7+1,none⟩ v1).frozen? ⟨g,j * 7+2,none⟩=false/\(((W.setCell ⟨g,j * 7,none⟩ v0).setCell ⟨g,j * 7+1,none⟩ v1).setCell ⟨g,j * 7+2,none⟩ v2).frozen? ⟨g,j * 7+3,none⟩=false/\((((W.setCell ⟨g,j * 7,none⟩ v0).setCell ⟨g,j * 7+1,none⟩ v1).setCell ⟨g,j * 7+2,none⟩ v2).setCell ⟨g,j * 7+3,none⟩ v3).frozen? ⟨g,j * 7+4,none⟩=false/\(((((W.setCell ⟨g,j * 7,none⟩ v0).setCell ⟨g,j * 7+1,none⟩ v1).setCell ⟨g,j * 7+2,none⟩ v2).setCell ⟨g,j * 7+3,none⟩ v3).setCell ⟨g,j * 7+4,none⟩ v4).frozen? ⟨g,j * 7+5,none⟩=false/\((((((W.setCell ⟨g,j * 7,none⟩ v0).setCell ⟨g,j * 7+1,none⟩ v1).setCell ⟨g,j * 7+2,none⟩ v2).setCell ⟨g,j * 7+3,none⟩ v3).setCell ⟨g,j * 7+4,none⟩ v4).setCell ⟨g,j * 7+5,none⟩ v5).frozen? ⟨g,j * 7+6,none⟩=false)/\(∃ cs,W.heap[g]?=some (.cells cs 79 (0,0)))/\B<=g/\(((((((W.setCell ⟨g,j * 7,none⟩ v0).setCell ⟨g,j * 7+1,none⟩ v1).setCell ⟨g,j * 7+2,none⟩ v2).setCell ⟨g,j * 7+3,none⟩ v3).setCell ⟨g,j * 7+4,none⟩ v4).setCell ⟨g,j * 7+5,none⟩ v5).setCell ⟨g,j * 7+6,none⟩ v6).ownsRow B 79 7 (.slice (some ⟨g,0,none⟩) n c) n (Jw (Q.set j y))/\∀ k,k≠g->(((((((W.setCell ⟨g,j * 7,none⟩ v0).setCell ⟨g,j * 7+1,none⟩ v1).setCell ⟨g,j * 7+2,none⟩ v2).setCell ⟨g,j * 7+3,none⟩ v3).setCell ⟨g,j * 7+4,none⟩ v4).setCell ⟨g,j * 7+5,none⟩ v5).setCell ⟨g,j * 7+6,none⟩ v6).heap[k]?=W.heap[k]?:=by
 rcases h.2 with⟨h1,-⟩ | ⟨q,cap,bh,h1,h2,h3,h4,h5,h6,h7⟩
 ·simp at h1
 simp only [Value.slice.injEq,Option.some.injEq,Addr.mk.injEq,and_true,true_and] at h1;obtain⟨rfl,rfl⟩:=h1;have F0:=heap_setCell_same W g (j * 7) _ _ v0 h3;have F1:=heap_setCell_same (W.setCell ⟨g,j * 7,none⟩ v0) g (j * 7+1) _ _ v1 F0;have F2:=heap_setCell_same ((W.setCell ⟨g,j * 7,none⟩ v0).setCell ⟨g,j * 7+1,none⟩ v1) g (j * 7+2) _ _ v2 F1;have F3:=heap_setCell_same (((W.setCell ⟨g,j * 7,none⟩ v0).setCell ⟨g,j * 7+1,none⟩ v1).setCell ⟨g,j * 7+2,none⟩ v2) g (j * 7+3) _ _ v3 F2;have F4:=heap_setCell_same ((((W.setCell ⟨g,j * 7,none⟩ v0).setCell ⟨g,j * 7+1,none⟩ v1).setCell ⟨g,j * 7+2,none⟩ v2).setCell ⟨g,j * 7+3,none⟩ v3) g (j * 7+4) _ _ v4 F3;have F5:=heap_setCell_same (((((W.setCell ⟨g,j * 7,none⟩ v0).setCell ⟨g,j * 7+1,none⟩ v1).setCell ⟨g,j * 7+2,none⟩ v2).setCell ⟨g,j * 7+3,none⟩ v3).setCell ⟨g,j * 7+4,none⟩ v4) g (j * 7+5) _ _ v5 F4;have F6:=heap_setCell_same ((((((W.setCell ⟨g,j * 7,none⟩ v0).setCell ⟨g,j * 7+1,none⟩ v1).setCell ⟨g,j * 7+2,none⟩ v2).setCell ⟨g,j * 7+3,none⟩ v3).setCell ⟨g,j * 7+4,none⟩ v4).setCell ⟨g,j * 7+5,none⟩ v5) g (j * 7+6) _ _ v6 F5;refine⟨⟨frozen_of_row _ g _ _ _ h3,frozen_of_row _ g _ _ _ F0,frozen_of_row _ g _ _ _ F1,frozen_of_row _ g _ _ _ F2,frozen_of_row _ g _ _ _ F3,frozen_of_row _ g _ _ _ F4,frozen_of_row _ g _ _ _ F5⟩,⟨bh,h3⟩,h2,⟨by rw [Aca,List.length_set,hn],.inr ⟨g,c,_,rfl,h2,F6,h4,h5,by simpa using h6,?_⟩⟩,fun k hk=>?_⟩
 ·rw [<-Z1 Q j y v0 v1 v2 v3 v4 v5 v6 hy (by omega)];simp only [Array.toList_setIfInBounds,List.take_set,h7,Nat.add_zero]
 ·rw [heap_setCell_other _ _ _ _ hk,heap_setCell_other _ _ _ _ hk,heap_setCell_other _ _ _ _ hk,heap_setCell_other _ _ _ _ hk,heap_setCell_other _ _ _ _ hk,heap_setCell_other _ _ _ _ hk,heap_setCell_other _ _ _ _ hk]
end Go.Proofs.YtmkpfdcnikgokaaGreat
