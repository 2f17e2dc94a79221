/-
  Texts of this claim, put together: LinkTells, Open, OpenOps, MailRef, MailRef2, OpenMail, OpenFrs2. What each theorem asks stands in its statement.
-/
import Derived.Test.YtmkpfdcnikgokaaGreatRows
import Derived.ProofKit
import Derived.OpenShut
import Derived.ShutString
import Derived.ChangeOld
import Derived.ChangeMaps5
import Derived.Lib.SmallJoins
import Derived.Deep.SlicePairs
import Derived.SizedLaws
import Derived.Test.YtmkpfdcnikgokaaGreatLt1
import Derived.Test.YtmkpfdcnikgokaaGreatLt5
import Derived.Test.YtmkpfdcnikgokaaGreatLt8
import Derived.Test.YtmkpfdcnikgokaaGreatLt11
import Derived.Test.YtmkpfdcnikgokaaGreatLt15
import Derived.Test.YtmkpfdcnikgokaaGreatLt30
import Derived.Test.YtmkpfdcnikgokaaGreatLt31
import Derived.Test.YtmkpfdcnikgokaaGreatLt47
set_option linter.unusedVariables false
set_option linter.unusedSimpArgs false
set_option maxRecDepth 100000
set_option maxHeartbeats 25600000
namespace Go.Proofs.YtmkpfdcnikgokaaGreat
open Go.RowKit
theorem len_b {L M:List FrL} (h:L.map FrL.b=M.map FrL.b):L.length=M.length:=by
 have:=congrArg List.length h
 simpa using this
theorem pushE_b {L M:List FrL} (h:L.map FrL.b=M.map FrL.b) (b:List UInt8):pushE L b=pushE M b:=by
 unfold pushE
 rw [len_b h]
 simp only [okF_b h]
theorem pushL_b {L M:List FrL} (h:L.map FrL.b=M.map FrL.b) (b:List UInt8):pushL L b=pushL M b:=by
 unfold pushL
 rw [pushE_b h,h]
theorem atE_b {L M:List FrL} (h:L.map FrL.b=M.map FrL.b) (m:Int):atE L m=atE M m:=by
 unfold atE
 rw [len_b h]
 simp only [okF_b h]
theorem pullV_b {L M:List FrL} (h:L.map FrL.b=M.map FrL.b) (m:Int):pullV L m=pullV M m:=by
 unfold pullV
 rw [atE_b h,h]
theorem doubE_b {L M:List FrL} (h:L.map FrL.b=M.map FrL.b) (m:Int):doubE L m=doubE M m:=by
 unfold doubE
 rw [atE_b h,len_b h]
theorem doubV_b {L M:List FrL} (h:L.map FrL.b=M.map FrL.b) (m:Int):doubV L m=doubV M m:=by
 unfold doubV
 rw [doubE_b h,h]
theorem garE_b {L M:List FrL} (h:L.map FrL.b=M.map FrL.b) (m:Int) (b:List UInt8):garE L m b=garE M m b:=by
 unfold garE
 rw [atE_b h]
theorem garV_b {L M:List FrL} (h:L.map FrL.b=M.map FrL.b) (m:Int) (b:List UInt8):garV L m b=garV M m b:=by
 unfold garV
 rw [atE_b h,h]
theorem chkF_b {L M:List FrL} (h:L.map FrL.b=M.map FrL.b):chkF L=chkF M:=by
 unfold chkF
 by_cases hk:okF L
 ·rw [if_pos hk,if_pos ((okF_b h).1 hk)]
 ·rw [if_neg hk,if_neg (fun k=>hk ((okF_b h).2 k))]
theorem pushL_len (L:List FrL) (b:List UInt8):(pushL L b).length≤L.length+1:=by
 unfold pushL
 split <;> simp
theorem pullV_len (L:List FrL) (m:Int):(pullV L m).2.length≤L.length:=by
 unfold pullV
 split
 ·rw [List.length_eraseIdx]
  simp only [List.length_map]
  split <;> omega
 ·simp
theorem doubV_len (L:List FrL) (m:Int):(doubV L m).length≤L.length+1:=by
 unfold doubV
 split <;> simp
theorem garV_len (L:List FrL) (m:Int) (b:List UInt8):(garV L m b).length≤L.length:=by
 unfold garV gar1V
 split
 ·split
  ·simp
  ·split
   ·rw [List.length_eraseIdx]
    simp only [List.length_map]
    split <;> omega
   ·simp
 ·simp
theorem okF_len {L:List FrL} {K:List (List UInt8)} (h:L.map FrL.b=K) (hk:∀ b∈K,b.length≤1000000):∀ x∈L,x.b.length≤1000000:=fun x hx=>hk x.b (by rw [←h];exact List.mem_map_of_mem hx)
theorem pushL_small (L:List FrL) (b:List UInt8):∀ y∈pushL L b,y.length≤1000000:=by
 intro y hy
 unfold pushL at hy
 split at hy
 ·rename_i h
  unfold pushE at h
  split at h
  ·cases h
  ·rename_i hk
   have hok:=Classical.not_not.1 hk
   split at h
   ·cases h
   ·rcases List.mem_append.1 hy with hy | hy
    ·obtain⟨x,hx,rfl⟩:=List.mem_map.1 hy
     have:=hok.2 x hx
     omega
    ·rw [List.mem_singleton] at hy
     subst hy
     omega
 ·cases hy
theorem pullV_small (L:List FrL) (m:Int):(pullV L m).1.length≤1000000∧∀ y∈(pullV L m).2,y.length≤1000000:=by
 unfold pullV
 split
 ·rename_i h
  obtain⟨hok,-,-⟩:=atE_ok h
  refine⟨?_,fun y hy=>?_⟩
  ·simp only
   cases hx:(L.map FrL.b)[m.toNat]? with
   | none=>simp
   | some y=>
     obtain⟨x,hx2,rfl⟩:=List.mem_map.1 (List.mem_of_getElem? hx)
     have:=hok.2 x hx2
     simp only [Option.getD_some]
     omega
  ·obtain⟨x,hx,rfl⟩:=List.mem_map.1 (List.mem_of_mem_eraseIdx hy)
   have:=hok.2 x hx
   omega
 ·exact⟨by simp,fun y hy=>by cases hy⟩
theorem doubV_small (L:List FrL) (m:Int):∀ y∈doubV L m,y.length≤1000000:=by
 intro y hy
 unfold doubV at hy
 split at hy
 ·rename_i h
  have h0:atE L m=0:=by
   unfold doubE at h
   split at h
   ·rename_i h0;exact h0
   ·rename_i h0;exact (h0 h).elim
  obtain⟨hok,-,-⟩:=atE_ok h0
  rcases List.mem_append.1 hy with hy | hy
  ·obtain⟨x,hx,rfl⟩:=List.mem_map.1 hy
   have:=hok.2 x hx
   omega
  ·rw [List.mem_singleton] at hy
   subst hy
   have:=(pullV_small L m).1
   unfold pullV at this
   rwa [if_pos h0] at this
 ·cases hy
theorem garV_small (L:List FrL) (m:Int) (b:List UInt8):∀ y∈garV L m b,y.length≤1000000:=by
 intro y hy
 unfold garV at hy
 split at hy
 ·rename_i h
  obtain⟨hok,-,-⟩:=atE_ok h
  unfold gar1V at hy
  split at hy
  ·cases hy
  ·rename_i hb
   split at hy
   ·obtain⟨x,hx,rfl⟩:=List.mem_map.1 (List.mem_of_mem_eraseIdx hy)
    have:=hok.2 x hx
    omega
   ·rcases List.mem_or_eq_of_mem_set hy with hy | rfl
    ·obtain⟨x,hx,rfl⟩:=List.mem_map.1 hy
     have:=hok.2 x hx
     omega
    ·omega
 ·cases hy
theorem lsame_yes (A B:Option Addr) (n m c d:Nat) (L M:List FrL) (w:World) (hr:RF w w.heap.size A L) (hs:RF w w.heap.size B M) (hn:L.length=n) (hm:M.length=m) (hn9:n < 1000000) (h:L.map FrL.b=M.map FrL.b):
 Calls Tryz.prog 15 #[.slice A n c,.slice B m d] w fun e w'=>e= .returned (.bool true)∧Below w.heap.size w w':=by
 have:=lsame A B n m c d L M w hr hs hn hm hn9
 rwa [decide_eq_true h] at this
theorem linkTells_walk (A0 bA:Option Addr) (n0 c0 bn bc:Nat) (m:Int) (L:List FrL) (b:List UInt8) (w:World) (hr0:RF w w.heap.size A0 L) (hn0:L.length=n0) (hsz:∀ x∈L,x.b.length≤140737488351232) (hrb:RB w w.heap.size bA b) (hbn:b.length=bn) (hbc:bn≤bc):
 Calls Tryz.prog 3 #[.slice A0 n0 c0,.int .i64 m,.slice bA bn bc] w fun e w'=>e= .returned (.bool true)∧Below w.heap.size w w':=by
 have HR0:=hide hr0
 have HRb:=hide hrb
 have Hn0:=hide hn0
 have Hbn:=hide hbn
 have Hsz:=hide hsz
 clear hr0 hrb hn0 hbn hsz
 go_enter Tryz.func3,Tryz.ntmps3
 go_wp2_with fail
 refine (lgreat A0 n0 c0 L w HR0.out Hn0.out).mono ?_
 rintro e wg ⟨v,rfl,⟨g,rfl,hg⟩,hwg⟩
 replace hwg:=hwg.symm
 subst hwg
 cases g with
 | true=>
   clear hg
   go_wp2_with fail
   go_ret
   exact⟨rfl,Below.refl _ _⟩
 | false=>
 have hn100:=hg rfl
 by_cases hbig:(30000:Int) < bn
 ·clear hg
  go_wp2_with fail
  go_ret
  exact⟨rfl,Below.refl _ _⟩
 clear hg
 have hT:=hide (rtwin A0 n0 c0 L w HR0.out Hn0.out (by omega) Hsz.out)
 go_wp2_with fail
 refine hT.out.mono ?_
 rintro e w1 ⟨A1,c1,L1,rfl,hL1,hO1,hb1⟩
 have hl1:L1.length=n0:=by rw [len_b hL1,Hn0.out]
 have HO1:=hide hO1
 have HL1:=hide hL1
 have Hl1:=hide hl1
 have HB1:=hide hb1
 have R0:=hide (fun W (hb:Below w.heap.size w W)=>(show RF W W.heap.size A0 L from (HR0.out.below hb).more hb.size))
 have RB0:=hide (fun W (hb:Below w.heap.size w W)=>(show RB W W.heap.size bA b from (RD.below HRb.out hb).more hb.size))
 have R1:=hide (fun W (hb:Below w1.heap.size w1 W)=>(show RF W W.heap.size A1 L1 from (HO1.out.below hb).rf))
 have U1:=hide (fun W (hb:Below w1.heap.size w1 W)=>(show Below w.heap.size w W from fresh HB1.out hb))
 have hsm:=pushL_small L b
 have hsq:=pullV_small L m
 have hsd:=doubV_small L m
 have hsg:=garV_small L m b
 have hlm:=pushL_len L b
 have hlq:=pullV_len L m
 have hld:=doubV_len L m
 have hlg:=garV_len L m b
 rw [Hn0.out] at hlm hlq hld hlg
 obtain⟨eP,heP⟩:∃ q,pushE L b=q:=⟨_,rfl⟩
 obtain⟨vP,hvP⟩:∃ q,pushL L b=q:=⟨_,rfl⟩
 obtain⟨eA,heA⟩:∃ q,atE L m=q:=⟨_,rfl⟩
 obtain⟨⟨vB,vQ⟩,hvQ⟩:∃ q,pullV L m=q:=⟨_,rfl⟩
 obtain⟨eD,heD⟩:∃ q,doubE L m=q:=⟨_,rfl⟩
 obtain⟨vD,hvD⟩:∃ q,doubV L m=q:=⟨_,rfl⟩
 obtain⟨eG,heG⟩:∃ q,garE L m b=q:=⟨_,rfl⟩
 obtain⟨vG,hvG⟩:∃ q,garV L m b=q:=⟨_,rfl⟩
 obtain⟨eC,heC⟩:∃ q,chkF L=q:=⟨_,rfl⟩
 rw [hvP] at hsm hlm
 rw [hvQ] at hsq hlq
 rw [hvD] at hsd hld
 rw [hvG] at hsg hlg
 simp only at hsq hlq
 have HS:=hide (And.intro hsm (And.intro hsq (And.intro hsd hsg)))
 have HLn:=hide (And.intro hlm (And.intro hlq (And.intro hld hlg)))
 have hn6:n0≤1000000:=by omega
 have K2:=hide (fun W (hb:Below w1.heap.size w1 W)=>by
  have h:=lpush A1 bA n0 c1 bn bc L1 b W (R1.out W hb) Hl1.out (RB0.out W (U1.out W hb)) Hbn.out
  rw [pushE_b HL1.out,pushL_b HL1.out,heP,hvP] at h
  exact h)
 have K3:=hide (fun W (hb:Below w1.heap.size w1 W)=>by
  have h:=rpush A0 bA n0 c0 bn bc L b W (R0.out W (U1.out W hb)) Hn0.out hn6 (RB0.out W (U1.out W hb)) Hbn.out
  rw [heP,hvP] at h
  exact h)
 have K4:=hide (fun W (hb:Below w1.heap.size w1 W)=>by
  have h:=lpull A1 n0 c1 m L1 W (R1.out W hb) Hl1.out
  rw [atE_b HL1.out,pullV_b HL1.out,heA,hvQ] at h
  exact h)
 have K5:=hide (fun W (hb:Below w1.heap.size w1 W)=>by
  have h:=rpull A0 n0 c0 m L W (R0.out W (U1.out W hb)) Hn0.out hn6
  rw [heA,hvQ] at h
  exact h)
 have K6:=hide (fun W (hb:Below w1.heap.size w1 W)=>by
  have h:=ldouble A1 n0 c1 m L1 W (R1.out W hb) Hl1.out
  rw [doubE_b HL1.out,doubV_b HL1.out,heD,hvD] at h
  exact h)
 have K7:=hide (fun W (hb:Below w1.heap.size w1 W)=>by
  have h:=rdouble A0 n0 c0 m L W (R0.out W (U1.out W hb)) Hn0.out hn6
  rw [heD,hvD] at h
  exact h)
 have K8:=hide (fun W (hb:Below w1.heap.size w1 W)=>by
  have h:=lgarble A1 bA n0 c1 bn bc m b L1 W (R1.out W hb) Hl1.out (RB0.out W (U1.out W hb)) Hbn.out hbc
  rw [garE_b HL1.out,garV_b HL1.out,heG,hvG] at h
  exact h)
 have K9:=hide (fun W (hb:Below w1.heap.size w1 W)=>by
  have h:=rgarble A0 bA n0 c0 bn bc m b L W (R0.out W (U1.out W hb)) Hn0.out hn6 (RB0.out W (U1.out W hb)) Hbn.out hbc
  rw [heG,hvG] at h
  exact h)
 have KC:=hide (fun W (hb:Below w1.heap.size w1 W)=>by
  have h:=lcheck A1 n0 c1 L1 W (R1.out W hb) Hl1.out
  rw [chkF_b HL1.out,heC] at h
  exact h)
 have KD:=hide (fun W (hb:Below w1.heap.size w1 W)=>by
  have h:=rcheck A0 n0 c0 L W (R0.out W (U1.out W hb)) Hn0.out hn6
  rw [heC] at h
  exact h)
 clear heP hvP heA hvQ heD hvD heG hvG heC hO1 hL1 hl1 hb1 hT hsm hsq hsd hsg hlm hlq hld hlg
 have HB11:=hide (Below.refl w1.heap.size w1)
 go_wp2_with fail
 refine (K2.out w1 HB11.out).mono ?_
 rintro e w2 ⟨A2,c2,L2,rfl,hL2,hO2,hb2⟩
 obtain⟨l2,hl2⟩:∃ q,L2.length=q:=⟨_,rfl⟩
 rw [hl2]
 have Hl2:=hide hl2
 have HL2:=hide hL2
 have HO2:=hide hO2
 have HB2:=hide hb2
 have HB12:=hide (fresh HB11.out hb2)
 clear hL2 hO2 hb2 hl2
 go_wp2_with fail
 refine (K3.out w2 HB12.out).mono ?_
 rintro e w3 ⟨A3,c3,L3,rfl,hL3,hO3,hb3⟩
 obtain⟨l3,hl3⟩:∃ q,L3.length=q:=⟨_,rfl⟩
 rw [hl3]
 have Hl3:=hide hl3
 have HL3:=hide hL3
 have HO3:=hide hO3
 have HB3:=hide hb3
 have HB13:=hide (fresh HB12.out hb3)
 clear hL3 hO3 hb3 hl3
 go_wp2_with fail
 refine (K4.out w3 HB13.out).mono ?_
 rintro e w4 ⟨A4,c4,L4,⟨xA,xc,xb⟩,rfl,hx4,hL4,hw4,hO4,hb4⟩
 simp only at hx4 hL4 hw4 ⊢
 subst hx4
 obtain⟨lb,hlb⟩:∃ q,xb.length=q:=⟨_,rfl⟩
 rw [hlb] at hw4 ⊢
 have Hlb:=hide hlb
 have HX4:=hide hw4
 clear hw4 hlb
 obtain⟨l4,hl4⟩:∃ q,L4.length=q:=⟨_,rfl⟩
 rw [hl4]
 have Hl4:=hide hl4
 have HL4:=hide hL4
 have HO4:=hide hO4
 have HB4:=hide hb4
 have HB14:=hide (fresh HB13.out hb4)
 clear hL4 hO4 hb4 hl4
 go_wp2_with fail
 refine (K5.out w4 HB14.out).mono ?_
 rintro e w5 ⟨B5,d5,A5,c5,L5,rfl,hw5,hL5,hO5,hb5⟩
 simp only at hw5 hL5 ⊢
 rw [Hlb.out] at hw5 ⊢
 have HX5:=hide hw5
 clear hw5
 obtain⟨l5,hl5⟩:∃ q,L5.length=q:=⟨_,rfl⟩
 rw [hl5]
 have Hl5:=hide hl5
 have HL5:=hide hL5
 have HO5:=hide hO5
 have HB5:=hide hb5
 have HB15:=hide (fresh HB14.out hb5)
 clear hL5 hO5 hb5 hl5
 go_wp2_with fail
 refine (K6.out w5 HB15.out).mono ?_
 rintro e w6 ⟨A6,c6,L6,rfl,hL6,hO6,hb6⟩
 obtain⟨l6,hl6⟩:∃ q,L6.length=q:=⟨_,rfl⟩
 rw [hl6]
 have Hl6:=hide hl6
 have HL6:=hide hL6
 have HO6:=hide hO6
 have HB6:=hide hb6
 have HB16:=hide (fresh HB15.out hb6)
 clear hL6 hO6 hb6 hl6
 go_wp2_with fail
 refine (K7.out w6 HB16.out).mono ?_
 rintro e w7 ⟨A7,c7,L7,rfl,hL7,hO7,hb7⟩
 obtain⟨l7,hl7⟩:∃ q,L7.length=q:=⟨_,rfl⟩
 rw [hl7]
 have Hl7:=hide hl7
 have HL7:=hide hL7
 have HO7:=hide hO7
 have HB7:=hide hb7
 have HB17:=hide (fresh HB16.out hb7)
 clear hL7 hO7 hb7 hl7
 go_wp2_with fail
 refine (K8.out w7 HB17.out).mono ?_
 rintro e w8 ⟨A8,c8,L8,rfl,hL8,hO8,hb8⟩
 obtain⟨l8,hl8⟩:∃ q,L8.length=q:=⟨_,rfl⟩
 rw [hl8]
 have Hl8:=hide hl8
 have HL8:=hide hL8
 have HO8:=hide hO8
 have HB8:=hide hb8
 have HB18:=hide (fresh HB17.out hb8)
 clear hL8 hO8 hb8 hl8
 go_wp2_with fail
 refine (K9.out w8 HB18.out).mono ?_
 rintro e w9 ⟨A9,c9,L9,rfl,hL9,hO9,hb9⟩
 obtain⟨l9,hl9⟩:∃ q,L9.length=q:=⟨_,rfl⟩
 rw [hl9]
 have Hl9:=hide hl9
 have HL9:=hide hL9
 have HO9:=hide hO9
 have HB9:=hide hb9
 have HB19:=hide (fresh HB18.out hb9)
 clear hL9 hO9 hb9 hl9
 go_wp2_with fail
 refine (lsame_yes A2 A3 l2 l3 c2 c3 L2 L3 w9 (HO2.out.below (fresh (fresh (fresh (fresh (fresh (fresh HB3.out HB4.out) HB5.out) HB6.out) HB7.out) HB8.out) HB9.out)).rf (HO3.out.below (fresh (fresh (fresh (fresh (fresh HB4.out HB5.out) HB6.out) HB7.out) HB8.out) HB9.out)).rf Hl2.out Hl3.out (by have h1:=HL2.out;have h2:=congrArg List.length h1;rw [List.length_map,Hl2.out] at h2;have h3:=HLn.out.1;omega) (HL2.out.trans HL3.out.symm)).mono ?_
 rintro e w10 ⟨rfl,hb10⟩
 have HB10:=hide hb10
 have HB110:=hide (fresh HB19.out hb10)
 clear hb10
 have s1:=conv_bytes (P:=Tryz.prog) (show RB w10 w10.heap.size xA xb from RD.of_own (own_below (by rw [Hlb.out];exact HX4.out:w4.ownsRow w3.heap.size 5 1 (.slice xA xb.length xc) xb.length (u8s xb)) (fresh (fresh (fresh (fresh (fresh HB5.out HB6.out) HB7.out) HB8.out) HB9.out) HB10.out) (Nat.le_refl _))) Tryz.underlying23 Tryz.underlying5 Tryz.underlying9 xc
 have s2:=conv_bytes (P:=Tryz.prog) (show RB w10 w10.heap.size B5 xb from RD.of_own (own_below (by rw [Hlb.out];exact HX5.out:w5.ownsRow w4.heap.size 5 1 (.slice B5 xb.length d5) xb.length (u8s xb)) (fresh (fresh (fresh (fresh HB6.out HB7.out) HB8.out) HB9.out) HB10.out) (Nat.le_refl _))) Tryz.underlying23 Tryz.underlying5 Tryz.underlying9 d5
 rw [Hlb.out] at s1 s2
 go_wp2_with fail
 clear s1 s2
 refine (lsame_yes A4 A5 l4 l5 c4 c5 L4 L5 w10 (HO4.out.below (fresh (fresh (fresh (fresh (fresh HB5.out HB6.out) HB7.out) HB8.out) HB9.out) HB10.out)).rf (HO5.out.below (fresh (fresh (fresh (fresh HB6.out HB7.out) HB8.out) HB9.out) HB10.out)).rf Hl4.out Hl5.out (by have h1:=HL4.out;have h2:=congrArg List.length h1;rw [List.length_map,Hl4.out] at h2;have h3:=HLn.out.2.1;omega) (HL4.out.trans HL5.out.symm)).mono ?_
 rintro e w11 ⟨rfl,hb11⟩
 have HB11:=hide hb11
 have HB111:=hide (fresh HB110.out hb11)
 clear hb11
 go_wp2_with fail
 refine (lsame_yes A6 A7 l6 l7 c6 c7 L6 L7 w11 (HO6.out.below (fresh (fresh (fresh (fresh HB7.out HB8.out) HB9.out) HB10.out) HB11.out)).rf (HO7.out.below (fresh (fresh (fresh HB8.out HB9.out) HB10.out) HB11.out)).rf Hl6.out Hl7.out (by have h1:=HL6.out;have h2:=congrArg List.length h1;rw [List.length_map,Hl6.out] at h2;have h3:=HLn.out.2.2.1;omega) (HL6.out.trans HL7.out.symm)).mono ?_
 rintro e w12 ⟨rfl,hb12⟩
 have HB12:=hide hb12
 have HB112:=hide (fresh HB111.out hb12)
 clear hb12
 go_wp2_with fail
 refine (lsame_yes A8 A9 l8 l9 c8 c9 L8 L9 w12 (HO8.out.below (fresh (fresh (fresh HB9.out HB10.out) HB11.out) HB12.out)).rf (HO9.out.below (fresh (fresh HB10.out HB11.out) HB12.out)).rf Hl8.out Hl9.out (by have h1:=HL8.out;have h2:=congrArg List.length h1;rw [List.length_map,Hl8.out] at h2;have h3:=HLn.out.2.2.2;omega) (HL8.out.trans HL9.out.symm)).mono ?_
 rintro e w13 ⟨rfl,hb13⟩
 have HB13:=hide hb13
 have HB113:=hide (fresh HB112.out hb13)
 clear hb13
 go_wp2_with fail
 refine (KC.out w13 HB113.out).mono ?_
 rintro e wc ⟨rfl,hwc⟩
 replace hwc:=hwc.symm
 subst hwc
 go_wp2_with fail
 refine (KD.out w13 HB113.out).mono ?_
 rintro e wc ⟨rfl,hwc⟩
 replace hwc:=hwc.symm
 subst hwc
 go_wp2_with fail
 refine (lspoil A2 l2 c2 w1.heap.size w2.heap.size L2 w13 (by have h9:=(HO2.out.below (fresh (fresh (fresh (fresh (fresh (fresh (fresh (fresh (fresh (fresh HB3.out HB4.out) HB5.out) HB6.out) HB7.out) HB8.out) HB9.out) HB10.out) HB11.out) HB12.out) HB13.out)).wf;exact h9) Hl2.out (Nat.le_of_lt (by have h1:=HL2.out;have h2:=congrArg List.length h1;rw [List.length_map,Hl2.out] at h2;have h3:=HLn.out.1;omega)) (okF_len HL2.out HS.out.1) HO2.out.top).mono ?_
 rintro e w14 ⟨rfl,ho,hk⟩
 have SO14:=hide ho
 have SK14:=hide hk
 clear ho hk
 go_wp2_with fail
 refine (lspoil A4 l4 c4 w3.heap.size w4.heap.size L4 w14 (by have h9:=((HO4.out.below (fresh (fresh (fresh (fresh (fresh (fresh (fresh (fresh HB5.out HB6.out) HB7.out) HB8.out) HB9.out) HB10.out) HB11.out) HB12.out) HB13.out)).up SO14.out ((HB3.out).size)).wf;exact h9) Hl4.out (Nat.le_of_lt (by have h1:=HL4.out;have h2:=congrArg List.length h1;rw [List.length_map,Hl4.out] at h2;have h3:=HLn.out.2.1;omega)) (okF_len HL4.out HS.out.2.1.2) HO4.out.top).mono ?_
 rintro e w15 ⟨rfl,ho,hk⟩
 have SO15:=hide ho
 have SK15:=hide hk
 clear ho hk
 go_wp2_with fail
 refine (lspoil A6 l6 c6 w5.heap.size w6.heap.size L6 w15 (by have h9:=(((HO6.out.below (fresh (fresh (fresh (fresh (fresh (fresh HB7.out HB8.out) HB9.out) HB10.out) HB11.out) HB12.out) HB13.out)).up SO14.out (((fresh (fresh HB3.out HB4.out) HB5.out)).size)).up SO15.out ((HB5.out).size)).wf;exact h9) Hl6.out (Nat.le_of_lt (by have h1:=HL6.out;have h2:=congrArg List.length h1;rw [List.length_map,Hl6.out] at h2;have h3:=HLn.out.2.2.1;omega)) (okF_len HL6.out HS.out.2.2.1) HO6.out.top).mono ?_
 rintro e w16 ⟨rfl,ho,hk⟩
 have SO16:=hide ho
 have SK16:=hide hk
 clear ho hk
 go_wp2_with fail
 refine (lspoil A8 l8 c8 w7.heap.size w8.heap.size L8 w16 (by have h9:=((((HO8.out.below (fresh (fresh (fresh (fresh HB9.out HB10.out) HB11.out) HB12.out) HB13.out)).up SO14.out (((fresh (fresh (fresh (fresh HB3.out HB4.out) HB5.out) HB6.out) HB7.out)).size)).up SO15.out (((fresh (fresh HB5.out HB6.out) HB7.out)).size)).up SO16.out ((HB7.out).size)).wf;exact h9) Hl8.out (Nat.le_of_lt (by have h1:=HL8.out;have h2:=congrArg List.length h1;rw [List.length_map,Hl8.out] at h2;have h3:=HLn.out.2.2.2;omega)) (okF_len HL8.out HS.out.2.2.2) HO8.out.top).mono ?_
 rintro e w17 ⟨rfl,ho,hk⟩
 have SO17:=hide ho
 have SK17:=hide hk
 clear ho hk
 go_wp2_with fail
 have HY:=hide (SK17.out _ _ (SK16.out _ _ (SK15.out _ _ (SK14.out w3.heap.size ⟨xA,xc,xb⟩ ⟨xb,rfl,own_below (by rw [Hlb.out];exact HX4.out:w4.ownsRow w3.heap.size 5 1 (.slice xA xb.length xc) xb.length (u8s xb)) (fresh (fresh (fresh (fresh (fresh (fresh (fresh (fresh HB5.out HB6.out) HB7.out) HB8.out) HB9.out) HB10.out) HB11.out) HB12.out) HB13.out) (Nat.le_refl _)⟩))))
 have Hdown:=hide (show Below w1.heap.size w1 w17 from (((HB113.out.trans SO14.out.1).trans (SO15.out.1.mono ((fresh HB2.out HB3.out)).size)).trans (SO16.out.1.mono ((fresh (fresh (fresh HB2.out HB3.out) HB4.out) HB5.out)).size)).trans (SO17.out.1.mono ((fresh (fresh (fresh (fresh (fresh HB2.out HB3.out) HB4.out) HB5.out) HB6.out) HB7.out)).size))
 have hs17:w3.heap.size≤w17.heap.size:=by
  have h1:=SO14.out.2.1
  have h2:=SO15.out.2.1
  have h3:=SO16.out.2.1
  have h4:=SO17.out.2.1
  have h5:=((fresh (fresh (fresh (fresh (fresh (fresh (fresh (fresh (fresh HB4.out HB5.out) HB6.out) HB7.out) HB8.out) HB9.out) HB10.out) HB11.out) HB12.out) HB13.out)).size
  omega
 obtain⟨w18,hw18,G18,hb18⟩:∃ w18,w17.alloc (.cells #[.slice xA lb xc] 23)=w18∧w18.heap[w17.heap.size]?=some (.cells #[.slice xA lb xc] 23 (0,0))∧Below w17.heap.size w17 w18:=⟨_,rfl,heap_alloc_new _ _,(Below.refl _ _).alloc (Nat.le_refl _) _⟩
 have HW18:=hide (show WF w18 w3.heap.size (some ⟨w17.heap.size,0,none⟩) 1 [⟨xA,xc,xb⟩] by
  refine⟨⟨rfl,.inr ⟨w17.heap.size,1,_,rfl,hs17,G18,Nat.le_refl _,by decide,rfl,?_⟩⟩,fun x hx=>?_⟩
  ·show [Value.slice xA lb xc]= [Value.slice xA xb.length xc]
   rw [Hlb.out]
  ·rw [List.mem_singleton] at hx
   subst hx
   obtain⟨b',k1,k2⟩:=HY.out
   exact⟨b',k1,own_below k2 hb18 (Nat.le_refl _)⟩)
 have HT18:=hide (show TopF w4.heap.size [⟨xA,xc,xb⟩] from fun x hx q hq=>by
  rw [List.mem_singleton] at hx
  subst hx
  rcases HX4.out.2 with⟨h1,-⟩ | ⟨k,cap,cur,h1,h2,h3,-⟩
  ·simp only [Value.slice.injEq] at h1
   rw [show xA=none from h1.1] at hq
   cases hq
  ·simp only [Value.slice.injEq] at h1
   rw [show xA=some ⟨k,0,none⟩ from h1.1] at hq
   cases hq
   exact (Array.getElem?_eq_some_iff.1 h3).1)
 have Hw18:=hide hw18
 have HB18:=hide (Hdown.out.trans (hb18.mono Hdown.out.size))
 have Hlx:=hide (show ∀ x∈([⟨xA,xc,xb⟩]:List FrL),x.b.length≤1000000 from fun x hx=>by
  rw [List.mem_singleton] at hx
  subst hx
  exact HS.out.2.1.1)
 clear hw18 G18 hb18
 go_wp2_with fail
 rw [Hw18.out]
 refine (lspoil (some ⟨w17.heap.size,0,none⟩) 1 1 w3.heap.size w4.heap.size [⟨xA,xc,xb⟩] w18 HW18.out rfl (by decide) Hlx.out HT18.out).mono ?_
 rintro e w19 ⟨rfl,ho,-⟩
 have HB19:=hide (HB18.out.trans (ho.1.mono (show w1.heap.size≤w3.heap.size from ((fresh HB2.out HB3.out)).size)))
 clear ho
 go_wp2_with fail
 refine (lsame_yes A1 A0 n0 n0 c1 c0 L1 L w19 ((HO1.out.rf).below HB19.out |>.more HB19.out.size) (R0.out w19 (U1.out w19 HB19.out)) Hl1.out Hn0.out (by omega) HL1.out).mono ?_
 rintro e w20 ⟨rfl,hb20⟩
 have hbz:=fresh (U1.out w19 HB19.out) hb20
 clear hb20
 go_wp2_with fail
 go_ret
 exact⟨rfl,hbz⟩
end Go.Proofs.YtmkpfdcnikgokaaGreat
namespace Go.Proofs.YtmkpfdcnikgokaaGreat
open Go.ChangeShapes Go.WideShapes Go.ChangeAt Go.RowKit
theorem own:ownKnob Tryz.prog.godebug=none:=by kernel_rfl
theorem laidOut:laidOutB Tryz.prog=true:=by kernel_rfl
/-- A slice of bytes that came in. -/
theorem open_bytes {H:Type} {enc:TypeId×Value→H} {P:Program} {W:World} {b0 base:Nat} {r:Reach} {spare:Nat→Bool} {held:Bool} {t e:TypeId} {v:Value} {d:DataW H} {p:List MemPlace}
 (ht:P.underlying t=some (.slice e)) (he:P.underlying e=some (.int .u8)) (hC:P.cellsOf e=1) (hv:Value.okWide P W r b0 t v) (h:DataW.Trod enc P W base spare held t v d p):
 ∃ A l c,v= .slice A (List.length (α:=UInt8) l) c∧RB W W.heap.size A l∧l.length≤c∧c≤maxLen:=by
 obtain⟨A,n,c,rfl⟩:=okWide_slice ht hv
 obtain⟨fuel,hf⟩:=h
 rcases open_ints ht he hC hf with⟨hcs,_⟩ | ⟨x,l,c',zs,hcs,_,hl,hm,hz,_,hcell,hwz⟩
 ·simp [Value.cells] at hcs
  obtain⟨rfl,rfl,rfl⟩:=hcs
  exact⟨none, [],0,rfl,RD.nil_,Nat.le_refl _,Nat.zero_le _⟩
 ·simp [Value.cells] at hcs
  obtain⟨rfl,rfl,rfl⟩:=hcs
  have hle:n≤zs.length:=by rw [hz];split <;> omega
  have hb:∀ n:Int,(Lit.int .u8 n).wf=true→((UInt8.ofNat n.toNat).toNat:Int)=n:=by
   intro k hn
   simp [Lit.wf,IntKind.min,IntKind.max,IntKind.signed,IntKind.bits] at hn
   rw [UInt8.toNat_ofNat',Nat.mod_eq_of_lt (by omega)]
   omega
  refine⟨some x,(zs.take n).map (fun n=>UInt8.ofNat n.toNat),c,?_,?_,by simp;omega,hm⟩
  ·simp [Nat.min_eq_left hle]
  ·refine⟨by simp [u8s_len],fun hn=>?_⟩
   simp only [List.length_map,List.length_take,Nat.min_eq_left hle] at hn
   have h0:=hcell 0 (by omega)
   have hsp:x.spot=none:=by
    have:=World.cell?_spot h0
    simpa [Addr.add] using this
   obtain⟨b,off,spot⟩:=x
   simp only at hsp
   subst hsp
   refine⟨b,off,rfl,by have:=World.block_lt_of_cell? W _ h0;simpa [Addr.add] using this,fun j u hu=>?_⟩
   have hj:j < n:=by
    have:=(List.getElem?_eq_some_iff.1 hu).1
    simp [u8s_len] at this
    omega
   have hc:=hcell j (by omega)
   rw [add_none] at hc
   rw [hc,←hu]
   have hjz:j < zs.length:=by omega
   simp only [u8s,List.map_map,List.getElem?_map,List.getElem?_take,if_pos hj,List.getElem?_eq_getElem hjz,List.getD_eq_getElem?_getD,Option.getD_some,Option.map_some,Function.comp]
   rw [hb _ (hwz _ (List.getElem_mem hjz))]
end Go.Proofs.YtmkpfdcnikgokaaGreat
namespace Go.Proofs.YtmkpfdcnikgokaaGreat
open Go.Joins Go.ChangeShapes Go.WideShapes Go.ChangeAt Go.RowKit Go.Deep
theorem weightsAll_in {H:Type} {P:Program} {e:TypeId}:∀ {l:List (DataW H)} {d:DataW H},d∈l→∀ n∈d.weights P e,n∈DataW.weightsAll P e l
 | d' :: r,d,hd,n,hn=>by
   simp only [DataW.weightsAll,List.mem_append]
   rcases List.mem_cons.1 hd with rfl | h
   ·exact Or.inl hn
   ·exact Or.inr (weightsAll_in h n hn)
/-- What a slice's datum weighs. -/
theorem weight_slice {H:Type} {enc:TypeId×Value→H} {P:Program} {W:World} {base:Nat} {spare:Nat→Bool} {held:Bool} {t e:TypeId} {A:Option Addr} {n c:Nat} {y:DataW H×List MemPlace} {fuel N:Nat}
 (ht:P.underlying t=some (.slice e)) (hf:DataW.trod enc P W base spare held fuel t [.slice A n c]=some y) (hN:∀ n∈y.1.weights P t,n≤N):n * P.bytesOf e≤N:=by
 rcases open_slice ht hf with⟨hcs,_⟩ | ⟨x,l,c',m,n',D,Pl,hcs,_,hl,hm,hmm,hy,hx⟩
 ·simp at hcs
  obtain⟨-,rfl,-⟩:=hcs
  simp
 ·simp only [List.cons.injEq,Value.slice.injEq,and_true] at hcs
  obtain⟨-,rfl,-⟩:=hcs
  rw [hy] at hN
  have h:=hN _ (by simp only [DataW.weights,ht];exact List.mem_cons_self)
  refine Nat.le_trans ?_ h
  refine Nat.mul_le_mul_right _ ?_
  rw [List.length_map,List.length_range]
  exact Nat.le_add_right _ _
end Go.Proofs.YtmkpfdcnikgokaaGreat
namespace Go.Proofs.YtmkpfdcnikgokaaGreat
open Go.RowKit
instance:DecidableEq WP:=fun x y=>decidable_of_iff (WP.en x=WP.en y∧WP.hp x=WP.hp y) ⟨fun h=>wp_ext h.1 h.2,fun h=>by rw [h];exact⟨rfl,rfl⟩⟩
instance:DecidableEq MP:=fun x y=>decidable_of_iff (x.k=y.k∧x.t=y.t∧x.r=y.r∧x.ix=y.ix∧x.I=y.I∧x.O=y.O∧x.W=y.W) (by
 obtain⟨k,t,r,ix,I,O,W⟩:=x
 obtain⟨k',t',r',ix',I',O',W'⟩:=y
 simp only [MP.mk.injEq])
end Go.Proofs.YtmkpfdcnikgokaaGreat
namespace Go.Proofs.YtmkpfdcnikgokaaGreat
open Go.Joins Go.ChangeShapes Go.WideShapes Go.ChangeAt Go.RowKit Go.Deep
/-- A slice whose elements open, opened. -/
theorem opens_list {H:Type} {enc:TypeId×Value→H} {P:Program} {W:World} {base:Nat} {spare:Nat→Bool} {held:Bool} {ts t:TypeId} {k:Nat} {α:Type} (dflt:α) (cells:α→List Value) (ok:α→Prop) (wt:Nat→α→Prop)
 (hts:P.underlying ts=some (.slice t)) (hC:P.cellsOf t=k) (hk:0 < k) (hlen:∀ x,(cells x).length=k)
 (helem:∀ fuel cs y,DataW.trod enc P W base spare held fuel t cs=some y→∃ x,cs=cells x∧ok x∧∀ N,(∀ n∈y.1.weights P t,n≤N)→wt N x)
 {cs:List Value} {y:DataW H×List MemPlace} {fuel:Nat} (hf:DataW.trod enc P W base spare held fuel ts cs=some y):
 ∃ A L c,cs= [.slice A (List.length (α:=α) L) c]∧RD W W.heap.size k A L.length (L.flatMap cells)∧(A=none→c=0)∧(∀ x∈L,ok x)∧∀ N,(∀ n∈y.1.weights P ts,n≤N)→L.length * P.bytesOf t≤N∧∀ x∈L,wt N x:=by
 rcases open_slice hts hf with⟨hcs,_⟩ | ⟨x,n,c,m,n',D,Pl,hcs,_,hl,hm,hmm,hy,hx⟩
 ·exact⟨none, [],0,hcs,RD.nil_,fun _=>rfl,fun a ha=>(by cases ha),fun N _=>⟨by simp,fun a ha=>by cases ha⟩⟩
 ·have hwt:∀ N,(∀ n∈y.1.weights P ts,n≤N)→n * P.bytesOf t≤N:=fun N hN=>weight_slice hts (hcs ▸ hf) hN
  have hnm:n≤m:=by rw [hmm];split <;> omega
  have hel:∀ i,∃ q:α,i < n→(∀ j,j < k→∀ u,(cells q)[j]?=some u→W.cell? (x.add (i * k+j))=some u)∧ok q∧∀ N,(∀ n∈(D i).weights P t,n≤N)→wt N q:=by
   intro i
   by_cases hi:i < n
   ·obtain⟨cs',k1',k2'⟩:=hx i (by omega)
    rw [hC] at k1'
    obtain⟨_,hlen',hcell⟩:=World.cells?_some k1'
    obtain⟨q,rfl,q1,q2⟩:=helem _ _ _ k2'
    refine⟨q,fun _=>⟨fun j hj u hu=>?_,q1,q2⟩⟩
    have e:=hcell j (by omega)
    rw [add_add] at e
    rw [e]
    simpa using hu
   ·exact⟨dflt,fun h=>absurd h hi⟩
  obtain⟨F,hF⟩:=Classical.axiomOfChoice hel
  refine⟨some x,(List.range n).map F,c,by simpa using hcs,?_,fun h=>(by cases h),?_,fun N hN=>⟨by simpa using hwt N hN,?_⟩⟩
  ·rw [List.length_map,List.length_range]
   have hfl:((List.range n).map F).length=n:=by simp
   refine⟨by rw [flatK_len cells k hlen,hfl],fun hn=>?_⟩
   obtain⟨k0',-⟩:=hF 0 hn
   obtain⟨u0,hu0⟩:∃ u,(cells (F 0))[0]?=some u:=⟨_,List.getElem?_eq_getElem (by rw [hlen];exact hk)⟩
   have k0'':=k0' 0 hk _ hu0
   have hsp:x.spot=none:=by
    have:=World.cell?_spot k0''
    simpa [Addr.add] using this
   obtain⟨bk,off,spot⟩:=x
   simp only at hsp
   subst hsp
   refine⟨bk,off,rfl,by have:=World.block_lt_of_cell? W _ k0'';simpa [Addr.add] using this,fun j u hu=>?_⟩
   have hj:j < n * k:=by
    have:=(List.getElem?_eq_some_iff.1 hu).1
    rwa [flatK_len cells k hlen,hfl] at this
   have hi:j / k < n:=Nat.div_lt_of_lt_mul (by rwa [Nat.mul_comm])
   have hjk:j / k * k+j % k=j:=by rw [Nat.mul_comm];exact Nat.div_add_mod j k
   have hg:=flatK_get cells k hlen ((List.range n).map F) (j / k) (by simpa using hi) (j % k) (Nat.mod_lt _ hk)
   rw [hjk] at hg
   have hk':=(hF (j / k) hi).1 (j % k) (Nat.mod_lt _ hk) u (by
    rw [hg] at hu
    simpa using hu)
   rw [hjk,add_none] at hk'
   exact hk'
  ·intro a ha
   simp only [List.mem_map,List.mem_range] at ha
   obtain⟨i,hi,rfl⟩:=ha
   exact (hF i hi).2.1
  ·intro a ha
   simp only [List.mem_map,List.mem_range] at ha
   obtain⟨i,hi,rfl⟩:=ha
   refine (hF i hi).2.2 N fun n hn=>hN n ?_
   rw [hy]
   simp only [DataW.weights,hts,List.mem_cons,List.mem_append]
   exact .inr (.inl (weightsAll_in (List.mem_map.2 ⟨i,List.mem_range.2 hi,rfl⟩) n hn))
section
variable {H:Type} {enc:TypeId×Value→H} {W:World} {base:Nat} {spare:Nat→Bool} {held:Bool}
theorem u8_of {t:Int} (h:(Lit.int .u8 t).wf=true):0≤t∧t < 256:=by
 simp [Lit.wf,IntKind.min,IntKind.max,IntKind.signed,IntKind.bits] at h
 omega
end
theorem u8_flat:∀ l:List UInt8,l.flatMap (fun b:UInt8=> [Value.int .u8 (b.toNat:Int)])=u8s l
 | []=>rfl
 | b :: l=>by rw [List.flatMap_cons,u8_flat l];rfl
theorem fr_flat:∀ l:List FrL,l.flatMap (fun x:FrL=> [x.cell])=frs l
 | []=>rfl
 | b :: l=>by rw [List.flatMap_cons,fr_flat l];rfl
/-- A slice of bytes in cells, with how large it is. -/
theorem open_bytes_sz {H:Type} {enc:TypeId×Value→H} {W:World} {base:Nat} {spare:Nat→Bool} {held:Bool} {cs:List Value} {y:DataW H×List MemPlace} {fuel:Nat}
 (hf:DataW.trod enc Tryz.prog W base spare held fuel 23 cs=some y):
 ∃ x:FrL,cs= [x.cell]∧RB W W.heap.size x.A x.b∧∀ N,(∀ n∈y.1.weights Tryz.prog 23,n≤N)→x.b.length * Tryz.prog.bytesOf 5≤N:=by
 obtain⟨A,l,c,e,hr,-,-,hw⟩:=opens_list (k:=1) (0:UInt8) (fun b:UInt8=> [Value.int .u8 (b.toNat:Int)]) (fun _=>True) (fun _ _=>True) Tryz.underlying23 (by kernel_rfl) (by decide) (fun _=>rfl) (fun fuel cs y h=>by
  obtain⟨a,e0,-,w0⟩:=DataW.trod_int Tryz.underlying5 h
  have h8:=u8_of w0
  refine⟨UInt8.ofNat a.toNat,?_,trivial,fun _ _=>trivial⟩
  rw [e0,UInt8.toNat_ofNat',Nat.mod_eq_of_lt (by omega)]
  congr 2
  omega) hf
 refine⟨⟨A,c,l⟩,e,?_,fun N hN=>(hw N hN).1⟩
 rw [u8_flat] at hr
 exact hr
/-- Frames, with how large they are. -/
theorem open_frs_sz {H:Type} {enc:TypeId×Value→H} {W:World} {b0 base:Nat} {r:Reach} {spare:Nat→Bool} {held:Bool} {v:Value} {d:DataW H} {p:List MemPlace}
 (hv:Value.okWide Tryz.prog W r b0 22 v) (h:DataW.Trod enc Tryz.prog W base spare held 22 v d p):
 ∃ A L c,v= .slice A (List.length (α:=FrL) L) c∧RF W W.heap.size A L∧∀ N,(∀ n∈d.weights Tryz.prog 22,n≤N)→∀ x∈L,x.b.length * Tryz.prog.bytesOf 5≤N:=by
 obtain⟨A,n,c,rfl⟩:=okWide_slice Tryz.underlying22 hv
 obtain⟨fuel,hf⟩:=h
 have hf':DataW.trod enc Tryz.prog W base spare held fuel 22 [.slice A n c]=some (d,p):=by simpa [Value.cells] using hf
 obtain⟨A',L,c',e,hr,-,hok,hw⟩:=opens_list (k:=1) (⟨none,0, []⟩:FrL) (fun x:FrL=> [x.cell]) (fun x=>RB W W.heap.size x.A x.b) (fun N x=>x.b.length * Tryz.prog.bytesOf 5≤N) Tryz.underlying22 (by kernel_rfl) (by decide) (fun _=>rfl) (fun fuel cs y h=>by
  obtain⟨x,e0,hx,hw⟩:=open_bytes_sz h
  exact⟨x,e0,hx,hw⟩) hf'
 simp only [List.cons.injEq,Value.slice.injEq,and_true] at e
 obtain⟨rfl,rfl,rfl⟩:=e
 rw [fr_flat] at hr
 exact⟨A,L,c,rfl,⟨hr,hok⟩,fun N hN=>(hw N hN).2⟩
end Go.Proofs.YtmkpfdcnikgokaaGreat
