/-
  Texts of this claim, put together: RefWish, MailPut. What each theorem asks stands in its statement.
-/
import Derived.Test.YtmkpfdcnikgokaaGreatLt19
import Derived.Test.YtmkpfdcnikgokaaGreatLt22
import Derived.Test.YtmkpfdcnikgokaaGreatLt28
import Derived.Test.YtmkpfdcnikgokaaGreatLt29
set_option linter.unusedVariables false
set_option linter.unusedSimpArgs false
set_option maxRecDepth 100000
set_option maxHeartbeats 25600000
namespace Go.Proofs.YtmkpfdcnikgokaaGreat
open Go.RowKit
/-- The region's fixed values. -/
def wsV (v3:Value) (gx:Nat) (hA:Option Addr) (hc:Nat) (h:List TmL) (sA:Option Addr) (sc:Nat) (s:List TmL):List (Option (Nat×Value)):=
 [some (18,v3),some (19,.pointer (some ⟨gx,3,none⟩)),some (20,.slice hA h.length hc),none,some (22,.pointer (some ⟨gx,5,none⟩)),some (23,.slice sA s.length sc),none,none]
def wsS:List (Option Nat):= [some 18,some 19,some 20,none,some 22,some 23,none,none]
theorem wsSB:CB wsS 0 3 21 6 24 7 0:=⟨by decide,by decide,by decide,by decide,by decide,rfl,rfl,rfl⟩
theorem rwish (base:Nat) (v0:Value) (pre:List UInt8) (x:WsL) (w:World) (hp:ByR w base v0 pre) (hbase:base≤w.heap.size) (hh:RT w base x.hA x.h) (hs:RT w base x.sA x.s) (hg:RBl w base x.gA x.g) (hok:okW x) (hkn:x.kn=true→x.rd=false) (hmh:mayT (x.h.map TmL.pt)) (hms:mayT (x.s.map TmL.pt)) (hgl:x.g.length≤128) (hsz:pre.length≤400000000):
 Calls Tryz.prog 96 #[v0,x.val] w (Lays base w (pre++nbs (wsNums x.wp))):=by
 obtain⟨t,r,rd,kn,hA,hc,h,sA,sc,s,gA,gc,gl⟩:=x
 obtain⟨o1,o2,o3,o4,o5,o6,o7,o8,o9⟩:=hok
 simp only at hh hs hg o1 o2 o3 o4 o5 o6 o7 o8 o9 hmh hms hgl hkn
 obtain⟨w1,hw1,F1,hs1,hb1⟩:=wish_box w (.int .u32 t) (.int .u8 r) (.bool rd) (.slice hA h.length hc) (.bool kn) (.slice sA s.length sc) (.slice gA gl.length gc)
 obtain⟨gx,hgx⟩:∃ q,q=w.heap.size:=⟨_,rfl⟩
 have Hgx:=hide hgx
 rw [←hgx] at F1
 have HF1:=hide F1
 have Hw1:=hide hw1
 have HP1:=hide (hp.below hb1)
 have HB1:=hide (show Below base w w1 from hb1.mono hbase)
 have HK1:=hide (Kept.below hb1)
 have hbase1:base≤w1.heap.size:=Nat.le_trans hbase hb1.size
 obtain⟨y0,y1,y2,y3,y4,y5,y6⟩:=F1.cells
 have HH:=hide hh
 have HS:=hide hs
 have HG:=hide hg
 have Hmh:=hide hmh
 have Hms:=hide hms
 have Hoh:=hide o5
 have Hos:=hide o6
 obtain⟨st,hst⟩:∃ q,q=stN rd kn:=⟨_,rfl⟩
 have Hwp:=hide (show wsNums (WsL.wp ⟨t,r,rd,kn,hA,hc,h,sA,sc,s,gA,gc,gl⟩)= [t,r,st]++ckNums (h.map TmL.pt)++ckNums (s.map TmL.pt)++gtNums gl by rw [hst];rfl)
 obtain⟨N,hN⟩:∃ q,q=wsNums (WsL.wp ⟨t,r,rd,kn,hA,hc,h,sA,sc,s,gA,gc,gl⟩):=⟨_,rfl⟩
 rw [←hN] at Hwp ⊢
 have key:Hid (rd=true∧kn=false∧st=1∨rd=false∧kn=true∧st=2∨rd=false∧kn=false∧st=0):=hide (by
  rw [hst]
  cases rd <;> cases kn <;> simp [stN] at hkn ⊢)
 have hst2:=stN_ok rd kn
 rw [←hst] at hst2
 clear hst hN hh hs hg hmh hms o5 o6 F1 hw1 hb1 hs1 hp hgx hkn
 show Calls Tryz.prog 96 #[v0,wsv t r rd kn (.slice hA h.length hc) (.slice sA s.length sc) (.slice gA gl.length gc)] w _
 go_enter Tryz.func96,Tryz.ntmps96
 have Key:=hide (show rd=true∧kn=false∧(1:Int)=st∨rd=false∧kn=true∧(2:Int)=st∨rd=false∧kn=false∧(0:Int)=st by rcases key.out with⟨h1,h2,h3⟩ | ⟨h1,h2,h3⟩ | ⟨h1,h2,h3⟩ <;> simp [h1,h2,h3])
 clear key
 rcases Key.out with⟨rfl,rfl,hst⟩ | ⟨rfl,rfl,hst⟩ | ⟨rfl,rfl,hst⟩
 all_goals
  have Hst:=hide hst
  clear Key hst
  go_wp2_with fail
  rw [Hw1.out,←Hgx.out]
  refine (rstamp base v0 pre t r w1 HP1.out hbase1 o1 (by omega) o3 (by omega) (by omega)).mono ?_
  rintro e w2 ⟨v2,rfl,hp2,hb2,hk2⟩
  have HP2:=hide hp2
  have Hl2:=hide (show (pre++nbs [t,r]).length≤400000012 by
   rw [←nbs_two]
   exact nb_app (nb_app (k:=400000006) hsz o1 (by omega) (by omega)) o3 (by omega) (by omega))
  have HF2:=hide (show WB w2 gx _ _ _ _ _ _ _ from hk2 gx _ HF1.out (fun cur e=>by simp at e))
  have HB2:=hide (HB1.out.trans hb2)
  have HK2:=hide (HK1.out.trans hk2)
  have hbase2:base≤w2.heap.size:=Nat.le_trans hbase1 hb2.size
  obtain⟨z0,z1,z2,z3,z4,z5,z6⟩:=HF2.out.cells
  clear hp2 hb2 hk2 HP1 HB1 HK1 HF1 y0 y1 y2 y3 y4 y5 y6
  go_wp2_with fail
  rw [Hst.out]
  refine (rnum base v2 (pre++nbs [t,r]) st w2 HP2.out hbase2 (by omega) (by omega) (by have:=Hl2.out;omega)).mono ?_
  rintro e w3 ⟨v3,rfl,hp3,hb3,hk3⟩
  obtain⟨p3,hp3e⟩:∃ q,q=pre++nbs [t,r]++nb (st:Int).toNat:=⟨_,rfl⟩
  have Hp3:=hide hp3e
  have Hp2:=hide (show (nb (st:Int).toNat)=nbs [st] by rw [nbs_cons,nbs_nil,List.append_nil])
  have Hl3:=hide (show p3.length≤400000018 by rw [hp3e];exact nb_app Hl2.out (by omega) (by omega) (by omega))
  rw [←hp3e] at hp3
  have HP3:=hide hp3
  have HF3:=hide (show WB w3 gx _ _ _ _ _ _ _ from hk3 gx _ HF2.out (fun cur e=>by simp at e))
  have HB3:=hide (HB2.out.trans hb3)
  have HK3:=hide (HK2.out.trans hk3)
  have hbase3:base≤w3.heap.size:=Nat.le_trans hbase2 hb3.size
  have hl3:p3.length≤500000000:=by have:=Hl3.out;omega
  have hl4:(p3++nbs (ckNums (h.map TmL.pt))).length≤500000000:=by
   rw [List.length_append]
   have:=ck_len Hmh.out
   have:=Hl3.out
   omega
  obtain⟨p5,hp5e⟩:∃ q,p3++nbs (ckNums (h.map TmL.pt))++nbs (ckNums (s.map TmL.pt))=q:=⟨_,rfl⟩
  have Hp5:=hide hp5e
  have Hl5:=hide (show p5.length≤400200018 by
   rw [←hp5e,List.length_append,List.length_append]
   have:=ck_len Hmh.out
   have:=ck_len Hms.out
   have:=Hl3.out
   omega)
  clear hp3 hp3e hp5e hb3 hk3 HP2 HB2 HK2 HF2 hbase2 z0 z1 z2 z3 z4 z5 z6
  go_wp2_with fail
  refine wp_region_inv (fun done ρ W=>CH w3 base (wsV v3 gx hA hc h sA sc s) 0 3 21 6 24 7 0 v3 v3 p3 (p3++nbs (ckNums (h.map TmL.pt))) (p3++nbs (ckNums (h.map TmL.pt))++nbs (ckNums (s.map TmL.pt))) done ρ W) (by kernel_rfl) 46 rfl (by kernel_rfl) ?_ ?_ ?_
  ·exact CH.start (Below.refl _ _).drew (Kept.refl _) HP3.out rfl
  ·refine⟨?_,?_,?_,?_,?_,?_,?_,?_,trivial⟩
   ·
    intro done ρ W hn hf hd hh9
    have q0:=hh9.first hn
    clear hf
    refine .inl ⟨rfl,opOK_step fun R9 hR9=>?_⟩
    unfold opOK
    go_simp
    exact hR9 _ _ (hh9.plain wsS rfl wsSB 0 18 _ rfl)
   ·
    intro done ρ W hn hf hd hh9
    have qs3:ρ 3= .pointer (some ⟨gx,0,none⟩):=hf 3 (by kernel_rfl)
    clear hf
    refine .inl ⟨rfl,opOK_step fun R9 hR9=>?_⟩
    unfold opOK
    go_simp
    exact hR9 _ _ (hh9.plain wsS rfl wsSB 1 19 _ rfl)
   ·
    intro done ρ W hn hf hd hh9
    have qd1:=hh9.get 1 19 _ rfl (hd 1 (by kernel_rfl))
    obtain⟨y0,y1,y2,y3,y4,y5,y6⟩:=(show WB W gx _ _ _ _ _ _ _ from hh9.k gx _ HF3.out (fun cur e=>by simp at e)).cells
    clear hf
    refine .inl ⟨rfl,opOK_step fun R9 hR9=>?_⟩
    unfold opOK
    go_simp
    exact hR9 _ _ (hh9.plain wsS rfl wsSB 2 20 _ rfl)
   ·
    intro done ρ W hn hf hd hh9
    have qd0:=hh9.get 0 18 _ rfl (hd 0 (by kernel_rfl))
    have qd2:=hh9.get 2 20 _ rfl (hd 2 (by kernel_rfl))
    have h0:=hh9.c0 hn
    have hd0:=hd 0 (by kernel_rfl)
    clear hf
    refine .inl ⟨rfl,opOK_step fun R9 hR9=>?_⟩
    unfold opOK
    go_simp
    refine (rclock base v3 p3 hA h.length hc h W h0 (Nat.le_trans hbase3 hh9.b.size) (HH.out.below (HB3.out.trans hh9.b)) rfl Hoh.out Hmh.out hl3).mono ?_
    rintro e w' ⟨v',rfl,hr',hb',hk'⟩
    exact⟨v',rfl,hR9 _ _ (hh9.call1 wsS rfl wsSB hn hd0 hr' hb' hk')⟩
   ·
    intro done ρ W hn hf hd hh9
    have qs3:ρ 3= .pointer (some ⟨gx,0,none⟩):=hf 3 (by kernel_rfl)
    clear hf
    refine .inl ⟨rfl,opOK_step fun R9 hR9=>?_⟩
    unfold opOK
    go_simp
    exact hR9 _ _ (hh9.plain wsS rfl wsSB 4 22 _ rfl)
   ·
    intro done ρ W hn hf hd hh9
    have qd4:=hh9.get 4 22 _ rfl (hd 4 (by kernel_rfl))
    obtain⟨y0,y1,y2,y3,y4,y5,y6⟩:=(show WB W gx _ _ _ _ _ _ _ from hh9.k gx _ HF3.out (fun cur e=>by simp at e)).cells
    clear hf
    refine .inl ⟨rfl,opOK_step fun R9 hR9=>?_⟩
    unfold opOK
    go_simp
    exact hR9 _ _ (hh9.plain wsS rfl wsSB 5 23 _ rfl)
   ·
    intro done ρ W hn hf hd hh9
    have qd5:=hh9.get 5 23 _ rfl (hd 5 (by kernel_rfl))
    have h1:=hd 3 (by kernel_rfl)
    have hR1:=hh9.c1 h1 hn
    clear hf
    refine .inl ⟨rfl,opOK_step fun R9 hR9=>?_⟩
    unfold opOK
    go_simp
    refine (rclock base _ (p3++nbs (ckNums (h.map TmL.pt))) sA s.length sc s W hR1 (Nat.le_trans hbase3 hh9.b.size) (HS.out.below (HB3.out.trans hh9.b)) rfl Hos.out Hms.out hl4).mono ?_
    rintro e w' ⟨v',rfl,hr',hb',hk'⟩
    exact⟨v',rfl,hR9 _ _ (hh9.call2 wsS rfl wsSB hn h1 hr' hb' hk')⟩
   ·
    intro done ρ W hn hf hd hh9
    have h2:=hd 6 (by kernel_rfl)
    clear hf
    refine .inl ⟨rfl,opOK_step fun R9 hR9=>?_⟩
    unfold opOK
    go_simp
    exact hR9 _ _ (hh9.lay wsS rfl wsSB h2 rfl)
  ·intro a' w6 hdf hsz hf hh9
   have hb6:Below base w3 w6:=hh9.b
   have hk6:=hh9.k
   have hR6:=hh9.c3 (by kernel_rfl)
   have h3:slotsOf a' 3= .pointer (some ⟨gx,0,none⟩):=hf 3 (by kernel_rfl)
   obtain⟨T,D⟩:=a'
   have hD:D= []:=hdf
   subst hD
   obtain⟨f1,hT,hff⟩:∃ f:Nat→Value,T=((List.range 46).map f).toArray∧slotsOf ⟨T, []⟩=f:=⟨_,arr_list T 46 hsz,rfl⟩
   rw [hff] at hR6 h3
   clear hff hsz hf hh9 hdf
   simp only [List.range,List.range.loop,List.map] at hT
   subst hT
   rw [h3]
   clear h3
   rw [Hp5.out] at hR6
   have HR6:=hide hR6
   have HB6:=hide (HB3.out.trans hb6)
   have HK6:=hide (HK3.out.trans hk6)
   have HF6:=hide (show WB w6 gx _ _ _ _ _ _ _ from hk6 gx _ HF3.out (fun cur e=>by simp at e))
   have hbase6:base≤w6.heap.size:=Nat.le_trans hbase3 hb6.size
   obtain⟨z0,z1,z2,z3,z4,z5,z6⟩:=HF6.out.cells
   clear hR6 hb6 hk6 hbase3 HP3 HB3 HK3 HF3 hl3 hl4
   go_wp2_with fail
   refine (rnum base _ p5 (gl.length:Int) w6 HR6.out hbase6 (by omega) (by omega) (by have:=Hl5.out;omega)).mono ?_
   rintro e w7 ⟨v7,rfl,hp7,hb7,hk7⟩
   have e7:p5++nb (gl.length:Int).toNat=p5++nbs [(gl.length:Int)]:=by rw [nbs_cons,nbs_nil,List.append_nil]
   rw [e7] at hp7
   have HP7:=hide hp7
   have Hl7:=hide (show (p5++nbs [(gl.length:Int)]).length≤400200024 by
    rw [←e7]
    exact nb_app Hl5.out (by omega) (by omega) (by omega))
   have HB7:=hide (HB6.out.trans hb7)
   have HK7:=hide (HK6.out.trans hk7)
   have HF7:=hide (show WB w7 gx _ _ _ _ _ _ _ from hk7 gx _ HF6.out (fun cur e=>by simp at e))
   clear hp7 hb7 hk7 e7 HR6 HB6 HK6 HF6 hbase6 z0 z1 z2 z3 z4 z5 z6
   go_wp2_with fail
   go_loopw [0,6] (fun v i wr=>∃ k:Nat,k≤gl.length∧i= .int .i64 (k:Int)∧Hid (ByR wr base v (p5++nbs ((gl.length:Int) :: (gl.take k).map bn)))∧Hid ((p5++nbs ((gl.length:Int) :: (gl.take k).map bn)).length≤400200024+6 * k)∧Hid (Below base w wr)∧Hid (Kept w wr)∧Hid (∃ B1 B2,WB wr gx (.int .u32 t) (.int .u8 r) (.bool B1) (.slice hA h.length hc) (.bool B2) (.slice sA s.length sc) (.slice gA gl.length gc))) (fun _ i _=>gl.length - (intOf i).toNat)
   case atStart=>exact⟨0,by omega,rfl,HP7,Hl7,HB7,HK7,hide ⟨_,_,HF7.out⟩⟩
   case round=>
    obtain⟨k,hk,rfl,HPk,Hlk,HBk,HKk,HFe⟩:=hrel
    obtain⟨B1,B2,hFk⟩:=HFe.out
    have HFk:=hide hFk
    clear hFk HFe
    clear HP7 HK7 Hl7 HB7 HF7
    obtain⟨pk,hpk⟩:∃ q,q=p5++nbs ((gl.length:Int) :: (gl.take k).map bn):=⟨_,rfl⟩
    have Hpk:=hide hpk
    rw [←hpk] at HPk Hlk
    clear hpk
    obtain⟨z0,z1,z2,z3,z4,z5,z6⟩:=HFk.out.cells
    by_cases hlk:k < gl.length
    ·have zz1:(k:Int) < gl.length:=by omega
     have zk:(0:Int)≤k:=by omega
     obtain⟨b2,o2,rfl,hB2,hC2⟩:=RBl.cell (RD.below HG.out HBk.out) (by omega)
     have e0:=hC2 k hlk
     obtain⟨y,hy⟩:∃ q,q=gl[k]:=⟨_,rfl⟩
     rw [←hy] at e0
     have Hnx:=hide (show pk++nb (bn y).toNat=p5++nbs ((gl.length:Int) :: (gl.take (k+1)).map bn) by
      rw [List.take_succ_eq_append_getElem hlk,←hy,Hpk.out,List.append_assoc,show nb (bn y).toNat=nbs [bn y] by rw [nbs_cons,nbs_nil,List.append_nil],←nbs_append,List.map_append]
      rfl)
     have Hl6:=hide (show (p5++nbs ((gl.length:Int) :: (gl.take (k+1)).map bn)).length≤400200024+6 * (k+1) by
      rw [←Hnx.out]
      exact nb_app Hlk.out (bn_ok y).1 (by have:=(bn_ok y).2;omega) (by omega))
     have hP:=hide (fun (z:Int) (hz:z=bn y)=>rnum base u0 pk z wr HPk.out (Nat.le_trans hbase HBk.out.size) (by rw [hz];exact (bn_ok y).1) (by rw [hz];have:=(bn_ok y).2;omega) (by have:=Hlk.out;omega))
     clear hC2 hy HPk
     cases y
     ·go_wp2_with fail
      refine (unhide hP 0 rfl).mono ?_
      rintro e w8 ⟨v8,rfl,hp8,hb8,hk8⟩
      have Hp8:=hide (show ByR w8 base v8 (p5++nbs ((gl.length:Int) :: (gl.take (k+1)).map bn)) by rw [←Hnx.out];exact hp8)
      have HB8:=hide (HBk.out.trans hb8)
      have HK8:=hide (HKk.out.trans hk8)
      have HF8:=hide (show WB w8 gx _ _ _ _ _ _ _ from hk8 gx _ HFk.out (fun cur e=>by simp at e))
      clear hp8 hb8 hk8 hP z0 z1 z2 z3 z4 z5 z6 e0
      go_wp2_with fail
      go_roundw
      case rel=>exact⟨k+1,by omega,by go_num,Hp8,Hl6,HB8,HK8,hide ⟨_,_,HF8.out⟩⟩
      case measure=>simp [intOf];omega
     ·go_wp2_with fail
      refine (unhide hP 1 rfl).mono ?_
      rintro e w8 ⟨v8,rfl,hp8,hb8,hk8⟩
      have Hp8:=hide (show ByR w8 base v8 (p5++nbs ((gl.length:Int) :: (gl.take (k+1)).map bn)) by rw [←Hnx.out];exact hp8)
      have HB8:=hide (HBk.out.trans hb8)
      have HK8:=hide (HKk.out.trans hk8)
      have HF8:=hide (show WB w8 gx _ _ _ _ _ _ _ from hk8 gx _ HFk.out (fun cur e=>by simp at e))
      clear hp8 hb8 hk8 hP z0 z1 z2 z3 z4 z5 z6 e0
      go_wp2_with fail
      go_roundw
      case rel=>exact⟨k+1,by omega,by go_num,Hp8,Hl6,HB8,HK8,hide ⟨_,_,HF8.out⟩⟩
      case measure=>simp [intOf];omega
    ·obtain rfl:k=gl.length:=by omega
     have zz1:¬ (gl.length:Int) < gl.length:=by omega
     have Hfin:=hide (show pk=pre++nbs N by
      rw [Hpk.out,Hwp.out,List.take_of_length_le (Nat.le_refl _),←Hp5.out,Hp3.out,Hp2.out,show [t,r,st]= [t,r]++ [st] from rfl]
      simp only [nbs_append,List.append_assoc,gtNums])
     rw [Hfin.out] at HPk
     go_wp2_with fail
     go_ret
     exact Lays.mk HPk.out HBk.out HKk.out
/-- The bytes of mail that may be. -/
def opsB (O:List OpP):List UInt8:=nbs [(O.length:Int)]++O.flatMap opP
def wsB (x:WP):List UInt8:=nbs (wsNums x)
def bodyB (m:MP):List UInt8:=
 if m.k=2 then nbs [m.k]++nbs (ckNums m.I)
 else if m.k=3 then nbs [m.k]++nbs (ckNums m.I)++nbs [(m.W.length:Int)]++m.W.flatMap wsB
 else if m.k=5 then nbs [m.k]++nbs [m.t,m.r]++nbs (ckNums m.I)
 else if m.k=6 then nbs [m.k]++nbs [m.t,m.r,m.ix]++opsB m.O
 else nbs [m.k]++opsB m.O
theorem may_ops {m:MP} (h:mayM m) (hk:m.k=1∨m.k=4):someP m.O 64:=by
 rcases h.1 with⟨-,h⟩ | ⟨h,-⟩ | ⟨h,-⟩ | ⟨h,-⟩ | ⟨h,-⟩
 ·exact h
 all_goals omega
theorem may_ids {m:MP} (h:mayM m) (hk:m.k=2∨m.k=3∨m.k=5):idsP m.I:=by
 rcases h.1 with⟨h,-⟩ | ⟨-,h⟩ | ⟨-,h,-⟩ | ⟨-,-,h⟩ | ⟨h,-⟩
 ·omega
 ·exact h
 ·exact h
 ·exact h
 ·omega
theorem may_want {m:MP} (h:mayM m) (hk:m.k=3):wantsP m.W:=by
 rcases h.1 with⟨h,-⟩ | ⟨h,-⟩ | ⟨-,-,h⟩ | ⟨h,-⟩ | ⟨h,-⟩
 ·omega
 ·omega
 ·exact h
 ·omega
 ·omega
theorem may_chunk {m:MP} (h:mayM m) (hk:m.k=6):0≤m.ix∧m.ix < 128∧someP m.O 8:=by
 rcases h.1 with⟨h,-⟩ | ⟨h,-⟩ | ⟨h,-⟩ | ⟨h,-⟩ | ⟨-,-,h⟩
 ·omega
 ·omega
 ·omega
 ·omega
 ·exact h
theorem chainE_all:∀ (l:List EnP) (p:Option (Int×Int)),chainE p l→∀ x∈l,oneP x
 | x :: l,none,h,y,hy=>by
   rcases List.mem_cons.1 hy with rfl | hy
   ·exact h.1
   ·exact chainE_all l _ h.2 y hy
 | x :: l,some p,h,y,hy=>by
   rcases List.mem_cons.1 hy with rfl | hy
   ·exact h.1
   ·exact chainE_all l _ h.2.2 y hy
theorem wants_all {E:List WP} (h:wantsP E):E.length≤65∧∀ x∈E,mayT x.H∧mayT x.S∧x.G.length≤128:=by
 refine⟨by have:=h.1.1;rwa [List.length_map] at this,fun x hx=>⟨(h.2 x hx).1,?_⟩⟩
 obtain⟨-,h2⟩:=chainE_all _ _ h.1.2 x.en (List.mem_map_of_mem hx)
 change (if x.kn=true then x.rd=false∧mayT x.S∧cntT x.S≤1024∧(x.G.length:Int)=(cntT x.S+7) / 8 else x.S.length=0∧x.G.length=0) at h2
 split at h2
 ·exact⟨h2.2.1,by have:=h2.2.2.1;have:=h2.2.2.2;omega⟩
 ·refine⟨?_,by omega⟩
  rw [List.length_eq_zero_iff.1 h2.1]
  trivial
theorem ws_len {x:WP} (ht:0≤x.t∧x.t≤1099511627776) (hr:0≤x.r∧x.r≤1099511627776) (hh:mayT x.H) (hs:mayT x.S) (hg:x.G.length≤128):(wsB x).length≤210000:=by
 have e:wsB x=nbs [x.t,x.r,stN x.rd x.kn]++nbs (ckNums x.H)++nbs (ckNums x.S)++nbs (gtNums x.G):=by
  unfold wsB wsNums
  simp only [nbs_append]
 rw [e]
 have h0:=stN_ok x.rd x.kn
 have h1:=nbs_len (three_ok ht hr ⟨h0.1,by omega⟩:∀ z∈ [x.t,x.r,stN x.rd x.kn],0≤z∧z≤1099511627776)
 have h2:=ck_len hh
 have h3:=ck_len hs
 have h4:(nbs (gtNums x.G)).length≤6 * (gtNums x.G).length:=nbs_len (fun z hz=>by
  simp only [gtNums,List.mem_cons,List.mem_map] at hz
  rcases hz with rfl | ⟨b,-,rfl⟩
  ·omega
  ·have:=bn_ok b;omega)
 have h5:(gtNums x.G).length=x.G.length+1:=by simp [gtNums]
 simp only [List.length_append]
 simp only [List.length_cons,List.length_nil] at h1
 omega
theorem MB.belowB {w w':World} {B g:Nat} {a b c d e f h:Value} (hF:MB w g a b c d e f h) (hb:Below B w w') (hg:g < B):MB w' g a b c d e f h:=(hb.block g hg).trans hF
end Go.Proofs.YtmkpfdcnikgokaaGreat
