/-
  Texts of this claim, put together: RefClock. What each theorem asks stands in its statement.
-/
import Derived.Test.YtmkpfdcnikgokaaGreatLt28
set_option linter.unusedVariables false
set_option linter.unusedSimpArgs false
set_option maxRecDepth 100000
set_option maxHeartbeats 25600000
namespace Go.Proofs.YtmkpfdcnikgokaaGreat
open Go.RowKit
/-- The regions' fixed values. -/
def ck1V (v:Value) (bb bo n c j:Nat) (R:Int) (sA:Option Addr) (sc:Nat) (s:List Sp):List (Option (Nat×Value)):=
 [some (19,v),some (20,.slice (some ⟨bb,bo,none⟩) n c),some (21,.int .i64 (j:Int)),some (22,.pointer (some ⟨bb,bo+j * 2,none⟩)),some (23,.pointer (some ⟨bb,bo+j * 2,none⟩)),some (24,.int .u8 R),some (25,.int .i64 R),none,some (27,.slice (some ⟨bb,bo,none⟩) n c),some (28,.int .i64 (j:Int)),some (29,.pointer (some ⟨bb,bo+j * 2,none⟩)),some (30,.pointer (some ⟨bb,bo+j * 2+1,none⟩)),some (31,.slice sA s.length sc),some (32,.int .i64 (s.length:Int)),none,none]
def ck1S:List (Option Nat):= [some 19,some 20,some 21,some 22,some 23,some 24,some 25,none,some 27,some 28,some 29,some 30,some 31,some 32,none,none]
theorem ck1SB:CB ck1S 0 7 26 14 33 15 0:=⟨by decide,by decide,by decide,by decide,by decide,rfl,rfl,rfl⟩
def ck2V (v2:Value) (gs:Nat) (a b was:Int):List (Option (Nat×Value)):=
 [some (52,v2),some (53,.pointer (some ⟨gs,0,none⟩)),some (54,.int .u32 a),some (55,.int .i64 a),some (56,.int .i64 was),some (57,.int .i64 (a - was)),none,some (59,.pointer (some ⟨gs,1,none⟩)),some (60,.int .u32 b),some (61,.pointer (some ⟨gs,0,none⟩)),some (62,.int .u32 a),some (63,.int .u32 (b - a)),some (64,.int .i64 (b - a)),none,none]
def ck2S:List (Option Nat):= [some 52,some 53,some 54,some 55,some 56,some 57,none,some 59,some 60,some 61,some 62,some 63,some 64,none,none]
theorem ck2SB:CB ck2S 0 6 58 13 65 14 0:=⟨by decide,by decide,by decide,by decide,by decide,rfl,rfl,rfl⟩
theorem nb_app {l:List UInt8} {z:Int} {m k:Nat} (hl:l.length≤m) (h0:0≤z) (h1:z≤1099511627776) (hk:m+6≤k):(l++nb z.toNat).length≤k:=by
 have:=nb_six (n:=z.toNat) (by omega)
 rw [List.length_append]
 omega
theorem nbs_two (l:List UInt8) (a b:Int):l++nb a.toNat++nb b.toNat=l++nbs [a,b]:=by
 rw [nbs_cons,nbs_cons,nbs_nil,List.append_nil,List.append_assoc]
theorem rclock (base:Nat) (v0:Value) (pre:List UInt8) (A:Option Addr) (n c:Nat) (L:List TmL) (w:World) (hp:ByR w base v0 pre) (hbase:base≤w.heap.size) (hr:RT w base A L) (hn:L.length=n) (hok:∀ x∈L,okT x) (hm:mayT (L.map TmL.pt)) (hsz:pre.length≤500000000):
 Calls Tryz.prog 95 #[v0,.slice A n c] w (Lays base w (pre++nbs (ckNums (L.map TmL.pt)))):=by
 have hn8:n≤8:=by
  have:=mayT_len hm
  rw [List.length_map,hn] at this
  exact this
 have Hm:=hide hm
 have HR:=hide hr
 have HP:=hide hp
 have Hn:=hide hn
 have Hok:=hide hok
 clear hm hr hp hn hok
 go_enter Tryz.func95,Tryz.ntmps95
 go_wp2_with fail
 refine (rnum base v0 pre (n:Int) w HP.out hbase (by omega) (by omega) (by omega)).mono ?_
 rintro e w2 ⟨vn,rfl,hp2,hb2,hk2⟩
 have hl2:(pre++nb (n:Int).toNat).length≤500000006:=nb_app hsz (by omega) (by omega) (by omega)
 have e2:pre++nb (n:Int).toNat=pre++nbs [(n:Int)]:=by rw [nbs_cons,nbs_nil,List.append_nil]
 rw [e2] at hp2 hl2
 have HP2:=hide hp2
 have HK2:=hide hk2
 have Hl2:=hide hl2
 clear hp2 hk2 hl2 e2
 go_wp2_with fail
 go_loopw [0,5] (fun v i wr=>∃ j:Nat,j≤n∧i= .int .i64 (j:Int)∧Hid (ByR wr base v (pre++nbs ((n:Int) :: ((L.map TmL.pt).take j).flatMap tmNums)))∧Hid ((pre++nbs ((n:Int) :: ((L.map TmL.pt).take j).flatMap tmNums)).length≤500000006+15000 * j)∧Below base w wr∧Hid (Kept w wr)) (fun _ i _=>n - (intOf i).toNat)
 case atStart=>exact⟨0,by omega,rfl,HP2,Hl2,hb2,HK2⟩
 case round=>
  obtain⟨j,hj,rfl,HPj,Hlj,hb,HK⟩:=hrel
  clear HP2 HK2 Hl2 HP
  obtain⟨pj,hpj⟩:∃ q,q=pre++nbs ((n:Int) :: ((L.map TmL.pt).take j).flatMap tmNums):=⟨_,rfl⟩
  have Hpj:=hide hpj
  rw [←hpj] at HPj Hlj
  clear hpj
  by_cases hltn:j < n
  ·have z0:(j:Int) < n:=by omega
   have zj:(0:Int)≤j:=by omega
   have hltL:j < L.length:=by rw [Hn.out];exact hltn
   obtain⟨bb,bo,rfl,hBb,hCc⟩:=RT.cell (HR.out.below hb) (by omega)
   obtain⟨d0,d1⟩:=hCc j hltL
   obtain⟨x,hx⟩:∃ x,L[j]=x:=⟨_,rfl⟩
   rw [hx] at d0 d1
   obtain⟨R,sA,sc,s⟩:=x
   simp only at d0 d1
   have hxm:(⟨R,sA,sc,s⟩:TmL)∈L:=by rw [←hx];exact List.getElem_mem hltL
   obtain⟨q1,q2,q3,q4⟩:=Hok.out _ hxm
   simp only at q1 q2 q3 q4
   have hall:=chainT_all _ _ Hm.out (TmL.pt ⟨R,sA,sc,s⟩) (List.mem_map_of_mem hxm)
   have hs9:s.length≤1024:=hall.1.1
   have Hch:=hide (show chainS 1 s from hall.1.2)
   have HRx:=hide (HR.out.2 _ hxm)
   have hR8:IntKind.i64.wrap R=R:=IntWalk.i64_in _ (by omega)
   have Hnext:Hid (((n:Int) :: ((L.map TmL.pt).take (j+1)).flatMap tmNums)=((n:Int) :: ((L.map TmL.pt).take j).flatMap tmNums)++ [R,(s.length:Int)]++spNums 0 s):=hide (by
    rw [List.take_succ_eq_append_getElem (by rw [List.length_map];exact hltL),List.flatMap_append,List.getElem_map,hx]
    simp [tmNums,TmL.pt])
   have hlj:=Hlj.out
   have hl6:pj.length≤1000000000:=by omega
   have hl7:(pj++nb R.toNat).length≤1000000000:=nb_app hlj q1 (by omega) (by omega)
   have Hl4:Hid ((pj++nbs [R,(s.length:Int)]).length≤500000018+15000 * j):=hide (by
    rw [←nbs_two]
    exact nb_app (nb_app (k:=500000012+15000 * j) hlj q1 (by omega) (by omega)) (by omega) (by omega) (by omega))
   have hbase6:base≤wr.heap.size:=Nat.le_trans hbase hb.size
   have HK0:=HK
   have Hjx:=hide hx
   clear hCc hx hxm q3 hall hlj
   go_wp2_with fail
   refine wp_region_inv (fun done ρ W=>CH wr base (ck1V u0 bb bo n c j R sA sc s) 0 7 26 14 33 15 0 u0 u0 pj (pj++nb R.toNat) (pj++nb R.toNat++nb (s.length:Int).toNat) done ρ W) (by kernel_rfl) 70 rfl (by kernel_rfl) ?_ ?_ ?_
   ·exact CH.start (Below.refl _ _).drew (Kept.refl _) HPj.out rfl
   ·refine⟨?_,?_,?_,?_,?_,?_,?_,?_,?_,?_,?_,?_,?_,?_,?_,?_,trivial⟩
    ·
     intro done ρ W hn hf hd h
     have q0:=h.first hn
     clear hf
     refine .inl ⟨rfl,opOK_step fun R9 hR9=>?_⟩
     unfold opOK
     go_simp
     exact hR9 _ _ (h.plain ck1S rfl ck1SB 0 19 _ rfl)
    ·
     intro done ρ W hn hf hd h
     have qs1:ρ 1= .slice (some ⟨bb,bo,none⟩) n c:=hf 1 (by kernel_rfl)
     clear hf
     refine .inl ⟨rfl,opOK_step fun R9 hR9=>?_⟩
     unfold opOK
     go_simp
     exact hR9 _ _ (h.plain ck1S rfl ck1SB 1 20 _ rfl)
    ·
     intro done ρ W hn hf hd h
     have qs5:ρ 5= .int .i64 (j:Int):=hf 5 (by kernel_rfl)
     clear hf
     refine .inl ⟨rfl,opOK_step fun R9 hR9=>?_⟩
     unfold opOK
     go_simp
     exact hR9 _ _ (h.plain ck1S rfl ck1SB 2 21 _ rfl)
    ·
     intro done ρ W hn hf hd h
     have qd1:=h.get 1 20 _ rfl (hd 1 (by kernel_rfl))
     have qd2:=h.get 2 21 _ rfl (hd 2 (by kernel_rfl))
     clear hf
     refine .inl ⟨rfl,opOK_step fun R9 hR9=>?_⟩
     unfold opOK
     go_simp
     exact hR9 _ _ (h.plain ck1S rfl ck1SB 3 22 _ rfl)
    ·
     intro done ρ W hn hf hd h
     have qd3:=h.get 3 22 _ rfl (hd 3 (by kernel_rfl))
     clear hf
     refine .inl ⟨rfl,opOK_step fun R9 hR9=>?_⟩
     unfold opOK
     go_simp
     exact hR9 _ _ (h.plain ck1S rfl ck1SB 4 23 _ rfl)
    ·
     intro done ρ W hn hf hd h
     have qd4:=h.get 4 23 _ rfl (hd 4 (by kernel_rfl))
     have d0:=keepB h.b hBb d0
     have d1:=keepB h.b hBb d1
     clear hf
     refine .inl ⟨rfl,opOK_step fun R9 hR9=>?_⟩
     unfold opOK
     go_simp
     exact hR9 _ _ (h.plain ck1S rfl ck1SB 5 24 _ rfl)
    ·
     intro done ρ W hn hf hd h
     have qd5:=h.get 5 24 _ rfl (hd 5 (by kernel_rfl))
     clear hf
     refine .inl ⟨rfl,opOK_step fun R9 hR9=>?_⟩
     unfold opOK
     go_simp
     exact hR9 _ _ (h.plain ck1S rfl ck1SB 6 25 _ rfl)
    ·
     intro done ρ W hn hf hd h
     have qd0:=h.get 0 19 _ rfl (hd 0 (by kernel_rfl))
     have qd6:=h.get 6 25 _ rfl (hd 6 (by kernel_rfl))
     have h0:=h.c0 hn
     have hd0:=hd 0 (by kernel_rfl)
     clear hf
     refine .inl ⟨rfl,opOK_step fun R9 hR9=>?_⟩
     unfold opOK
     go_simp
     refine (rnum base u0 pj R W h0 (Nat.le_trans hbase6 h.b.size) q1 (by omega) hl6).mono ?_
     rintro e w' ⟨v',rfl,hr',hb',hk'⟩
     exact⟨v',rfl,hR9 _ _ (h.call1 ck1S rfl ck1SB hn hd0 hr' hb' hk')⟩
    ·
     intro done ρ W hn hf hd h
     have qs1:ρ 1= .slice (some ⟨bb,bo,none⟩) n c:=hf 1 (by kernel_rfl)
     clear hf
     refine .inl ⟨rfl,opOK_step fun R9 hR9=>?_⟩
     unfold opOK
     go_simp
     exact hR9 _ _ (h.plain ck1S rfl ck1SB 8 27 _ rfl)
    ·
     intro done ρ W hn hf hd h
     have qs5:ρ 5= .int .i64 (j:Int):=hf 5 (by kernel_rfl)
     clear hf
     refine .inl ⟨rfl,opOK_step fun R9 hR9=>?_⟩
     unfold opOK
     go_simp
     exact hR9 _ _ (h.plain ck1S rfl ck1SB 9 28 _ rfl)
    ·
     intro done ρ W hn hf hd h
     have qd8:=h.get 8 27 _ rfl (hd 8 (by kernel_rfl))
     have qd9:=h.get 9 28 _ rfl (hd 9 (by kernel_rfl))
     clear hf
     refine .inl ⟨rfl,opOK_step fun R9 hR9=>?_⟩
     unfold opOK
     go_simp
     exact hR9 _ _ (h.plain ck1S rfl ck1SB 10 29 _ rfl)
    ·
     intro done ρ W hn hf hd h
     have qd10:=h.get 10 29 _ rfl (hd 10 (by kernel_rfl))
     clear hf
     refine .inl ⟨rfl,opOK_step fun R9 hR9=>?_⟩
     unfold opOK
     go_simp
     exact hR9 _ _ (h.plain ck1S rfl ck1SB 11 30 _ rfl)
    ·
     intro done ρ W hn hf hd h
     have qd11:=h.get 11 30 _ rfl (hd 11 (by kernel_rfl))
     have d0:=keepB h.b hBb d0
     have d1:=keepB h.b hBb d1
     clear hf
     refine .inl ⟨rfl,opOK_step fun R9 hR9=>?_⟩
     unfold opOK
     go_simp
     exact hR9 _ _ (h.plain ck1S rfl ck1SB 12 31 _ rfl)
    ·
     intro done ρ W hn hf hd h
     have qd12:=h.get 12 31 _ rfl (hd 12 (by kernel_rfl))
     clear hf
     refine .inl ⟨rfl,opOK_step fun R9 hR9=>?_⟩
     unfold opOK
     go_simp
     exact hR9 _ _ (h.plain ck1S rfl ck1SB 13 32 _ rfl)
    ·
     intro done ρ W hn hf hd h
     have qd13:=h.get 13 32 _ rfl (hd 13 (by kernel_rfl))
     have h1:=hd 7 (by kernel_rfl)
     have hR1:=h.c1 h1 hn
     clear hf
     refine .inl ⟨rfl,opOK_step fun R9 hR9=>?_⟩
     unfold opOK
     go_simp
     refine (rnum base _ (pj++nb R.toNat) (s.length:Int) W hR1 (Nat.le_trans hbase6 h.b.size) (by omega) (by omega) hl7).mono ?_
     rintro e w' ⟨v',rfl,hr',hb',hk'⟩
     exact⟨v',rfl,hR9 _ _ (h.call2 ck1S rfl ck1SB hn h1 hr' hb' hk')⟩
    ·
     intro done ρ W hn hf hd h
     have h2:=hd 14 (by kernel_rfl)
     clear hf
     refine .inl ⟨rfl,opOK_step fun R9 hR9=>?_⟩
     unfold opOK
     go_simp
     exact hR9 _ _ (h.lay ck1S rfl ck1SB h2 rfl)
   ·intro a' w6 hdf hsz hf h
    have hb6:Below base wr w6:=h.b
    have hk6:=h.k
    have hR6:=h.c3 (by kernel_rfl)
    have h1:slotsOf a' 1= .slice (some ⟨bb,bo,none⟩) n c:=hf 1 (by kernel_rfl)
    have h2:slotsOf a' 2=undef:=hf 2 (by kernel_rfl)
    have h3:slotsOf a' 3=undef:=hf 3 (by kernel_rfl)
    have h4:slotsOf a' 4= .slice none 0 0:=hf 4 (by kernel_rfl)
    have h5:slotsOf a' 5= .int .i64 (j:Int):=hf 5 (by kernel_rfl)
    have h9:slotsOf a' 9=v0:=hf 9 (by kernel_rfl)
    have h10:slotsOf a' 10= .slice (some ⟨bb,bo,none⟩) n c:=hf 10 (by kernel_rfl)
    have h11:slotsOf a' 11= .int .i64 (n:Int):=hf 11 (by kernel_rfl)
    have h12:slotsOf a' 12=vn:=hf 12 (by kernel_rfl)
    have h69:slotsOf a' 69=undef:=hf 69 (by kernel_rfl)
    obtain⟨T,D⟩:=a'
    have hD:D= []:=hdf
    subst hD
    obtain⟨f1,hT,hff⟩:∃ f:Nat→Value,T=((List.range 70).map f).toArray∧slotsOf ⟨T, []⟩=f:=⟨_,arr_list T 70 hsz,rfl⟩
    rw [hff] at hR6 h1 h2 h3 h4 h5 h9 h10 h11 h12 h69
    clear hff hsz hf h hdf
    simp only [List.range,List.range.loop,List.map] at hT
    subst hT
    rw [h1,h2,h3,h4,h5,h9,h10,h11,h12,h69]
    clear h1 h2 h3 h4 h5 h9 h10 h11 h12 h69
    rw [nbs_two] at hR6
    have HP4:=hide hR6
    have HB4:=hide (hb.trans hb6)
    have HK4:=hide (HK0.out.trans hk6)
    clear hR6 hb6 hk6 hbase6 HPj HK HK0 d0 d1 hl6 hl7 hBb
    go_wp2_with fail
    go_loopw [0,6,7] (fun v2 q i wq=>∃ k:Nat,k≤s.length∧i= .int .i64 (k:Int)∧q= .int .i64 (wasS 0 (s.take k))∧Hid (ByR wq base v2 (pj++nbs ([R,(s.length:Int)]++spNums 0 (s.take k))))∧Hid ((pj++nbs ([R,(s.length:Int)]++spNums 0 (s.take k))).length≤500000018+15000 * j+12 * k)∧Below base w wq∧Hid (Kept w wq)) (fun _ _ i _=>s.length - (intOf i).toNat)
    case atStart=>exact⟨0,by omega,rfl,rfl,HP4,Hl4,HB4.out,HK4⟩
    case round=>
     obtain⟨k,hk,rfl,rfl,HPk,Hlk,hbk,HKk⟩:=hrel
     clear HP4 HK4 Hl4 HB4
     obtain⟨pk,hpk⟩:∃ q,q=pj++nbs ([R,(s.length:Int)]++spNums 0 (s.take k)):=⟨_,rfl⟩
     have Hpk:=hide hpk
     rw [←hpk] at HPk Hlk
     clear hpk
     obtain⟨was,hwas⟩:∃ q,q=wasS 0 (s.take k):=⟨_,rfl⟩
     have Hwas:=hide hwas
     rw [←hwas]
     have hBq:=hide (RT.cell (HR.out.below hbk) (by have:=Hn.out;omega))
     obtain⟨bb',bo',hbb,hBb,hCc⟩:=hBq.out
     obtain⟨rfl,rfl⟩:bb=bb'∧bo=bo':=by
      simp only [Option.some.injEq,Addr.mk.injEq] at hbb
      exact⟨hbb.1,hbb.2.1⟩
     obtain⟨d0,d1⟩:=hCc j hltL
     rw [Hjx.out] at d0 d1
     simp only at d0 d1
     clear hCc hbb hBq
     by_cases hlk:k < s.length
     ·have z1:(k:Int) < s.length:=by omega
      have zk:(0:Int)≤k:=by omega
      obtain⟨b2,o2,rfl,hB2,hC2⟩:=RS.cell (RD.below HRx.out hbk) (by omega)
      obtain⟨e0,e1⟩:=hC2 k hlk
      obtain⟨wa0,wa1⟩:=wasS_take s 0 1 k hlk (by omega) (by omega) Hch.out
      obtain⟨ch1,ch2,ch3⟩:=chainS_at s 1 k hlk Hch.out
      rw [←hwas] at wa0 wa1
      obtain⟨a,ha⟩:∃ q,q=s[k].1:=⟨_,rfl⟩
      obtain⟨b,hb9⟩:∃ q,q=s[k].2:=⟨_,rfl⟩
      rw [←ha] at e0 wa1 ch1 ch3
      rw [←hb9] at e1 ch1 ch2
      have Hab:=hide (show s[k]=(a,b) by rw [ha,hb9])
      obtain⟨ws,hws,Fs,hss,hbs⟩:=B2.new 129 wr (.int .u32 a) (.int .u32 b)
      obtain⟨t0,t1⟩:=Fs.cells
      have u1:IntKind.i64.wrap a=a:=IntWalk.i64_in _ (by omega)
      have u2:IntKind.i64.wrap b=b:=IntWalk.i64_in _ (by omega)
      have u3:IntKind.i64.wrap (a - was)=a - was:=IntWalk.i64_in _ (by omega)
      have u4:IntKind.u32.wrap (b - a)=b - a:=IntWalk.u32_in _ (by omega)
      have u5:IntKind.i64.wrap (b - a)=b - a:=IntWalk.i64_in _ (by omega)
      obtain⟨gs,hgs⟩:∃ q,q=wr.heap.size:=⟨_,rfl⟩
      have Hgs:=hide hgs
      have Hws:=hide hws
      rw [←hgs] at Fs
      have HFs:=hide Fs
      have hbaseq:base≤wr.heap.size:=Nat.le_trans hbase hbk.size
      have HPs:=hide (HPk.out.below hbs)
      have HBs:=hide (hbk.trans (hbs.mono hbaseq))
      have HKs:=hide (HKk.out.trans (Kept.below hbs))
      have hbase7:base≤ws.heap.size:=Nat.le_trans hbaseq hbs.size
      have hlk9:=Hlk.out
      have hl8:pk.length≤1000000000:=by omega
      have hl9:(pk++nb (a - was).toNat).length≤1000000000:=nb_app hlk9 (by omega) (by omega) (by omega)
      have Hnx:=hide (show pk++nbs [a - was,b - a]=pj++nbs ([R,(s.length:Int)]++spNums 0 (s.take (k+1))) by
       rw [List.take_succ_eq_append_getElem hlk,Hab.out,spNums_snoc,←Hwas.out,Hpk.out,List.append_assoc,←nbs_append,List.append_assoc])
      have Hl8:=hide (show (pj++nbs ([R,(s.length:Int)]++spNums 0 (s.take (k+1)))).length≤500000018+15000 * j+12 * (k+1) by
       rw [←Hnx.out,←nbs_two]
       exact nb_app (nb_app (k:=500000018+15000 * j+12 * k+6) hlk9 (by omega) (by omega) (by omega)) (by omega) (by omega) (by omega))
      have Hwn:=hide (show wasS 0 (s.take (k+1))=b by rw [List.take_succ_eq_append_getElem hlk,Hab.out,wasS_snoc])
      clear hC2 ha hb9 Fs hbs hgs hws hwas HPk HKk hlk9
      go_wp2_with fail
      rw [Hws.out,←Hgs.out]
      clear e0 e1 t0 t1 d0 d1
      refine wp_region_inv (fun done ρ W=>CH ws base (ck2V u0 gs a b was) 0 6 58 13 65 14 0 u0 u0 pk (pk++nb (a - was).toNat) (pk++nb (a - was).toNat++nb (b - a).toNat) done ρ W) (by kernel_rfl) 70 rfl (by kernel_rfl) ?_ ?_ ?_
      ·exact CH.start (Below.refl _ _).drew (Kept.refl _) HPs.out rfl
      ·refine⟨?_,?_,?_,?_,?_,?_,?_,?_,?_,?_,?_,?_,?_,?_,?_,trivial⟩
       ·
        intro done ρ W hn hf hd h
        have q0:=h.first hn
        clear hf
        refine .inl ⟨rfl,opOK_step fun R9 hR9=>?_⟩
        unfold opOK
        go_simp
        exact hR9 _ _ (h.plain ck2S rfl ck2SB 0 52 _ rfl)
       ·
        intro done ρ W hn hf hd h
        have qs8:ρ 8= .pointer (some ⟨gs,0,none⟩):=hf 8 (by kernel_rfl)
        clear hf
        refine .inl ⟨rfl,opOK_step fun R9 hR9=>?_⟩
        unfold opOK
        go_simp
        exact hR9 _ _ (h.plain ck2S rfl ck2SB 1 53 _ rfl)
       ·
        intro done ρ W hn hf hd h
        have qd1:=h.get 1 53 _ rfl (hd 1 (by kernel_rfl))
        obtain⟨t0,t1⟩:=(HFs.out.kept (by decide) h.k).cells
        clear hf
        refine .inl ⟨rfl,opOK_step fun R9 hR9=>?_⟩
        unfold opOK
        go_simp
        exact hR9 _ _ (h.plain ck2S rfl ck2SB 2 54 _ rfl)
       ·
        intro done ρ W hn hf hd h
        have qd2:=h.get 2 54 _ rfl (hd 2 (by kernel_rfl))
        clear hf
        refine .inl ⟨rfl,opOK_step fun R9 hR9=>?_⟩
        unfold opOK
        go_simp
        exact hR9 _ _ (h.plain ck2S rfl ck2SB 3 55 _ rfl)
       ·
        intro done ρ W hn hf hd h
        have qs6:ρ 6= .int .i64 was:=hf 6 (by kernel_rfl)
        clear hf
        refine .inl ⟨rfl,opOK_step fun R9 hR9=>?_⟩
        unfold opOK
        go_simp
        exact hR9 _ _ (h.plain ck2S rfl ck2SB 4 56 _ rfl)
       ·
        intro done ρ W hn hf hd h
        have qd3:=h.get 3 55 _ rfl (hd 3 (by kernel_rfl))
        have qd4:=h.get 4 56 _ rfl (hd 4 (by kernel_rfl))
        clear hf
        refine .inl ⟨rfl,opOK_step fun R9 hR9=>?_⟩
        unfold opOK
        go_simp
        exact hR9 _ _ (h.plain ck2S rfl ck2SB 5 57 _ rfl)
       ·
        intro done ρ W hn hf hd h
        have qd0:=h.get 0 52 _ rfl (hd 0 (by kernel_rfl))
        have qd5:=h.get 5 57 _ rfl (hd 5 (by kernel_rfl))
        have h0:=h.c0 hn
        have hd0:=hd 0 (by kernel_rfl)
        clear hf
        refine .inl ⟨rfl,opOK_step fun R9 hR9=>?_⟩
        unfold opOK
        go_simp
        refine (rnum base u0 pk (a - was) W h0 (Nat.le_trans hbase7 h.b.size) (by omega) (by omega) hl8).mono ?_
        rintro e w' ⟨v',rfl,hr',hb',hk'⟩
        exact⟨v',rfl,hR9 _ _ (h.call1 ck2S rfl ck2SB hn hd0 hr' hb' hk')⟩
       ·
        intro done ρ W hn hf hd h
        have qs8:ρ 8= .pointer (some ⟨gs,0,none⟩):=hf 8 (by kernel_rfl)
        clear hf
        refine .inl ⟨rfl,opOK_step fun R9 hR9=>?_⟩
        unfold opOK
        go_simp
        exact hR9 _ _ (h.plain ck2S rfl ck2SB 7 59 _ rfl)
       ·
        intro done ρ W hn hf hd h
        have qd7:=h.get 7 59 _ rfl (hd 7 (by kernel_rfl))
        obtain⟨t0,t1⟩:=(HFs.out.kept (by decide) h.k).cells
        clear hf
        refine .inl ⟨rfl,opOK_step fun R9 hR9=>?_⟩
        unfold opOK
        go_simp
        exact hR9 _ _ (h.plain ck2S rfl ck2SB 8 60 _ rfl)
       ·
        intro done ρ W hn hf hd h
        have qs8:ρ 8= .pointer (some ⟨gs,0,none⟩):=hf 8 (by kernel_rfl)
        clear hf
        refine .inl ⟨rfl,opOK_step fun R9 hR9=>?_⟩
        unfold opOK
        go_simp
        exact hR9 _ _ (h.plain ck2S rfl ck2SB 9 61 _ rfl)
       ·
        intro done ρ W hn hf hd h
        have qd9:=h.get 9 61 _ rfl (hd 9 (by kernel_rfl))
        obtain⟨t0,t1⟩:=(HFs.out.kept (by decide) h.k).cells
        clear hf
        refine .inl ⟨rfl,opOK_step fun R9 hR9=>?_⟩
        unfold opOK
        go_simp
        exact hR9 _ _ (h.plain ck2S rfl ck2SB 10 62 _ rfl)
       ·
        intro done ρ W hn hf hd h
        have qd8:=h.get 8 60 _ rfl (hd 8 (by kernel_rfl))
        have qd10:=h.get 10 62 _ rfl (hd 10 (by kernel_rfl))
        clear hf
        refine .inl ⟨rfl,opOK_step fun R9 hR9=>?_⟩
        unfold opOK
        go_simp
        exact hR9 _ _ (h.plain ck2S rfl ck2SB 11 63 _ rfl)
       ·
        intro done ρ W hn hf hd h
        have qd11:=h.get 11 63 _ rfl (hd 11 (by kernel_rfl))
        clear hf
        refine .inl ⟨rfl,opOK_step fun R9 hR9=>?_⟩
        unfold opOK
        go_simp
        exact hR9 _ _ (h.plain ck2S rfl ck2SB 12 64 _ rfl)
       ·
        intro done ρ W hn hf hd h
        have qd12:=h.get 12 64 _ rfl (hd 12 (by kernel_rfl))
        have h1:=hd 6 (by kernel_rfl)
        have hR1:=h.c1 h1 hn
        clear hf
        refine .inl ⟨rfl,opOK_step fun R9 hR9=>?_⟩
        unfold opOK
        go_simp
        refine (rnum base _ (pk++nb (a - was).toNat) (b - a) W hR1 (Nat.le_trans hbase7 h.b.size) (by omega) (by omega) hl9).mono ?_
        rintro e w' ⟨v',rfl,hr',hb',hk'⟩
        exact⟨v',rfl,hR9 _ _ (h.call2 ck2S rfl ck2SB hn h1 hr' hb' hk')⟩
       ·
        intro done ρ W hn hf hd h
        have h2:=hd 13 (by kernel_rfl)
        clear hf
        refine .inl ⟨rfl,opOK_step fun R9 hR9=>?_⟩
        unfold opOK
        go_simp
        exact hR9 _ _ (h.lay ck2S rfl ck2SB h2 rfl)
      ·intro a' w6 hdf hsz hf h
       have hb6:Below base ws w6:=h.b
       have hk6:=h.k
       have hR6:=h.c3 (by kernel_rfl)
       have h1:slotsOf a' 1= .slice (some ⟨bb,bo,none⟩) n c:=hf 1 (by kernel_rfl)
       have h2:slotsOf a' 2=undef:=hf 2 (by kernel_rfl)
       have h3:slotsOf a' 3=undef:=hf 3 (by kernel_rfl)
       have h4:slotsOf a' 4= .slice none 0 0:=hf 4 (by kernel_rfl)
       have h5:slotsOf a' 5= .int .i64 (j:Int):=hf 5 (by kernel_rfl)
       have h7:slotsOf a' 7= .int .i64 (k:Int):=hf 7 (by kernel_rfl)
       have h8:slotsOf a' 8= .pointer (some ⟨gs,0,none⟩):=hf 8 (by kernel_rfl)
       have h9:slotsOf a' 9=v0:=hf 9 (by kernel_rfl)
       have h10:slotsOf a' 10= .slice (some ⟨bb,bo,none⟩) n c:=hf 10 (by kernel_rfl)
       have h11:slotsOf a' 11= .int .i64 (n:Int):=hf 11 (by kernel_rfl)
       have h12:slotsOf a' 12=vn:=hf 12 (by kernel_rfl)
       have h13:slotsOf a' 13=f1 13:=hf 13 (by kernel_rfl)
       have h14:slotsOf a' 14=f1 14:=hf 14 (by kernel_rfl)
       have h15:slotsOf a' 15=f1 15:=hf 15 (by kernel_rfl)
       have h16:slotsOf a' 16=f1 16:=hf 16 (by kernel_rfl)
       have h17:slotsOf a' 17=f1 17:=hf 17 (by kernel_rfl)
       have h18:slotsOf a' 18=f1 18:=hf 18 (by kernel_rfl)
       have h19:slotsOf a' 19=f1 19:=hf 19 (by kernel_rfl)
       have h20:slotsOf a' 20=f1 20:=hf 20 (by kernel_rfl)
       have h21:slotsOf a' 21=f1 21:=hf 21 (by kernel_rfl)
       have h22:slotsOf a' 22=f1 22:=hf 22 (by kernel_rfl)
       have h23:slotsOf a' 23=f1 23:=hf 23 (by kernel_rfl)
       have h24:slotsOf a' 24=f1 24:=hf 24 (by kernel_rfl)
       have h25:slotsOf a' 25=f1 25:=hf 25 (by kernel_rfl)
       have h26:slotsOf a' 26=f1 26:=hf 26 (by kernel_rfl)
       have h27:slotsOf a' 27=f1 27:=hf 27 (by kernel_rfl)
       have h28:slotsOf a' 28=f1 28:=hf 28 (by kernel_rfl)
       have h29:slotsOf a' 29=f1 29:=hf 29 (by kernel_rfl)
       have h30:slotsOf a' 30=f1 30:=hf 30 (by kernel_rfl)
       have h31:slotsOf a' 31=f1 31:=hf 31 (by kernel_rfl)
       have h32:slotsOf a' 32=f1 32:=hf 32 (by kernel_rfl)
       have h33:slotsOf a' 33=f1 33:=hf 33 (by kernel_rfl)
       have h69:slotsOf a' 69=undef:=hf 69 (by kernel_rfl)
       obtain⟨T,D⟩:=a'
       have hD:D= []:=hdf
       subst hD
       obtain⟨f2,hT,hff⟩:∃ f:Nat→Value,T=((List.range 70).map f).toArray∧slotsOf ⟨T, []⟩=f:=⟨_,arr_list T 70 hsz,rfl⟩
       rw [hff] at hR6 h1 h2 h3 h4 h5 h7 h8 h9 h10 h11 h12 h13 h14 h15 h16 h17 h18 h19 h20 h21 h22 h23 h24 h25 h26 h27 h28 h29 h30 h31 h32 h33 h69
       clear hff hsz hf h hdf
       simp only [List.range,List.range.loop,List.map] at hT
       subst hT
       rw [h1,h2,h3,h4,h5,h7,h8,h9,h10,h11,h12,h13,h14,h15,h16,h17,h18,h19,h20,h21,h22,h23,h24,h25,h26,h27,h28,h29,h30,h31,h32,h33,h69]
       clear h1 h2 h3 h4 h5 h7 h8 h9 h10 h11 h12 h13 h14 h15 h16 h17 h18 h19 h20 h21 h22 h23 h24 h25 h26 h27 h28 h29 h30 h31 h32 h33 h69
       rw [nbs_two,Hnx.out] at hR6
       have HR6:=hide hR6
       have HB6:=hide (HBs.out.trans hb6)
       have HK6:=hide (HKs.out.trans hk6)
       obtain⟨y0,y1⟩:=(HFs.out.kept (by decide) hk6).cells
       clear hR6 hb6 hk6 hbase7
       go_wp2_with fail
       go_roundw
       case rel=>exact⟨k+1,by omega,by go_num,by rw [Hwn.out],HR6,Hl8,HB6.out,HK6⟩
       case measure=>simp [intOf];omega
     ·obtain rfl:k=s.length:=by omega
      have z1:¬ (s.length:Int) < s.length:=by omega
      have Hfin:=hide (show pk=pre++nbs ((n:Int) :: ((L.map TmL.pt).take (j+1)).flatMap tmNums) by
       rw [Hpk.out,Hnext.out,Hpj.out,List.take_of_length_le (Nat.le_refl _),List.append_assoc,←nbs_append,List.append_assoc])
      go_wp2_with fail
      go_roundw
      case rel=>
       refine⟨j+1,by omega,by go_num,?_,?_,hbk,HKk⟩
       ·rw [←Hfin.out];exact HPk
       ·rw [←Hfin.out];exact hide (by have:=Hlk.out;omega)
      case measure=>simp [intOf];omega
  ·obtain rfl:j=n:=by omega
   have z0:¬ (j:Int) < j:=by omega
   have Hfin:=hide (show pj=pre++nbs (ckNums (L.map TmL.pt)) by
    rw [Hpj.out,List.take_of_length_le (by rw [List.length_map];exact Nat.le_of_eq Hn.out)]
    unfold ckNums
    rw [List.length_map,Hn.out])
   rw [Hfin.out] at HPj
   go_wp2_with fail
   go_ret
   exact Lays.mk HPj.out hb HK.out
end Go.Proofs.YtmkpfdcnikgokaaGreat
