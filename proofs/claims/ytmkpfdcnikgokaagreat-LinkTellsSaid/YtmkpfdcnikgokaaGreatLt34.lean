/-
  Texts of this claim, put together: RdClock. What each theorem asks stands in its statement.
-/
import Derived.Test.YtmkpfdcnikgokaaGreatLt11
import Derived.Test.YtmkpfdcnikgokaaGreatLt33
set_option linter.unusedVariables false
set_option linter.unusedSimpArgs false
set_option maxRecDepth 100000
set_option maxHeartbeats 25600000
namespace Go.Proofs.YtmkpfdcnikgokaaGreat
open Go.RowKit
theorem RY.belowB {w w':World} {g B:Nat} {st:ES} (h:RY w g st) (hb:Below B w w') (hg:g < B):RY w' g st:=by
 obtain⟨A,c,h1,h2,h3⟩:=h
 exact⟨A,c,(hb.block g hg).trans h1,RBT.below h2 (hb.mono (Nat.le_of_lt hg)),h3⟩
theorem rdclock (g:Nat) (st:ES) (w:World) (h:RY w g st) (P:List PT) (s9:ES) (hx:rdC st=(P,s9)):
 Calls Tryz.prog 139 #[.pointer (some ⟨g,0,none⟩)] w fun e w'=>∃ A c L,e= .returned (.slice A (List.length (α:=TmL) L) c)∧L.map TmL.pt=P∧OTm w' w.heap.size A c L∧(∀ x∈L,okT x)∧L.length≤8∧RY w' g s9∧OnlyAt g w w':=by
 obtain⟨i0,hi0,hz0,hz1,hz2⟩:=info_parts spinfo
 have hlt:=h.lt
 have Hlt:=hide hlt
 have Hle:=hide (Nat.le_of_lt hlt)
 unfold rdC at hx
 obtain⟨n,s1,h1⟩:∃ x s,eyeN 8 st=(x,s):=⟨_,_,rfl⟩
 rw [h1] at hx
 simp only at hx
 have H1:=hide h1
 have HX:=hide hx
 have HE:=hide h
 clear h1 hx h hlt
 go_enter Tryz.func139,Tryz.ntmps139
 go_wp2_with fail
 refine (rd_at g 8 st w HE.out n s1 H1.out (by decide)).mono ?_
 rintro e w2 ⟨rfl,hE2,ho2,x0,x1⟩
 have HE2:=hide hE2
 have HO2:=hide ho2
 obtain⟨N,rfl⟩:∃ N:Nat,n=N:=⟨n.toNat,by omega⟩
 have HX2:=HX
 rw [Int.toNat_natCast] at HX2
 clear hE2 ho2 HX HE
 go_wp2_with fail
 go_loopw [3,5] (fun v i wr=>∃ (j:Nat) (A:Option Addr) (c:Nat) (L:List TmL) (sj:ES),j≤N∧i= .int .i64 (j:Int)∧v= .slice A j c∧Hid (L.length=j)∧Hid (rdTm (N - j) (L.map TmL.pt) sj=(P,s9))∧Hid (OTm wr w.heap.size A c L)∧Hid (∀ x∈L,okT x)∧Hid (RY wr g sj)∧Hid (OnlyAt g w wr)) (fun _ i _=>N - (intOf i).toNat)
 case atStart=>exact⟨0,none,0, [],s1,by omega,rfl,rfl,hide rfl,HX2,hide (OTm.nil _ _),hide (fun x hx=>by cases hx),HE2,HO2⟩
 case round=>
  obtain⟨j,A,c,L,sj,hj,rfl,rfl,HLl,HP,HT,HK,HEj,HOj⟩:=hrel
  clear HX2 HE2 HO2
  by_cases hlt:j < N
  ·have z0:(j:Int) < N:=by omega
   have HP1:=HP
   rw [show N - j=(N - (j+1))+1 by omega] at HP1
   obtain⟨R,r1,hR⟩:∃ x s,eyeN 255 sj=(x,s):=⟨_,_,rfl⟩
   obtain⟨m,r2,hm⟩:∃ x s,eyeN 1024 r1=(x,s):=⟨_,_,rfl⟩
   have HR:=hide hR
   have Hm:=hide hm
   clear HP hR hm
   go_wp2_with fail
   refine (rd_at g 255 sj wr HEj.out R r1 HR.out (by decide)).mono ?_
   rintro e w3 ⟨rfl,hE3,ho3,R0,R1⟩
   have HE3:=hide hE3
   have HO3:=hide (HOj.out.trans ho3)
   have HT3:=hide (HT.out.at Hlt.out ho3)
   have hRu:IntKind.u8.wrap R=R:=by simp [IntKind.wrap,IntKind.bits,IntKind.signed];omega
   obtain⟨w4,hw4,F4,hs4,hb4⟩:=two_pb w3 (.int .u8 R) (.slice none 0 0) 123
   have hlt3:=HE3.out.lt
   obtain⟨gx,hgx⟩:∃ q,q=w3.heap.size:=⟨_,rfl⟩
   have Hgx:=hide hgx
   have Hg:=hide (show g < gx by rw [hgx];exact hlt3)
   have Hwx:=hide (show w.heap.size≤gx by rw [hgx];exact HO3.out.1.size)
   have HE4:=hide (HE3.out.below hb4)
   have HO4:=hide (OnlyAt.below hb4 (Nat.le_of_lt hlt3))
   have HF4:Hid (PB w4 gx (.int .u8 R) (.slice none 0 0) 123):=hide (by rw [hgx];exact F4)
   have Hw4:=hide hw4
   clear HT HOj HEj hE3 ho3 F4 hb4 hlt3 hgx hw4
   go_wp2_with fail
   rw [Hw4.out,←Hgx.out]
   clear Hw4
   refine (rd_at g 1024 r1 w4 HE4.out m r2 Hm.out (by decide)).mono ?_
   rintro e w5 ⟨rfl,hE5,ho5,m0,m1⟩
   have HE5:=hide hE5
   have HO5:=hide (HO4.out.trans ho5)
   have HF5:=hide (HF4.out.only ho5 (by have:=Hg.out;omega))
   obtain⟨M,rfl⟩:∃ M:Nat,m=M:=⟨m.toNat,by omega⟩
   clear hE5 ho5 HE4 HO4 HF4
   go_wp2_with fail
   go_loopw [8,9] (fun v i wr=>∃ (k:Nat) (was:Int) (A2:Option Addr) (c2:Nat) (l:List Sp) (sk:ES),k≤M∧i= .int .i64 (k:Int)∧v= .int .i64 was∧0≤was∧was≤1073741824∧Hid (l.length=k)∧Hid (rdSp l (M - k) was sk=rdSp [] M 0 r2)∧Hid (PB wr gx (.int .u8 R) (.slice A2 (List.length (α:=Sp) l) c2) 123)∧Hid (wr.ownsRow gx 129 2 (.slice A2 (List.length (α:=Sp) l) c2) l.length (sps l))∧Hid (∀ x∈l,okS x)∧Hid (RY wr g sk)∧Hid (OnlyAt g w3 wr)) (fun _ i _=>M - (intOf i).toNat)
   case atStart=>exact⟨0,0,none,0, [],r2,by omega,rfl,rfl,by decide,by decide,hide rfl,hide rfl,HF5,hide (World.ownsRow_nil _ _ _ _),hide (fun x hx=>by cases hx),HE5,HO5⟩
   case round=>
    obtain⟨k,was,A2,c2,l,sk,hk,rfl,rfl,hw0,hw9,Hll,HS,HF,HR2,HKs,HEk,HOk⟩:=hrel
    clear HE5 HO5 HF5
    by_cases hlk:k < M
    ·have z1:(k:Int) < M:=by omega
     have HS1:=HS
     rw [show M - k=(M - (k+1))+1 by omega] at HS1
     obtain⟨a,t1,ha⟩:∃ x s,eyeN 1073741824 sk=(x,s):=⟨_,_,rfl⟩
     obtain⟨b,t2,hb⟩:∃ x s,eyeN 1073741824 t1=(x,s):=⟨_,_,rfl⟩
     rw [rdSp_step ha hb] at HS1
     have HS2:=hide HS1.out
     have Ha:=hide ha
     have Hb:=hide hb
     clear HS HS1 ha hb
     go_wp2_with fail
     refine (rd_at g 1073741824 sk _ HEk.out a t1 Ha.out (by decide)).mono ?_
     rintro e w6 ⟨rfl,hE6,ho6,a0,a1⟩
     have HE6:=hide hE6
     have HO6:=hide (HOk.out.trans ho6)
     have HF6:=hide (HF.out.only ho6 (by have:=Hg.out;omega))
     have HR6:=hide (own_at HR2.out Hg.out ho6)
     have ha64:IntKind.i64.wrap (was+a)=was+a:=IntWalk.i64_in _ (by omega)
     clear hE6 ho6 HEk HOk HF HR2
     go_wp2_with fail
     refine (rd_at g 1073741824 t1 w6 HE6.out b t2 Hb.out (by decide)).mono ?_
     rintro e w7 ⟨rfl,hE7,ho7,b0,b1⟩
     have HE7:=hide hE7
     have HO7:=hide (HO6.out.trans ho7)
     have HF7:=hide (HF6.out.only ho7 (by have:=Hg.out;omega))
     have HR7:=hide (own_at HR6.out Hg.out ho7)
     have hb64:IntKind.i64.wrap (was+a+b)=was+a+b:=IntWalk.i64_in _ (by omega)
     clear hE7 ho7 HE6 HO6 HF6 HR6
     by_cases hbig:(1073741824:Int) < was+a+b
     ·have HS3:=hide (show rdSp (l++ [(was+a,0)]) (M - (k+1)) 0 (t2.1,true)=rdSp [] M 0 r2 by rw [←HS2.out,if_pos hbig])
      have f1:=HE7.out.fr1
      have c1:=HE7.out.cell1
      obtain⟨w7b,hw7b⟩:∃ q,w7.setCell ⟨g,1,none⟩ (.bool true)=q:=⟨_,rfl⟩
      have HE7b:=hide (show RY w7b g (t2.1,true) by rw [←hw7b];exact HE7.out.setBad true)
      have HO7b:=hide (show OnlyAt g w3 w7b by rw [←hw7b];exact HO7.out.trans (OnlyAt.set g 1 w7 (.bool true)))
      have HF7b:=hide (show PB w7b gx (.int .u8 R) (.slice A2 l.length c2) 123 by rw [←hw7b];exact HF7.out.only (OnlyAt.set g 1 w7 (.bool true)) (by have:=Hg.out;omega))
      have HR7b:=hide (show w7b.ownsRow gx 129 2 (.slice A2 l.length c2) l.length (sps l) by rw [←hw7b];exact own_at HR7.out Hg.out (OnlyAt.set g 1 w7 (.bool true)))
      clear HE7 HO7 HF7 HR7
      obtain⟨w8,hw8,F8,hs8,hb8⟩:=two_pb w7b (.int .u32 (was+a)) (.int .u32 (0)) 129
      have hrow:RD w8 w8.heap.size 2 (some ⟨w7b.heap.size,0,none⟩) 1 [.int .u32 (was+a),.int .u32 (0)]:=by rw [←hw8];exact pb_row _ _ _ _
      have HF8:=hide (HF7b.out.below hb8)
      have hownY:=own_below HR7b.out hb8 (Nat.le_refl _)
      have HE8:=hide (HE7b.out.below hb8)
      have HO8:=hide (HO7b.out.trans (OnlyAt.below hb8 (Nat.le_of_lt HE7b.out.lt)))
      obtain⟨y0,y1⟩:=HF7b.out.cells
      have hau:IntKind.u32.wrap (was+a)=was+a:=IntWalk.u32_in _ (by omega)
      have hbu:IntKind.u32.wrap (0)=0:=IntWalk.u32_in _ (by omega)
      have hgx8:gx≤w8.heap.size:=by
       have:=HO8.out.1.size
       have:=(Array.getElem?_eq_some_iff.1 HF8.out).1
       omega
      have hsz:l.length+1≤1073741824:=by have:=Hll.out;omega
      have Hw8:=hide hw8
      clear HS2 F8 hw8 hs8 hb8
      go_wp2_with (at_builtin;refine wpList_append_held _ rfl (.tmp 43) (.tmp 49) 121 rfl gx 129 i0 (.agg #[.int .u32 0,.int .u32 0]) 2 8 Tryz.underlying121 hi0 hz0 hz1 hz2 rfl (by decide) _ l.length (sps l) rfl (by rw [Hw8.out];exact hownY) w8.heap.size (some ⟨w7b.heap.size,0,none⟩) 1 1 [.int .u32 (was+a),.int .u32 (0)] rfl (by rw [Hw8.out];exact hrow) (sps_one [(was+a,0)]) hsz (by decide) (by rw [Hw8.out];exact hgx8) ?_;rw [Hw8.out];intro v9 w9 hown9 hb9 hk9;obtain⟨A9,c9,rfl,-,-,-⟩:=own_slice hown9;have HF9:=hide (hk9 gx _ HF8.out (fun cur e=>by simp at e));clear y0 y1 c1 f1 hw7b;obtain⟨y0,y1⟩:=PB.cells HF9.out;have q1:=PB.fr HF9.out 1)
      go_roundw
      case rel=>
       refine⟨k+1,0,A9,c9,l++ [(was+a,0)],(t2.1,true),by omega,by go_num,rfl,by omega,by omega,hide ?_,HS3,hide ?_,hide ?_,hide ?_,hide ?_,hide ?_⟩
       ·rw [List.length_append,Hll.out];rfl
       ·rw [List.length_append,List.length_singleton]
        exact PB.set1 HF9.out _
       ·rw [List.length_append,List.length_singleton,←sps_snoc]
        exact own_setT hown9 HF9.out (by decide) 1 _
       ·intro x hx
        rcases List.mem_append.1 hx with h | h
        ·exact HKs.out x h
        ·simp only [List.mem_singleton] at h
         subst h
         exact⟨by simp only;omega,by simp only;omega,by simp only;omega,by simp only;omega⟩
       ·exact (HE8.out.belowB hb9 Hg.out).other Hg.out 1 _
       ·exact (HO8.out.more (by rw [←Hgx.out];exact hb9) (by have:=Hg.out;rw [←Hgx.out];omega)).setNew (Nat.le_of_eq Hgx.out.symm) (by have:=Hg.out;rw [←Hgx.out];omega) 1 _
      case measure=>simp [intOf];omega
     ·have HS3:=hide (show rdSp (l++ [(was+a,was+a+b)]) (M - (k+1)) (was+a+b) t2=rdSp [] M 0 r2 by rw [←HS2.out,if_neg hbig])
      obtain⟨w8,hw8,F8,hs8,hb8⟩:=two_pb w7 (.int .u32 (was+a)) (.int .u32 (was+a+b)) 129
      have hrow:RD w8 w8.heap.size 2 (some ⟨w7.heap.size,0,none⟩) 1 [.int .u32 (was+a),.int .u32 (was+a+b)]:=by rw [←hw8];exact pb_row _ _ _ _
      have HF8:=hide (HF7.out.below hb8)
      have hownY:=own_below HR7.out hb8 (Nat.le_refl _)
      have HE8:=hide (HE7.out.below hb8)
      have HO8:=hide (HO7.out.trans (OnlyAt.below hb8 (Nat.le_of_lt HE7.out.lt)))
      obtain⟨y0,y1⟩:=HF7.out.cells
      have hau:IntKind.u32.wrap (was+a)=was+a:=IntWalk.u32_in _ (by omega)
      have hbu:IntKind.u32.wrap (was+a+b)=was+a+b:=IntWalk.u32_in _ (by omega)
      have hgx8:gx≤w8.heap.size:=by
       have:=HO8.out.1.size
       have:=(Array.getElem?_eq_some_iff.1 HF8.out).1
       omega
      have hsz:l.length+1≤1073741824:=by have:=Hll.out;omega
      have Hw8:=hide hw8
      clear HS2 F8 hw8 hs8 hb8
      go_wp2_with (at_builtin;refine wpList_append_held _ rfl (.tmp 43) (.tmp 49) 121 rfl gx 129 i0 (.agg #[.int .u32 0,.int .u32 0]) 2 8 Tryz.underlying121 hi0 hz0 hz1 hz2 rfl (by decide) _ l.length (sps l) rfl (by rw [Hw8.out];exact hownY) w8.heap.size (some ⟨w7.heap.size,0,none⟩) 1 1 [.int .u32 (was+a),.int .u32 (was+a+b)] rfl (by rw [Hw8.out];exact hrow) (sps_one [(was+a,was+a+b)]) hsz (by decide) (by rw [Hw8.out];exact hgx8) ?_;rw [Hw8.out];intro v9 w9 hown9 hb9 hk9;obtain⟨A9,c9,rfl,-,-,-⟩:=own_slice hown9;have HF9:=hide (hk9 gx _ HF8.out (fun cur e=>by simp at e));clear y0 y1;obtain⟨y0,y1⟩:=PB.cells HF9.out;have q1:=PB.fr HF9.out 1)
      go_roundw
      case rel=>
       refine⟨k+1,was+a+b,A9,c9,l++ [(was+a,was+a+b)],t2,by omega,by go_num,rfl,by omega,by omega,hide ?_,HS3,hide ?_,hide ?_,hide ?_,hide ?_,hide ?_⟩
       ·rw [List.length_append,Hll.out];rfl
       ·rw [List.length_append,List.length_singleton]
        exact PB.set1 HF9.out _
       ·rw [List.length_append,List.length_singleton,←sps_snoc]
        exact own_setT hown9 HF9.out (by decide) 1 _
       ·intro x hx
        rcases List.mem_append.1 hx with h | h
        ·exact HKs.out x h
        ·simp only [List.mem_singleton] at h
         subst h
         exact⟨by simp only;omega,by simp only;omega,by simp only;omega,by simp only;omega⟩
       ·exact (HE8.out.belowB hb9 Hg.out).other Hg.out 1 _
       ·exact (HO8.out.more (by rw [←Hgx.out];exact hb9) (by have:=Hg.out;rw [←Hgx.out];omega)).setNew (Nat.le_of_eq Hgx.out.symm) (by have:=Hg.out;rw [←Hgx.out];omega) 1 _
      case measure=>simp [intOf];omega
    ·have z1:¬ (k:Int) < M:=by omega
     obtain rfl:k=M:=by omega
     have HP3:=hide (show rdTm (N - (j+1)) ((L++ [(⟨R,A2,c2,l⟩:TmL)]).map TmL.pt) sk=(P,s9) by
      have h1:=HS.out
      rw [Nat.sub_self] at h1
      have h2:=HP1.out
      rw [rdTm_step (s:=l) (r3:=sk) HR.out Hm.out (by rw [Int.toNat_natCast];exact h1.symm)] at h2
      rw [List.map_append]
      exact h2)
     obtain⟨y0,y1⟩:=HF.out.cells
     have HTr:=hide (HT3.out.at Hlt.out HOk.out)
     have HO8:=hide (HO3.out.trans HOk.out)
     have HR8:=hide (own_less HR2.out Hwx.out)
     clear HS HP1 HT3 HO3 HOk HR2
     have hbx:w.heap.size≤wr.heap.size:=HO8.out.1.size
     have hrow:=pb_row wr (.int .u8 R) (.slice A2 l.length c2) 123
     have HEx:=hide (HEk.out.below (boxed wr (.cells #[.int .u8 R,.slice A2 l.length c2] 123)))
     have HOx:=hide (HO8.out.trans (OnlyAt.below (boxed wr (.cells #[.int .u8 R,.slice A2 l.length c2] 123)) (Nat.le_of_lt HEk.out.lt)))
     have Hokx:=hide (show okT ⟨R,A2,c2,l⟩ from⟨R0,by show R < 256;omega,HKs.out,by have:=Hll.out;show l.length < _;omega⟩)
     go_wp2_with (at_builtin;refine wpList_append_tm _ rfl (.tmp 52) (.tmp 54) rfl w.heap.size A c j L HLl.out rfl (HTr.out.below (boxed _ _)) ⟨R,A2,c2,l⟩ (own_below HR8.out (boxed _ _) (Nat.le_refl _)) (some ⟨wr.heap.size,0,none⟩) rfl hrow (by omega) (Nat.le_trans hbx (boxed wr _).size) ?_;intro A3 c3 w9 hT9 hb9)
     go_roundw
     case rel=>
      refine⟨j+1,A3,c3,L++ [⟨R,A2,c2,l⟩],sk,by omega,by go_num,rfl,hide ?_,HP3,hide hT9,hide ?_,hide (HEx.out.belowB hb9 Hlt.out),hide (HOx.out.more hb9 Hle.out)⟩
      ·rw [List.length_append,HLl.out];rfl
      ·intro x hx
       rcases List.mem_append.1 hx with h | h
       ·exact HK.out x h
       ·simp only [List.mem_singleton] at h
        subst h
        exact Hokx.out
     case measure=>simp [intOf];omega
  ·have z0:¬ (j:Int) < N:=by omega
   obtain rfl:j=N:=by omega
   have HP9:=hide (show L.map TmL.pt=P∧sj=s9 by
    have:=HP.out
    rw [Nat.sub_self] at this
    simp only [rdTm,Prod.mk.injEq] at this
    exact this)
   clear HP
   go_wp2_with fail
   go_ret
   exact⟨A,c,L,by rw [HLl.out];rfl,HP9.out.1,HT.out,HK.out,by rw [HLl.out];omega,by rw [←HP9.out.2];exact HEj.out,HOj.out⟩
end Go.Proofs.YtmkpfdcnikgokaaGreat
