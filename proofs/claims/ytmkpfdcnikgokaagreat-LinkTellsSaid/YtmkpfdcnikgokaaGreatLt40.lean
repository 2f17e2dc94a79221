/-
  Texts of this claim, put together: RdRead. What each theorem asks stands in its statement.
-/
import Derived.Test.YtmkpfdcnikgokaaGreatLt24
import Derived.Test.YtmkpfdcnikgokaaGreatLt33
import Derived.Test.YtmkpfdcnikgokaaGreatLt35
import Derived.Test.YtmkpfdcnikgokaaGreatLt39
set_option linter.unusedVariables false
set_option linter.unusedSimpArgs false
set_option maxRecDepth 100000
set_option maxHeartbeats 25600000
namespace Go.Proofs.YtmkpfdcnikgokaaGreat
open Go.RowKit
/-- A box of mail that is filled. -/
theorem mfill {w W:World} {gy g:Nat} {st:ES} {a b c d e f h:Value} (v0 v1 v2 v3 v4 v5 v6:Value) (hF:MB W gy a b c d e f h) (hE:RY W g st) (hO:OnlyAt g w W) (hg:g < gy) (hw:w.heap.size≤gy) (hl:g≤w.heap.size):
 W.frozen? ⟨gy,0,none⟩=false∧(W.setCell ⟨gy,0,none⟩ v0).frozen? ⟨gy,1,none⟩=false∧((W.setCell ⟨gy,0,none⟩ v0).setCell ⟨gy,1,none⟩ v1).frozen? ⟨gy,2,none⟩=false∧(((W.setCell ⟨gy,0,none⟩ v0).setCell ⟨gy,1,none⟩ v1).setCell ⟨gy,2,none⟩ v2).frozen? ⟨gy,3,none⟩=false∧((((W.setCell ⟨gy,0,none⟩ v0).setCell ⟨gy,1,none⟩ v1).setCell ⟨gy,2,none⟩ v2).setCell ⟨gy,3,none⟩ v3).frozen? ⟨gy,4,none⟩=false∧(((((W.setCell ⟨gy,0,none⟩ v0).setCell ⟨gy,1,none⟩ v1).setCell ⟨gy,2,none⟩ v2).setCell ⟨gy,3,none⟩ v3).setCell ⟨gy,4,none⟩ v4).frozen? ⟨gy,5,none⟩=false∧((((((W.setCell ⟨gy,0,none⟩ v0).setCell ⟨gy,1,none⟩ v1).setCell ⟨gy,2,none⟩ v2).setCell ⟨gy,3,none⟩ v3).setCell ⟨gy,4,none⟩ v4).setCell ⟨gy,5,none⟩ v5).frozen? ⟨gy,6,none⟩=false∧MB (((((((W.setCell ⟨gy,0,none⟩ v0).setCell ⟨gy,1,none⟩ v1).setCell ⟨gy,2,none⟩ v2).setCell ⟨gy,3,none⟩ v3).setCell ⟨gy,4,none⟩ v4).setCell ⟨gy,5,none⟩ v5).setCell ⟨gy,6,none⟩ v6) gy v0 v1 v2 v3 v4 v5 v6∧RY (((((((W.setCell ⟨gy,0,none⟩ v0).setCell ⟨gy,1,none⟩ v1).setCell ⟨gy,2,none⟩ v2).setCell ⟨gy,3,none⟩ v3).setCell ⟨gy,4,none⟩ v4).setCell ⟨gy,5,none⟩ v5).setCell ⟨gy,6,none⟩ v6) g st∧OnlyAt g w (((((((W.setCell ⟨gy,0,none⟩ v0).setCell ⟨gy,1,none⟩ v1).setCell ⟨gy,2,none⟩ v2).setCell ⟨gy,3,none⟩ v3).setCell ⟨gy,4,none⟩ v4).setCell ⟨gy,5,none⟩ v5).setCell ⟨gy,6,none⟩ v6):=by
 have F1:=hF.set0 v0
 have F2:=F1.set1 v1
 have F3:=F2.set2 v2
 have F4:=F3.set3 v3
 have F5:=F4.set4 v4
 have F6:=F5.set5 v5
 have F7:=F6.set6 v6
 exact⟨hF.fr 0,F1.fr 1,F2.fr 2,F3.fr 3,F4.fr 4,F5.fr 5,F6.fr 6,F7,(((((((hE.other hg 0 v0).other hg 1 v1).other hg 2 v2).other hg 3 v3).other hg 4 v4).other hg 5 v5).other hg 6 v6),(((((((hO.setNew hw hl 0 v0).setNew hw hl 1 v1).setNew hw hl 2 v2).setNew hw hl 3 v3).setNew hw hl 4 v4).setNew hw hl 5 v5).setNew hw hl 6 v6)⟩
theorem mfill_t {W:World} {gy base n:Nat} {A:Option Addr} {L:List TmL} {a b c d e f k:Value} (v0 v1 v2 v3 v4 v5 v6:Value) (hF:MB W gy a b c d e f k) (h:OTm W base A n L):OTm (((((((W.setCell ⟨gy,0,none⟩ v0).setCell ⟨gy,1,none⟩ v1).setCell ⟨gy,2,none⟩ v2).setCell ⟨gy,3,none⟩ v3).setCell ⟨gy,4,none⟩ v4).setCell ⟨gy,5,none⟩ v5).setCell ⟨gy,6,none⟩ v6) base A n L:=by
 have F1:=hF.set0 v0
 have F2:=F1.set1 v1
 have F3:=F2.set2 v2
 have F4:=F3.set3 v3
 have F5:=F4.set4 v4
 have F6:=F5.set5 v5
 have F7:=F6.set6 v6
 exact (((((((h.setO hF (by decide) (by decide) 0 v0).setO F1 (by decide) (by decide) 1 v1).setO F2 (by decide) (by decide) 2 v2).setO F3 (by decide) (by decide) 3 v3).setO F4 (by decide) (by decide) 4 v4).setO F5 (by decide) (by decide) 5 v5).setO F6 (by decide) (by decide) 6 v6)
theorem mfill_o {W:World} {gy base n:Nat} {A:Option Addr} {L:List OpL} {a b c d e f k:Value} (v0 v1 v2 v3 v4 v5 v6:Value) (hF:MB W gy a b c d e f k) (h:OO W base A n L):OO (((((((W.setCell ⟨gy,0,none⟩ v0).setCell ⟨gy,1,none⟩ v1).setCell ⟨gy,2,none⟩ v2).setCell ⟨gy,3,none⟩ v3).setCell ⟨gy,4,none⟩ v4).setCell ⟨gy,5,none⟩ v5).setCell ⟨gy,6,none⟩ v6) base A n L:=by
 have F1:=hF.set0 v0
 have F2:=F1.set1 v1
 have F3:=F2.set2 v2
 have F4:=F3.set3 v3
 have F5:=F4.set4 v4
 have F6:=F5.set5 v5
 have F7:=F6.set6 v6
 exact (((((((h.setO hF (by decide) (by decide) 0 v0).setO F1 (by decide) (by decide) 1 v1).setO F2 (by decide) (by decide) 2 v2).setO F3 (by decide) (by decide) 3 v3).setO F4 (by decide) (by decide) 4 v4).setO F5 (by decide) (by decide) 5 v5).setO F6 (by decide) (by decide) 6 v6)
theorem mfill_w {W:World} {gy base n c9:Nat} {A:Option Addr} {L:List WsL} {a b c d e f k:Value} (v0 v1 v2 v3 v4 v5 v6:Value) (hF:MB W gy a b c d e f k) (h:OWs W base A n c9 L):OWs (((((((W.setCell ⟨gy,0,none⟩ v0).setCell ⟨gy,1,none⟩ v1).setCell ⟨gy,2,none⟩ v2).setCell ⟨gy,3,none⟩ v3).setCell ⟨gy,4,none⟩ v4).setCell ⟨gy,5,none⟩ v5).setCell ⟨gy,6,none⟩ v6) base A n c9 L:=by
 have F1:=hF.set0 v0
 have F2:=F1.set1 v1
 have F3:=F2.set2 v2
 have F4:=F3.set3 v3
 have F5:=F4.set4 v4
 have F6:=F5.set5 v5
 have F7:=F6.set6 v6
 exact (((((((h.setM hF 0 v0).setM F1 1 v1).setM F2 2 v2).setM F3 3 v3).setM F4 4 v4).setM F5 5 v5).setM F6 6 v6)
theorem OWs.nil (w:World) (base:Nat):OWs w base none 0 0 []:=⟨World.ownsRow_nil _ _ _ _,fun x hx=>by cases hx⟩
/-- Mail in memory of one's own. -/
def OMl (w:World) (base:Nat) (x:MlL):Prop:=OTm w base x.iA x.ic x.i∧OO w base x.oA x.oc x.o∧OWs w base x.sA x.s.length x.sc x.s
theorem OMl.rm {w:World} {base:Nat} {x:MlL} (h:OMl w base x):RM w w.heap.size x:=⟨h.1.rt,h.2.1.ro,h.2.2.rw⟩
theorem OMl.below {w w':World} {base:Nat} {x:MlL} (h:OMl w base x) (hb:Below w.heap.size w w'):OMl w' base x:=⟨h.1.below hb,h.2.1.below hb,h.2.2.below hb⟩
theorem OMl.setM {w:World} {base g:Nat} {x:MlL} {cs:Array Value} (h:OMl w base x) (hF:w.heap[g]?=some (.cells cs 51 (0,0))) (off:Nat) (u:Value):OMl (w.setCell ⟨g,off,none⟩ u) base x:=⟨h.1.setO hF (by decide) (by decide) off u,h.2.1.setO hF (by decide) (by decide) off u,h.2.2.setM hF off u⟩
theorem OMl.less {w:World} {base B:Nat} {x:MlL} (h:OMl w base x) (hB:B≤base):OMl w B x:=⟨h.1.less hB,h.2.1.lessB hB,⟨own_less h.2.2.1 hB,fun y hy=>⟨(h.2.2.2 y hy).1.less hB,(h.2.2.2 y hy).2.1.less hB,own_less (h.2.2.2 y hy).2.2 hB⟩⟩⟩
/-- What read answers. -/
def readR (w w':World) (g:Nat) (e:Ending) (st:ES):Prop:=∃ x:MlL,e= .returned x.val∧x.mp=(readM st).1∧OMl w' w.heap.size x∧okM x∧RY w' g (readM st).2∧OnlyAt g w w'
theorem rdO_ok {L:List OpL} {st:ES} {P:List OpP} {s:ES} (h:rdO st=(P,s)) (hL:L.map OpL.op=P):(∀ x∈L,okO x)∧L.length < 1073741824:=by
 refine⟨goodP_ok (by rw [hL];have h1:=rdO_good st;rwa [h] at h1),?_⟩
 unfold rdO at h
 cases hr:readL st.1 with
 | none=>
   rw [hr] at h
   simp only [Prod.mk.injEq] at h
   rw [←h.1] at hL
   rw [List.map_eq_nil_iff.1 hL]
   decide
 | some q=>
   obtain⟨l,n⟩:=q
   rw [hr] at h
   simp only [Prod.mk.injEq] at h
   have h2:=(readL_inv hr).2.1
   rw [h.1,←hL,List.length_map] at h2
   omega
theorem reads_zero (g:Nat) (st s1:ES) (w:World) (h:RY w g st) (h1:eyeN 6 st=(0,s1)):
 Calls Tryz.prog 104 #[.pointer (some ⟨g,0,none⟩)] w fun e w'=>readR w w' g e st:=by
 have hlt:=h.lt
 have Hlt:=hide hlt
 have Hle:=hide (Nat.le_of_lt hlt)
 have H1:=hide h1
 obtain⟨w1,hw1,F1,hs1,hb1⟩:=mail_box w (.int .u8 0) (.int .u32 0) (.int .u8 0) (.int .i64 0) (.slice none 0 0) (.slice none 0 0) (.slice none 0 0)
 have HE1:=hide (h.below hb1)
 have HO1:=hide (OnlyAt.below hb1 (Nat.le_of_lt hlt))
 obtain⟨gy,hgy⟩:∃ q,q=w.heap.size:=⟨_,rfl⟩
 have Hgy:=hide hgy
 have Hgg:=hide (show g < gy by omega)
 have Hneg:=hide (show gy≠g by omega)
 rw [←hgy] at F1
 have HY1:=hide F1
 have Hs1:=hide (show gy < w1.heap.size by rw [hgy];exact hs1)
 have Hw1:=hide hw1
 clear h1 F1 hw1 hs1 hb1 h hlt hgy
 go_enter Tryz.func104,Tryz.ntmps104
 go_wp2_with fail
 rw [Hw1.out,←Hgy.out]
 clear Hw1
 refine (rd_at g 6 st w1 HE1.out 0 s1 H1.out (by decide)).mono ?_
 rintro e w2 ⟨rfl,hE2,ho2,-,-⟩
 obtain⟨w3,hw3,F3,hs3,hb3⟩:=mail_box w2 (.int .u8 0) (.int .u32 0) (.int .u8 0) (.int .i64 0) (.slice none 0 0) (.slice none 0 0) (.slice none 0 0)
 have HE3:=hide (hE2.below hb3)
 have HO3:=hide ((HO1.out.trans ho2).trans (OnlyAt.below hb3 (Nat.le_of_lt hE2.lt)))
 have HY3:=hide ((HY1.out.only ho2 Hneg.out).below hb3)
 obtain⟨gx,hgx⟩:∃ q,q=w2.heap.size:=⟨_,rfl⟩
 have Hyx:=hide (show gy < gx by rw [hgx];exact Nat.lt_of_lt_of_le Hs1.out ho2.1.size)
 have Hg:=hide (show g < gx by have:=Hgg.out;have:=Hyx.out;omega)
 have Hne:=hide (show gx≠g by have:=Hg.out;omega)
 have Hny:=hide (show gy≠gx by have:=Hyx.out;omega)
 have Hwx:=hide (show w.heap.size≤gx by have:=Hyx.out;rw [←Hgy.out];omega)
 have Hw3:=hide hw3
 obtain⟨k0,k1,k2,k3,k4,k5,k6⟩:=F3.cells
 rw [←hw3] at k0 k1 k2 k3 k4 k5 k6
 clear hw3
 rw [←hgx] at F3
 have HF3:=hide F3
 have Hgx:=hide hgx
 clear F3 hs3 hb3 hE2 ho2 HE1 HO1 HY1 Hs1
 obtain⟨u0,u1,u2,u3,u4,u5,u6⟩:=HY3.out.cells
 obtain⟨g0,g1,g2,g3,g4,g5,g6,FZ,EZ,OZ⟩:=mfill (.int .u8 0) (.int .u32 0) (.int .u8 0) (.int .i64 0) (.slice none 0 0) (.slice none 0 0) (.slice none 0 0) HY3.out HE3.out HO3.out Hgg.out (Nat.le_of_eq Hgy.out.symm) Hle.out
 have HFZ:=hide FZ
 have HEZ:=hide EZ
 have HOZ:=hide OZ
 clear FZ EZ OZ HF3 HE3 HO3 HY3
 rw [←Hw3.out] at u0 u1 u2 u3 u4 u5 u6 g0 g1 g2 g3 g4 g5 g6 HFZ HEZ HOZ
 go_wp2_with fail
 generalize hWW:(((((((w2.alloc (.cells #[(.int .u8 0),(.int .u32 0),(.int .u8 0),(.int .i64 0),(.slice none 0 0),(.slice none 0 0),(.slice none 0 0)] 51)).setCell ⟨gy,0,none⟩ (.int .u8 0)).setCell ⟨gy,1,none⟩ (.int .u32 0)).setCell ⟨gy,2,none⟩ (.int .u8 0)).setCell ⟨gy,3,none⟩ (.int .i64 0)).setCell ⟨gy,4,none⟩ (.slice none 0 0)).setCell ⟨gy,5,none⟩ (.slice none 0 0)).setCell ⟨gy,6,none⟩ (.slice none 0 0)=WW at HFZ HEZ HOZ  ⊢
 obtain⟨v0,v1,v2,v3,v4,v5,v6⟩:=HFZ.out.cells
 refine bodyPost_ret (v:=mlv 0 0 0 0 (.slice none 0 0) (.slice none 0 0) (.slice none 0 0)) (by simp [results,Tryz.results104,go_sem,v0,v1,v2,v3,v4,v5,v6]) rfl ?_
 have HM:=hide (show readM st=_ from readM_step H1.out (if_neg (by decide)) (if_neg (by decide)) (if_neg (by decide)) (if_neg (by decide)) (if_neg (by decide)))
 refine⟨⟨0,0,0,0,none,0, [],none,0, [],none,0, []⟩,?_,by rw [HM.out];rfl,⟨OTm.nil _ _,OO.nil _ _,OWs.nil _ _⟩,⟨⟨Int.le_refl 0,(by show (0:Int) < 4294967296;decide),Int.le_refl 0,(by show (0:Int)≤255;decide)⟩,⟨fun y hy=>(by cases hy),fun y hy=>(by cases hy),fun y hy=>(by cases hy)⟩,(by show (0:Nat) < 1073741824;decide),(by show (0:Nat) < 1073741824;decide),(by show (0:Nat) < 1073741824;decide)⟩,by rw [HM.out];exact HEZ.out,HOZ.out⟩
 rfl
theorem reads_ops1 (g:Nat) (st s1:ES) (w:World) (h:RY w g st) (h1:eyeN 6 st=(1,s1)):
 Calls Tryz.prog 104 #[.pointer (some ⟨g,0,none⟩)] w fun e w'=>readR w w' g e st:=by
 obtain⟨OP,sf,h9⟩:∃ a b,rdO s1=(a,b):=⟨_,_,rfl⟩
 have H2:=hide h9
 clear h9
 have hlt:=h.lt
 have Hlt:=hide hlt
 have Hle:=hide (Nat.le_of_lt hlt)
 have H1:=hide h1
 obtain⟨w1,hw1,F1,hs1,hb1⟩:=mail_box w (.int .u8 0) (.int .u32 0) (.int .u8 0) (.int .i64 0) (.slice none 0 0) (.slice none 0 0) (.slice none 0 0)
 have HE1:=hide (h.below hb1)
 have HO1:=hide (OnlyAt.below hb1 (Nat.le_of_lt hlt))
 obtain⟨gy,hgy⟩:∃ q,q=w.heap.size:=⟨_,rfl⟩
 have Hgy:=hide hgy
 have Hgg:=hide (show g < gy by omega)
 have Hneg:=hide (show gy≠g by omega)
 rw [←hgy] at F1
 have HY1:=hide F1
 have Hs1:=hide (show gy < w1.heap.size by rw [hgy];exact hs1)
 have Hw1:=hide hw1
 clear h1 F1 hw1 hs1 hb1 h hlt hgy
 go_enter Tryz.func104,Tryz.ntmps104
 go_wp2_with fail
 rw [Hw1.out,←Hgy.out]
 clear Hw1
 refine (rd_at g 6 st w1 HE1.out 1 s1 H1.out (by decide)).mono ?_
 rintro e w2 ⟨rfl,hE2,ho2,-,-⟩
 obtain⟨w3,hw3,F3,hs3,hb3⟩:=mail_box w2 (.int .u8 1) (.int .u32 0) (.int .u8 0) (.int .i64 0) (.slice none 0 0) (.slice none 0 0) (.slice none 0 0)
 have HE3:=hide (hE2.below hb3)
 have HO3:=hide ((HO1.out.trans ho2).trans (OnlyAt.below hb3 (Nat.le_of_lt hE2.lt)))
 have HY3:=hide ((HY1.out.only ho2 Hneg.out).below hb3)
 obtain⟨gx,hgx⟩:∃ q,q=w2.heap.size:=⟨_,rfl⟩
 have Hyx:=hide (show gy < gx by rw [hgx];exact Nat.lt_of_lt_of_le Hs1.out ho2.1.size)
 have Hg:=hide (show g < gx by have:=Hgg.out;have:=Hyx.out;omega)
 have Hne:=hide (show gx≠g by have:=Hg.out;omega)
 have Hny:=hide (show gy≠gx by have:=Hyx.out;omega)
 have Hwx:=hide (show w.heap.size≤gx by have:=Hyx.out;rw [←Hgy.out];omega)
 have Hw3:=hide hw3
 obtain⟨k0,k1,k2,k3,k4,k5,k6⟩:=F3.cells
 rw [←hw3] at k0 k1 k2 k3 k4 k5 k6
 clear hw3
 rw [←hgx] at F3
 have HF3:=hide F3
 have Hgx:=hide hgx
 clear F3 hs3 hb3 hE2 ho2 HE1 HO1 HY1 Hs1
 go_wp2_with fail
 rw [Hw3.out,←Hgx.out]
 clear k0 k1 k2 k3 k4 k5 k6 hgx
 refine (rdops g s1 w3 HE3.out OP sf H2.out).mono ?_
 rintro e w5 ⟨oA,oc,o,rfl,ho9,hO9,hE,ho⟩
 have HP5:=hide (hO9.lessB HO3.out.1.size)
 have Ho:=hide ho9
 obtain⟨no,eno⟩:∃ q,q=List.length (α:=OpL) o:=⟨_,rfl⟩
 have Eno:=hide eno
 rw [←eno]
 clear ho9 hO9 eno
 have HE5:=hide hE
 have HF5:=hide (HF3.out.only ho Hne.out)
 have HY5:=hide (HY3.out.only ho Hneg.out)
 have HO5:=hide (HO3.out.trans ho)
 clear hE ho HE3 HF3 HY3 HO3
 obtain⟨y0,y1,y2,y3,y4,y5,y6⟩:=HF5.out.cells
 have f0:=(HF5.out).fr 5
 obtain⟨w6,hw6⟩:∃ q,(w5).setCell ⟨gx,5,none⟩ (.slice oA no oc)=q:=⟨_,rfl⟩
 have HF6:Hid (MB w6 gx (.int .u8 1) (.int .u32 0) (.int .u8 0) (.int .i64 0) (.slice none 0 0) (.slice oA no oc) (.slice none 0 0)):=hide (by rw [←hw6];exact (HF5.out).set5 (.slice oA no oc))
 have HE6:Hid (RY w6 g _):=hide (by rw [←hw6];exact (HE5.out).other Hg.out 5 (.slice oA no oc))
 have HO6:Hid (OnlyAt g w w6):=hide (by rw [←hw6];exact (HO5.out).setNew Hwx.out Hle.out 5 (.slice oA no oc))
 have HY6:Hid (MB w6 gy (.int .u8 0) (.int .u32 0) (.int .u8 0) (.int .i64 0) (.slice none 0 0) (.slice none 0 0) (.slice none 0 0)):=hide (by rw [←hw6];exact (HY5.out).other Hny.out 5 (.slice oA no oc))
 have HP6:Hid (OO w6 w.heap.size oA oc o):=hide (by rw [←hw6];exact (HP5.out).setO (HF5.out) (by decide) (by decide) 5 (.slice oA no oc))
 clear HF5 HE5 HO5 HY5 HP5
 obtain⟨z0,z1,z2,z3,z4,z5,z6⟩:=HF6.out.cells
 obtain⟨u0,u1,u2,u3,u4,u5,u6⟩:=HY6.out.cells
 obtain⟨g0,g1,g2,g3,g4,g5,g6,FZ,EZ,OZ⟩:=mfill (.int .u8 1) (.int .u32 0) (.int .u8 0) (.int .i64 0) (.slice none 0 0) (.slice oA no oc) (.slice none 0 0) HY6.out HE6.out HO6.out Hgg.out (Nat.le_of_eq Hgy.out.symm) Hle.out
 have HFZ:=hide FZ
 have HEZ:=hide EZ
 have HOZ:=hide OZ
 have HPZ:=hide (mfill_o (.int .u8 1) (.int .u32 0) (.int .u8 0) (.int .i64 0) (.slice none 0 0) (.slice oA no oc) (.slice none 0 0) HY6.out HP6.out)
 clear FZ EZ OZ HF6 HE6 HO6 HY6 HP6
 go_wp2_with fail
 generalize hWW:((((((w6.setCell ⟨gy,0,none⟩ (.int .u8 1)).setCell ⟨gy,1,none⟩ (.int .u32 0)).setCell ⟨gy,2,none⟩ (.int .u8 0)).setCell ⟨gy,3,none⟩ (.int .i64 0)).setCell ⟨gy,4,none⟩ (.slice none 0 0)).setCell ⟨gy,5,none⟩ (.slice oA no oc)).setCell ⟨gy,6,none⟩ (.slice none 0 0)=WW at HFZ HEZ HOZ HPZ ⊢
 obtain⟨v0,v1,v2,v3,v4,v5,v6⟩:=HFZ.out.cells
 refine bodyPost_ret (v:=mlv 1 0 0 0 (.slice none 0 0) (.slice oA no oc) (.slice none 0 0)) (by simp [results,Tryz.results104,go_sem,v0,v1,v2,v3,v4,v5,v6]) rfl ?_
 have HM:=hide (show readM st=_ from readM_step H1.out (if_neg (by decide)) (if_neg (by decide)) (if_neg (by decide)) (if_neg (by decide)) ((if_pos (by decide)).trans H2.out))
 refine⟨⟨1,0,0,0,none,0, [],oA,oc,o,none,0, []⟩,?_,by rw [HM.out];show MP.mk _ _ _ _ _ _ _=_;rw [←Ho.out];rfl,⟨OTm.nil _ _,HPZ.out,OWs.nil _ _⟩,⟨⟨Int.le_refl 0,(by show (0:Int) < 4294967296;decide),Int.le_refl 0,(by show (0:Int)≤255;decide)⟩,⟨fun y hy=>(by cases hy),(fun y hy=>(rdO_ok H2.out Ho.out).1 y hy),fun y hy=>(by cases hy)⟩,(by show (0:Nat) < 1073741824;decide),(rdO_ok H2.out Ho.out).2,(by show (0:Nat) < 1073741824;decide)⟩,by rw [HM.out];exact HEZ.out,HOZ.out⟩
 rw [Eno.out];rfl
theorem reads_ops4 (g:Nat) (st s1:ES) (w:World) (h:RY w g st) (h1:eyeN 6 st=(4,s1)):
 Calls Tryz.prog 104 #[.pointer (some ⟨g,0,none⟩)] w fun e w'=>readR w w' g e st:=by
 obtain⟨OP,sf,h9⟩:∃ a b,rdO s1=(a,b):=⟨_,_,rfl⟩
 have H2:=hide h9
 clear h9
 have hlt:=h.lt
 have Hlt:=hide hlt
 have Hle:=hide (Nat.le_of_lt hlt)
 have H1:=hide h1
 obtain⟨w1,hw1,F1,hs1,hb1⟩:=mail_box w (.int .u8 0) (.int .u32 0) (.int .u8 0) (.int .i64 0) (.slice none 0 0) (.slice none 0 0) (.slice none 0 0)
 have HE1:=hide (h.below hb1)
 have HO1:=hide (OnlyAt.below hb1 (Nat.le_of_lt hlt))
 obtain⟨gy,hgy⟩:∃ q,q=w.heap.size:=⟨_,rfl⟩
 have Hgy:=hide hgy
 have Hgg:=hide (show g < gy by omega)
 have Hneg:=hide (show gy≠g by omega)
 rw [←hgy] at F1
 have HY1:=hide F1
 have Hs1:=hide (show gy < w1.heap.size by rw [hgy];exact hs1)
 have Hw1:=hide hw1
 clear h1 F1 hw1 hs1 hb1 h hlt hgy
 go_enter Tryz.func104,Tryz.ntmps104
 go_wp2_with fail
 rw [Hw1.out,←Hgy.out]
 clear Hw1
 refine (rd_at g 6 st w1 HE1.out 4 s1 H1.out (by decide)).mono ?_
 rintro e w2 ⟨rfl,hE2,ho2,-,-⟩
 obtain⟨w3,hw3,F3,hs3,hb3⟩:=mail_box w2 (.int .u8 4) (.int .u32 0) (.int .u8 0) (.int .i64 0) (.slice none 0 0) (.slice none 0 0) (.slice none 0 0)
 have HE3:=hide (hE2.below hb3)
 have HO3:=hide ((HO1.out.trans ho2).trans (OnlyAt.below hb3 (Nat.le_of_lt hE2.lt)))
 have HY3:=hide ((HY1.out.only ho2 Hneg.out).below hb3)
 obtain⟨gx,hgx⟩:∃ q,q=w2.heap.size:=⟨_,rfl⟩
 have Hyx:=hide (show gy < gx by rw [hgx];exact Nat.lt_of_lt_of_le Hs1.out ho2.1.size)
 have Hg:=hide (show g < gx by have:=Hgg.out;have:=Hyx.out;omega)
 have Hne:=hide (show gx≠g by have:=Hg.out;omega)
 have Hny:=hide (show gy≠gx by have:=Hyx.out;omega)
 have Hwx:=hide (show w.heap.size≤gx by have:=Hyx.out;rw [←Hgy.out];omega)
 have Hw3:=hide hw3
 obtain⟨k0,k1,k2,k3,k4,k5,k6⟩:=F3.cells
 rw [←hw3] at k0 k1 k2 k3 k4 k5 k6
 clear hw3
 rw [←hgx] at F3
 have HF3:=hide F3
 have Hgx:=hide hgx
 clear F3 hs3 hb3 hE2 ho2 HE1 HO1 HY1 Hs1
 go_wp2_with fail
 rw [Hw3.out,←Hgx.out]
 clear k0 k1 k2 k3 k4 k5 k6 hgx
 refine (rdops g s1 w3 HE3.out OP sf H2.out).mono ?_
 rintro e w5 ⟨oA,oc,o,rfl,ho9,hO9,hE,ho⟩
 have HP5:=hide (hO9.lessB HO3.out.1.size)
 have Ho:=hide ho9
 obtain⟨no,eno⟩:∃ q,q=List.length (α:=OpL) o:=⟨_,rfl⟩
 have Eno:=hide eno
 rw [←eno]
 clear ho9 hO9 eno
 have HE5:=hide hE
 have HF5:=hide (HF3.out.only ho Hne.out)
 have HY5:=hide (HY3.out.only ho Hneg.out)
 have HO5:=hide (HO3.out.trans ho)
 clear hE ho HE3 HF3 HY3 HO3
 obtain⟨y0,y1,y2,y3,y4,y5,y6⟩:=HF5.out.cells
 have f0:=(HF5.out).fr 5
 obtain⟨w6,hw6⟩:∃ q,(w5).setCell ⟨gx,5,none⟩ (.slice oA no oc)=q:=⟨_,rfl⟩
 have HF6:Hid (MB w6 gx (.int .u8 4) (.int .u32 0) (.int .u8 0) (.int .i64 0) (.slice none 0 0) (.slice oA no oc) (.slice none 0 0)):=hide (by rw [←hw6];exact (HF5.out).set5 (.slice oA no oc))
 have HE6:Hid (RY w6 g _):=hide (by rw [←hw6];exact (HE5.out).other Hg.out 5 (.slice oA no oc))
 have HO6:Hid (OnlyAt g w w6):=hide (by rw [←hw6];exact (HO5.out).setNew Hwx.out Hle.out 5 (.slice oA no oc))
 have HY6:Hid (MB w6 gy (.int .u8 0) (.int .u32 0) (.int .u8 0) (.int .i64 0) (.slice none 0 0) (.slice none 0 0) (.slice none 0 0)):=hide (by rw [←hw6];exact (HY5.out).other Hny.out 5 (.slice oA no oc))
 have HP6:Hid (OO w6 w.heap.size oA oc o):=hide (by rw [←hw6];exact (HP5.out).setO (HF5.out) (by decide) (by decide) 5 (.slice oA no oc))
 clear HF5 HE5 HO5 HY5 HP5
 obtain⟨z0,z1,z2,z3,z4,z5,z6⟩:=HF6.out.cells
 obtain⟨u0,u1,u2,u3,u4,u5,u6⟩:=HY6.out.cells
 obtain⟨g0,g1,g2,g3,g4,g5,g6,FZ,EZ,OZ⟩:=mfill (.int .u8 4) (.int .u32 0) (.int .u8 0) (.int .i64 0) (.slice none 0 0) (.slice oA no oc) (.slice none 0 0) HY6.out HE6.out HO6.out Hgg.out (Nat.le_of_eq Hgy.out.symm) Hle.out
 have HFZ:=hide FZ
 have HEZ:=hide EZ
 have HOZ:=hide OZ
 have HPZ:=hide (mfill_o (.int .u8 4) (.int .u32 0) (.int .u8 0) (.int .i64 0) (.slice none 0 0) (.slice oA no oc) (.slice none 0 0) HY6.out HP6.out)
 clear FZ EZ OZ HF6 HE6 HO6 HY6 HP6
 go_wp2_with fail
 generalize hWW:((((((w6.setCell ⟨gy,0,none⟩ (.int .u8 4)).setCell ⟨gy,1,none⟩ (.int .u32 0)).setCell ⟨gy,2,none⟩ (.int .u8 0)).setCell ⟨gy,3,none⟩ (.int .i64 0)).setCell ⟨gy,4,none⟩ (.slice none 0 0)).setCell ⟨gy,5,none⟩ (.slice oA no oc)).setCell ⟨gy,6,none⟩ (.slice none 0 0)=WW at HFZ HEZ HOZ HPZ ⊢
 obtain⟨v0,v1,v2,v3,v4,v5,v6⟩:=HFZ.out.cells
 refine bodyPost_ret (v:=mlv 4 0 0 0 (.slice none 0 0) (.slice oA no oc) (.slice none 0 0)) (by simp [results,Tryz.results104,go_sem,v0,v1,v2,v3,v4,v5,v6]) rfl ?_
 have HM:=hide (show readM st=_ from readM_step H1.out (if_neg (by decide)) (if_neg (by decide)) (if_neg (by decide)) (if_neg (by decide)) ((if_pos (by decide)).trans H2.out))
 refine⟨⟨4,0,0,0,none,0, [],oA,oc,o,none,0, []⟩,?_,by rw [HM.out];show MP.mk _ _ _ _ _ _ _=_;rw [←Ho.out];rfl,⟨OTm.nil _ _,HPZ.out,OWs.nil _ _⟩,⟨⟨Int.le_refl 0,(by show (0:Int) < 4294967296;decide),Int.le_refl 0,(by show (0:Int)≤255;decide)⟩,⟨fun y hy=>(by cases hy),(fun y hy=>(rdO_ok H2.out Ho.out).1 y hy),fun y hy=>(by cases hy)⟩,(by show (0:Nat) < 1073741824;decide),(rdO_ok H2.out Ho.out).2,(by show (0:Nat) < 1073741824;decide)⟩,by rw [HM.out];exact HEZ.out,HOZ.out⟩
 rw [Eno.out];rfl
theorem reads_ack (g:Nat) (st s1:ES) (w:World) (h:RY w g st) (h1:eyeN 6 st=(2,s1)):
 Calls Tryz.prog 104 #[.pointer (some ⟨g,0,none⟩)] w fun e w'=>readR w w' g e st:=by
 obtain⟨II,sf,h9⟩:∃ a b,rdC s1=(a,b):=⟨_,_,rfl⟩
 have H2:=hide h9
 clear h9
 have hlt:=h.lt
 have Hlt:=hide hlt
 have Hle:=hide (Nat.le_of_lt hlt)
 have H1:=hide h1
 obtain⟨w1,hw1,F1,hs1,hb1⟩:=mail_box w (.int .u8 0) (.int .u32 0) (.int .u8 0) (.int .i64 0) (.slice none 0 0) (.slice none 0 0) (.slice none 0 0)
 have HE1:=hide (h.below hb1)
 have HO1:=hide (OnlyAt.below hb1 (Nat.le_of_lt hlt))
 obtain⟨gy,hgy⟩:∃ q,q=w.heap.size:=⟨_,rfl⟩
 have Hgy:=hide hgy
 have Hgg:=hide (show g < gy by omega)
 have Hneg:=hide (show gy≠g by omega)
 rw [←hgy] at F1
 have HY1:=hide F1
 have Hs1:=hide (show gy < w1.heap.size by rw [hgy];exact hs1)
 have Hw1:=hide hw1
 clear h1 F1 hw1 hs1 hb1 h hlt hgy
 go_enter Tryz.func104,Tryz.ntmps104
 go_wp2_with fail
 rw [Hw1.out,←Hgy.out]
 clear Hw1
 refine (rd_at g 6 st w1 HE1.out 2 s1 H1.out (by decide)).mono ?_
 rintro e w2 ⟨rfl,hE2,ho2,-,-⟩
 obtain⟨w3,hw3,F3,hs3,hb3⟩:=mail_box w2 (.int .u8 2) (.int .u32 0) (.int .u8 0) (.int .i64 0) (.slice none 0 0) (.slice none 0 0) (.slice none 0 0)
 have HE3:=hide (hE2.below hb3)
 have HO3:=hide ((HO1.out.trans ho2).trans (OnlyAt.below hb3 (Nat.le_of_lt hE2.lt)))
 have HY3:=hide ((HY1.out.only ho2 Hneg.out).below hb3)
 obtain⟨gx,hgx⟩:∃ q,q=w2.heap.size:=⟨_,rfl⟩
 have Hyx:=hide (show gy < gx by rw [hgx];exact Nat.lt_of_lt_of_le Hs1.out ho2.1.size)
 have Hg:=hide (show g < gx by have:=Hgg.out;have:=Hyx.out;omega)
 have Hne:=hide (show gx≠g by have:=Hg.out;omega)
 have Hny:=hide (show gy≠gx by have:=Hyx.out;omega)
 have Hwx:=hide (show w.heap.size≤gx by have:=Hyx.out;rw [←Hgy.out];omega)
 have Hw3:=hide hw3
 obtain⟨k0,k1,k2,k3,k4,k5,k6⟩:=F3.cells
 rw [←hw3] at k0 k1 k2 k3 k4 k5 k6
 clear hw3
 rw [←hgx] at F3
 have HF3:=hide F3
 have Hgx:=hide hgx
 clear F3 hs3 hb3 hE2 ho2 HE1 HO1 HY1 Hs1
 go_wp2_with fail
 rw [Hw3.out,←Hgx.out]
 clear k0 k1 k2 k3 k4 k5 k6 hgx
 refine (rdclock g s1 w3 HE3.out II sf H2.out).mono ?_
 rintro e w5 ⟨iA,ic,i,rfl,hi,hT,hok,hi8,hE,ho⟩
 have HI5:=hide (hT.less HO3.out.1.size)
 have Hi:=hide (And.intro hi (And.intro hok hi8))
 obtain⟨ni,eni⟩:∃ q,q=List.length (α:=TmL) i:=⟨_,rfl⟩
 have Eni:=hide eni
 rw [←eni]
 clear hi hT hok hi8 eni
 have HE5:=hide hE
 have HF5:=hide (HF3.out.only ho Hne.out)
 have HY5:=hide (HY3.out.only ho Hneg.out)
 have HO5:=hide (HO3.out.trans ho)
 clear hE ho HE3 HF3 HY3 HO3
 obtain⟨y0,y1,y2,y3,y4,y5,y6⟩:=HF5.out.cells
 have f0:=(HF5.out).fr 4
 obtain⟨w6,hw6⟩:∃ q,(w5).setCell ⟨gx,4,none⟩ (.slice iA ni ic)=q:=⟨_,rfl⟩
 have HF6:Hid (MB w6 gx (.int .u8 2) (.int .u32 0) (.int .u8 0) (.int .i64 0) (.slice iA ni ic) (.slice none 0 0) (.slice none 0 0)):=hide (by rw [←hw6];exact (HF5.out).set4 (.slice iA ni ic))
 have HE6:Hid (RY w6 g _):=hide (by rw [←hw6];exact (HE5.out).other Hg.out 4 (.slice iA ni ic))
 have HO6:Hid (OnlyAt g w w6):=hide (by rw [←hw6];exact (HO5.out).setNew Hwx.out Hle.out 4 (.slice iA ni ic))
 have HY6:Hid (MB w6 gy (.int .u8 0) (.int .u32 0) (.int .u8 0) (.int .i64 0) (.slice none 0 0) (.slice none 0 0) (.slice none 0 0)):=hide (by rw [←hw6];exact (HY5.out).other Hny.out 4 (.slice iA ni ic))
 have HI6:Hid (OTm w6 w.heap.size iA ic i):=hide (by rw [←hw6];exact (HI5.out).setO (HF5.out) (by decide) (by decide) 4 (.slice iA ni ic))
 clear HF5 HE5 HO5 HY5 HI5
 obtain⟨z0,z1,z2,z3,z4,z5,z6⟩:=HF6.out.cells
 obtain⟨u0,u1,u2,u3,u4,u5,u6⟩:=HY6.out.cells
 obtain⟨g0,g1,g2,g3,g4,g5,g6,FZ,EZ,OZ⟩:=mfill (.int .u8 2) (.int .u32 0) (.int .u8 0) (.int .i64 0) (.slice iA ni ic) (.slice none 0 0) (.slice none 0 0) HY6.out HE6.out HO6.out Hgg.out (Nat.le_of_eq Hgy.out.symm) Hle.out
 have HFZ:=hide FZ
 have HEZ:=hide EZ
 have HOZ:=hide OZ
 have HIZ:=hide (mfill_t (.int .u8 2) (.int .u32 0) (.int .u8 0) (.int .i64 0) (.slice iA ni ic) (.slice none 0 0) (.slice none 0 0) HY6.out HI6.out)
 clear FZ EZ OZ HF6 HE6 HO6 HY6 HI6
 go_wp2_with fail
 generalize hWW:((((((w6.setCell ⟨gy,0,none⟩ (.int .u8 2)).setCell ⟨gy,1,none⟩ (.int .u32 0)).setCell ⟨gy,2,none⟩ (.int .u8 0)).setCell ⟨gy,3,none⟩ (.int .i64 0)).setCell ⟨gy,4,none⟩ (.slice iA ni ic)).setCell ⟨gy,5,none⟩ (.slice none 0 0)).setCell ⟨gy,6,none⟩ (.slice none 0 0)=WW at HFZ HEZ HOZ HIZ ⊢
 obtain⟨v0,v1,v2,v3,v4,v5,v6⟩:=HFZ.out.cells
 refine bodyPost_ret (v:=mlv 2 0 0 0 (.slice iA ni ic) (.slice none 0 0) (.slice none 0 0)) (by simp [results,Tryz.results104,go_sem,v0,v1,v2,v3,v4,v5,v6]) rfl ?_
 have HM:=hide (show readM st=_ from readM_step H1.out (if_neg (by decide)) (if_neg (by decide)) ((if_pos (by decide)).trans H2.out) (if_neg (by decide)) (if_neg (by decide)))
 refine⟨⟨2,0,0,0,iA,ic,i,none,0, [],none,0, []⟩,?_,by rw [HM.out];show MP.mk _ _ _ _ _ _ _=_;rw [←Hi.out.1];rfl,⟨HIZ.out,OO.nil _ _,OWs.nil _ _⟩,⟨⟨Int.le_refl 0,(by show (0:Int) < 4294967296;decide),Int.le_refl 0,(by show (0:Int)≤255;decide)⟩,⟨(fun y hy=>Hi.out.2.1 y hy),fun y hy=>(by cases hy),fun y hy=>(by cases hy)⟩,(by have:=Hi.out.2.2;show i.length < 1073741824;omega),(by show (0:Nat) < 1073741824;decide),(by show (0:Nat) < 1073741824;decide)⟩,by rw [HM.out];exact HEZ.out,HOZ.out⟩
 rw [Eni.out];rfl
theorem reads_manifest (g:Nat) (st s1:ES) (w:World) (h:RY w g st) (h1:eyeN 6 st=(5,s1)):
 Calls Tryz.prog 104 #[.pointer (some ⟨g,0,none⟩)] w fun e w'=>readR w w' g e st:=by
 obtain⟨⟨t,r⟩,s2,h9⟩:∃ a b,rdS s1=(a,b):=⟨_,_,rfl⟩
 have H2:=hide h9
 clear h9
 obtain⟨II,sf,h9⟩:∃ a b,rdC s2=(a,b):=⟨_,_,rfl⟩
 have H3:=hide h9
 clear h9
 have hlt:=h.lt
 have Hlt:=hide hlt
 have Hle:=hide (Nat.le_of_lt hlt)
 have H1:=hide h1
 obtain⟨w1,hw1,F1,hs1,hb1⟩:=mail_box w (.int .u8 0) (.int .u32 0) (.int .u8 0) (.int .i64 0) (.slice none 0 0) (.slice none 0 0) (.slice none 0 0)
 have HE1:=hide (h.below hb1)
 have HO1:=hide (OnlyAt.below hb1 (Nat.le_of_lt hlt))
 obtain⟨gy,hgy⟩:∃ q,q=w.heap.size:=⟨_,rfl⟩
 have Hgy:=hide hgy
 have Hgg:=hide (show g < gy by omega)
 have Hneg:=hide (show gy≠g by omega)
 rw [←hgy] at F1
 have HY1:=hide F1
 have Hs1:=hide (show gy < w1.heap.size by rw [hgy];exact hs1)
 have Hw1:=hide hw1
 clear h1 F1 hw1 hs1 hb1 h hlt hgy
 go_enter Tryz.func104,Tryz.ntmps104
 go_wp2_with fail
 rw [Hw1.out,←Hgy.out]
 clear Hw1
 refine (rd_at g 6 st w1 HE1.out 5 s1 H1.out (by decide)).mono ?_
 rintro e w2 ⟨rfl,hE2,ho2,-,-⟩
 obtain⟨w3,hw3,F3,hs3,hb3⟩:=mail_box w2 (.int .u8 5) (.int .u32 0) (.int .u8 0) (.int .i64 0) (.slice none 0 0) (.slice none 0 0) (.slice none 0 0)
 have HE3:=hide (hE2.below hb3)
 have HO3:=hide ((HO1.out.trans ho2).trans (OnlyAt.below hb3 (Nat.le_of_lt hE2.lt)))
 have HY3:=hide ((HY1.out.only ho2 Hneg.out).below hb3)
 obtain⟨gx,hgx⟩:∃ q,q=w2.heap.size:=⟨_,rfl⟩
 have Hyx:=hide (show gy < gx by rw [hgx];exact Nat.lt_of_lt_of_le Hs1.out ho2.1.size)
 have Hg:=hide (show g < gx by have:=Hgg.out;have:=Hyx.out;omega)
 have Hne:=hide (show gx≠g by have:=Hg.out;omega)
 have Hny:=hide (show gy≠gx by have:=Hyx.out;omega)
 have Hwx:=hide (show w.heap.size≤gx by have:=Hyx.out;rw [←Hgy.out];omega)
 have Hw3:=hide hw3
 obtain⟨k0,k1,k2,k3,k4,k5,k6⟩:=F3.cells
 rw [←hw3] at k0 k1 k2 k3 k4 k5 k6
 clear hw3
 rw [←hgx] at F3
 have HF3:=hide F3
 have Hgx:=hide hgx
 clear F3 hs3 hb3 hE2 ho2 HE1 HO1 HY1 Hs1
 go_wp2_with fail
 rw [Hw3.out,←Hgx.out]
 clear k0 k1 k2 k3 k4 k5 k6 hgx
 refine (rdstamp g s1 w3 HE3.out t r s2 H2.out).mono ?_
 rintro e w4 ⟨rfl,hE,ho,t0,t1,r0,r1⟩
 have Htr:=hide (And.intro t0 (And.intro t1 (And.intro r0 r1)))
 clear t0 t1 r0 r1
 have HE4:=hide hE
 have HF4:=hide (HF3.out.only ho Hne.out)
 have HY4:=hide (HY3.out.only ho Hneg.out)
 have HO4:=hide (HO3.out.trans ho)
 clear hE ho HE3 HF3 HY3 HO3
 obtain⟨y0,y1,y2,y3,y4,y5,y6⟩:=HF4.out.cells
 have f0:=(HF4.out).fr 1
 have f1:=((HF4.out).set1 (.int .u32 t)).fr 2
 obtain⟨w5,hw5⟩:∃ q,((w4).setCell ⟨gx,1,none⟩ (.int .u32 t)).setCell ⟨gx,2,none⟩ (.int .u8 r)=q:=⟨_,rfl⟩
 have HF5:Hid (MB w5 gx (.int .u8 5) (.int .u32 t) (.int .u8 r) (.int .i64 0) (.slice none 0 0) (.slice none 0 0) (.slice none 0 0)):=hide (by rw [←hw5];exact ((HF4.out).set1 (.int .u32 t)).set2 (.int .u8 r))
 have HE5:Hid (RY w5 g _):=hide (by rw [←hw5];exact ((HE4.out).other Hg.out 1 (.int .u32 t)).other Hg.out 2 (.int .u8 r))
 have HO5:Hid (OnlyAt g w w5):=hide (by rw [←hw5];exact ((HO4.out).setNew Hwx.out Hle.out 1 (.int .u32 t)).setNew Hwx.out Hle.out 2 (.int .u8 r))
 have HY5:Hid (MB w5 gy (.int .u8 0) (.int .u32 0) (.int .u8 0) (.int .i64 0) (.slice none 0 0) (.slice none 0 0) (.slice none 0 0)):=hide (by rw [←hw5];exact ((HY4.out).other Hny.out 1 (.int .u32 t)).other Hny.out 2 (.int .u8 r))
 obtain⟨z0,z1,z2,z3,z4,z5,z6⟩:=HF5.out.cells
 clear HF4 HE4 HO4 HY4
 go_wp2_with fail
 clear hw5 y0 y1 y2 y3 y4 y5 y6 f0 f1 z0 z1 z2 z3 z4 z5 z6
 refine (rdclock g s2 w5 HE5.out II sf H3.out).mono ?_
 rintro e w6 ⟨iA,ic,i,rfl,hi,hT,hok,hi8,hE,ho⟩
 have HI6:=hide (hT.less HO5.out.1.size)
 have Hi:=hide (And.intro hi (And.intro hok hi8))
 obtain⟨ni,eni⟩:∃ q,q=List.length (α:=TmL) i:=⟨_,rfl⟩
 have Eni:=hide eni
 rw [←eni]
 clear hi hT hok hi8 eni
 have HE6:=hide hE
 have HF6:=hide (HF5.out.only ho Hne.out)
 have HY6:=hide (HY5.out.only ho Hneg.out)
 have HO6:=hide (HO5.out.trans ho)
 clear hE ho HE5 HF5 HY5 HO5
 obtain⟨y0,y1,y2,y3,y4,y5,y6⟩:=HF6.out.cells
 have f0:=(HF6.out).fr 4
 obtain⟨w7,hw7⟩:∃ q,(w6).setCell ⟨gx,4,none⟩ (.slice iA ni ic)=q:=⟨_,rfl⟩
 have HF7:Hid (MB w7 gx (.int .u8 5) (.int .u32 t) (.int .u8 r) (.int .i64 0) (.slice iA ni ic) (.slice none 0 0) (.slice none 0 0)):=hide (by rw [←hw7];exact (HF6.out).set4 (.slice iA ni ic))
 have HE7:Hid (RY w7 g _):=hide (by rw [←hw7];exact (HE6.out).other Hg.out 4 (.slice iA ni ic))
 have HO7:Hid (OnlyAt g w w7):=hide (by rw [←hw7];exact (HO6.out).setNew Hwx.out Hle.out 4 (.slice iA ni ic))
 have HY7:Hid (MB w7 gy (.int .u8 0) (.int .u32 0) (.int .u8 0) (.int .i64 0) (.slice none 0 0) (.slice none 0 0) (.slice none 0 0)):=hide (by rw [←hw7];exact (HY6.out).other Hny.out 4 (.slice iA ni ic))
 have HI7:Hid (OTm w7 w.heap.size iA ic i):=hide (by rw [←hw7];exact (HI6.out).setO (HF6.out) (by decide) (by decide) 4 (.slice iA ni ic))
 clear HF6 HE6 HO6 HY6 HI6
 obtain⟨z0,z1,z2,z3,z4,z5,z6⟩:=HF7.out.cells
 obtain⟨u0,u1,u2,u3,u4,u5,u6⟩:=HY7.out.cells
 obtain⟨g0,g1,g2,g3,g4,g5,g6,FZ,EZ,OZ⟩:=mfill (.int .u8 5) (.int .u32 t) (.int .u8 r) (.int .i64 0) (.slice iA ni ic) (.slice none 0 0) (.slice none 0 0) HY7.out HE7.out HO7.out Hgg.out (Nat.le_of_eq Hgy.out.symm) Hle.out
 have HFZ:=hide FZ
 have HEZ:=hide EZ
 have HOZ:=hide OZ
 have HIZ:=hide (mfill_t (.int .u8 5) (.int .u32 t) (.int .u8 r) (.int .i64 0) (.slice iA ni ic) (.slice none 0 0) (.slice none 0 0) HY7.out HI7.out)
 clear FZ EZ OZ HF7 HE7 HO7 HY7 HI7
 go_wp2_with fail
 generalize hWW:((((((w7.setCell ⟨gy,0,none⟩ (.int .u8 5)).setCell ⟨gy,1,none⟩ (.int .u32 t)).setCell ⟨gy,2,none⟩ (.int .u8 r)).setCell ⟨gy,3,none⟩ (.int .i64 0)).setCell ⟨gy,4,none⟩ (.slice iA ni ic)).setCell ⟨gy,5,none⟩ (.slice none 0 0)).setCell ⟨gy,6,none⟩ (.slice none 0 0)=WW at HFZ HEZ HOZ HIZ ⊢
 obtain⟨v0,v1,v2,v3,v4,v5,v6⟩:=HFZ.out.cells
 refine bodyPost_ret (v:=mlv 5 t r 0 (.slice iA ni ic) (.slice none 0 0) (.slice none 0 0)) (by simp [results,Tryz.results104,go_sem,v0,v1,v2,v3,v4,v5,v6]) rfl ?_
 have HM:=hide (show readM st=_ from readM_step H1.out ((if_pos (by decide)).trans H2.out) (if_neg (by decide)) ((if_pos (by decide)).trans H3.out) (if_neg (by decide)) (if_neg (by decide)))
 refine⟨⟨5,t,r,0,iA,ic,i,none,0, [],none,0, []⟩,?_,by rw [HM.out];show MP.mk _ _ _ _ _ _ _=_;rw [←Hi.out.1];rfl,⟨HIZ.out,OO.nil _ _,OWs.nil _ _⟩,⟨(by obtain⟨a,b,c,d⟩:=Htr.out;exact⟨a,by show t < 4294967296;omega,c,by show r≤255;omega⟩),⟨(fun y hy=>Hi.out.2.1 y hy),fun y hy=>(by cases hy),fun y hy=>(by cases hy)⟩,(by have:=Hi.out.2.2;show i.length < 1073741824;omega),(by show (0:Nat) < 1073741824;decide),(by show (0:Nat) < 1073741824;decide)⟩,by rw [HM.out];exact HEZ.out,HOZ.out⟩
 rw [Eni.out];rfl
theorem reads_chunk (g:Nat) (st s1:ES) (w:World) (h:RY w g st) (h1:eyeN 6 st=(6,s1)):
 Calls Tryz.prog 104 #[.pointer (some ⟨g,0,none⟩)] w fun e w'=>readR w w' g e st:=by
 obtain⟨⟨t,r⟩,s2,h9⟩:∃ a b,rdS s1=(a,b):=⟨_,_,rfl⟩
 have H2:=hide h9
 clear h9
 obtain⟨x,s3,h9⟩:∃ a b,eyeN 128 s2=(a,b):=⟨_,_,rfl⟩
 have H3:=hide h9
 clear h9
 obtain⟨OP,sf,h9⟩:∃ a b,rdO s3=(a,b):=⟨_,_,rfl⟩
 have H4:=hide h9
 clear h9
 have hlt:=h.lt
 have Hlt:=hide hlt
 have Hle:=hide (Nat.le_of_lt hlt)
 have H1:=hide h1
 obtain⟨w1,hw1,F1,hs1,hb1⟩:=mail_box w (.int .u8 0) (.int .u32 0) (.int .u8 0) (.int .i64 0) (.slice none 0 0) (.slice none 0 0) (.slice none 0 0)
 have HE1:=hide (h.below hb1)
 have HO1:=hide (OnlyAt.below hb1 (Nat.le_of_lt hlt))
 obtain⟨gy,hgy⟩:∃ q,q=w.heap.size:=⟨_,rfl⟩
 have Hgy:=hide hgy
 have Hgg:=hide (show g < gy by omega)
 have Hneg:=hide (show gy≠g by omega)
 rw [←hgy] at F1
 have HY1:=hide F1
 have Hs1:=hide (show gy < w1.heap.size by rw [hgy];exact hs1)
 have Hw1:=hide hw1
 clear h1 F1 hw1 hs1 hb1 h hlt hgy
 go_enter Tryz.func104,Tryz.ntmps104
 go_wp2_with fail
 rw [Hw1.out,←Hgy.out]
 clear Hw1
 refine (rd_at g 6 st w1 HE1.out 6 s1 H1.out (by decide)).mono ?_
 rintro e w2 ⟨rfl,hE2,ho2,-,-⟩
 obtain⟨w3,hw3,F3,hs3,hb3⟩:=mail_box w2 (.int .u8 6) (.int .u32 0) (.int .u8 0) (.int .i64 0) (.slice none 0 0) (.slice none 0 0) (.slice none 0 0)
 have HE3:=hide (hE2.below hb3)
 have HO3:=hide ((HO1.out.trans ho2).trans (OnlyAt.below hb3 (Nat.le_of_lt hE2.lt)))
 have HY3:=hide ((HY1.out.only ho2 Hneg.out).below hb3)
 obtain⟨gx,hgx⟩:∃ q,q=w2.heap.size:=⟨_,rfl⟩
 have Hyx:=hide (show gy < gx by rw [hgx];exact Nat.lt_of_lt_of_le Hs1.out ho2.1.size)
 have Hg:=hide (show g < gx by have:=Hgg.out;have:=Hyx.out;omega)
 have Hne:=hide (show gx≠g by have:=Hg.out;omega)
 have Hny:=hide (show gy≠gx by have:=Hyx.out;omega)
 have Hwx:=hide (show w.heap.size≤gx by have:=Hyx.out;rw [←Hgy.out];omega)
 have Hw3:=hide hw3
 obtain⟨k0,k1,k2,k3,k4,k5,k6⟩:=F3.cells
 rw [←hw3] at k0 k1 k2 k3 k4 k5 k6
 clear hw3
 rw [←hgx] at F3
 have HF3:=hide F3
 have Hgx:=hide hgx
 clear F3 hs3 hb3 hE2 ho2 HE1 HO1 HY1 Hs1
 go_wp2_with fail
 rw [Hw3.out,←Hgx.out]
 clear k0 k1 k2 k3 k4 k5 k6 hgx
 refine (rdstamp g s1 w3 HE3.out t r s2 H2.out).mono ?_
 rintro e w4 ⟨rfl,hE,ho,t0,t1,r0,r1⟩
 have Htr:=hide (And.intro t0 (And.intro t1 (And.intro r0 r1)))
 clear t0 t1 r0 r1
 have HE4:=hide hE
 have HF4:=hide (HF3.out.only ho Hne.out)
 have HY4:=hide (HY3.out.only ho Hneg.out)
 have HO4:=hide (HO3.out.trans ho)
 clear hE ho HE3 HF3 HY3 HO3
 obtain⟨y0,y1,y2,y3,y4,y5,y6⟩:=HF4.out.cells
 have f0:=(HF4.out).fr 1
 have f1:=((HF4.out).set1 (.int .u32 t)).fr 2
 obtain⟨w5,hw5⟩:∃ q,((w4).setCell ⟨gx,1,none⟩ (.int .u32 t)).setCell ⟨gx,2,none⟩ (.int .u8 r)=q:=⟨_,rfl⟩
 have HF5:Hid (MB w5 gx (.int .u8 6) (.int .u32 t) (.int .u8 r) (.int .i64 0) (.slice none 0 0) (.slice none 0 0) (.slice none 0 0)):=hide (by rw [←hw5];exact ((HF4.out).set1 (.int .u32 t)).set2 (.int .u8 r))
 have HE5:Hid (RY w5 g _):=hide (by rw [←hw5];exact ((HE4.out).other Hg.out 1 (.int .u32 t)).other Hg.out 2 (.int .u8 r))
 have HO5:Hid (OnlyAt g w w5):=hide (by rw [←hw5];exact ((HO4.out).setNew Hwx.out Hle.out 1 (.int .u32 t)).setNew Hwx.out Hle.out 2 (.int .u8 r))
 have HY5:Hid (MB w5 gy (.int .u8 0) (.int .u32 0) (.int .u8 0) (.int .i64 0) (.slice none 0 0) (.slice none 0 0) (.slice none 0 0)):=hide (by rw [←hw5];exact ((HY4.out).other Hny.out 1 (.int .u32 t)).other Hny.out 2 (.int .u8 r))
 obtain⟨z0,z1,z2,z3,z4,z5,z6⟩:=HF5.out.cells
 clear HF4 HE4 HO4 HY4
 go_wp2_with fail
 clear hw5 y0 y1 y2 y3 y4 y5 y6 f0 f1 z0 z1 z2 z3 z4 z5 z6
 refine (rd_at g 128 s2 w5 HE5.out x s3 H3.out (by decide)).mono ?_
 rintro e w6 ⟨rfl,hE,ho,x0,x1⟩
 have Hx01:=hide (And.intro x0 x1)
 clear x0 x1
 have HE6:=hide hE
 have HF6:=hide (HF5.out.only ho Hne.out)
 have HY6:=hide (HY5.out.only ho Hneg.out)
 have HO6:=hide (HO5.out.trans ho)
 clear hE ho HE5 HF5 HY5 HO5
 obtain⟨y0,y1,y2,y3,y4,y5,y6⟩:=HF6.out.cells
 have f0:=(HF6.out).fr 3
 obtain⟨w7,hw7⟩:∃ q,(w6).setCell ⟨gx,3,none⟩ (.int .i64 x)=q:=⟨_,rfl⟩
 have HF7:Hid (MB w7 gx (.int .u8 6) (.int .u32 t) (.int .u8 r) (.int .i64 x) (.slice none 0 0) (.slice none 0 0) (.slice none 0 0)):=hide (by rw [←hw7];exact (HF6.out).set3 (.int .i64 x))
 have HE7:Hid (RY w7 g _):=hide (by rw [←hw7];exact (HE6.out).other Hg.out 3 (.int .i64 x))
 have HO7:Hid (OnlyAt g w w7):=hide (by rw [←hw7];exact (HO6.out).setNew Hwx.out Hle.out 3 (.int .i64 x))
 have HY7:Hid (MB w7 gy (.int .u8 0) (.int .u32 0) (.int .u8 0) (.int .i64 0) (.slice none 0 0) (.slice none 0 0) (.slice none 0 0)):=hide (by rw [←hw7];exact (HY6.out).other Hny.out 3 (.int .i64 x))
 obtain⟨z0,z1,z2,z3,z4,z5,z6⟩:=HF7.out.cells
 clear HF6 HE6 HO6 HY6
 go_wp2_with fail
 clear hw7 y0 y1 y2 y3 y4 y5 y6 f0 z0 z1 z2 z3 z4 z5 z6
 refine (rdops g s3 w7 HE7.out OP sf H4.out).mono ?_
 rintro e w8 ⟨oA,oc,o,rfl,ho9,hO9,hE,ho⟩
 have HP8:=hide (hO9.lessB HO7.out.1.size)
 have Ho:=hide ho9
 obtain⟨no,eno⟩:∃ q,q=List.length (α:=OpL) o:=⟨_,rfl⟩
 have Eno:=hide eno
 rw [←eno]
 clear ho9 hO9 eno
 have HE8:=hide hE
 have HF8:=hide (HF7.out.only ho Hne.out)
 have HY8:=hide (HY7.out.only ho Hneg.out)
 have HO8:=hide (HO7.out.trans ho)
 clear hE ho HE7 HF7 HY7 HO7
 obtain⟨y0,y1,y2,y3,y4,y5,y6⟩:=HF8.out.cells
 have f0:=(HF8.out).fr 5
 obtain⟨w9,hw9⟩:∃ q,(w8).setCell ⟨gx,5,none⟩ (.slice oA no oc)=q:=⟨_,rfl⟩
 have HF9:Hid (MB w9 gx (.int .u8 6) (.int .u32 t) (.int .u8 r) (.int .i64 x) (.slice none 0 0) (.slice oA no oc) (.slice none 0 0)):=hide (by rw [←hw9];exact (HF8.out).set5 (.slice oA no oc))
 have HE9:Hid (RY w9 g _):=hide (by rw [←hw9];exact (HE8.out).other Hg.out 5 (.slice oA no oc))
 have HO9:Hid (OnlyAt g w w9):=hide (by rw [←hw9];exact (HO8.out).setNew Hwx.out Hle.out 5 (.slice oA no oc))
 have HY9:Hid (MB w9 gy (.int .u8 0) (.int .u32 0) (.int .u8 0) (.int .i64 0) (.slice none 0 0) (.slice none 0 0) (.slice none 0 0)):=hide (by rw [←hw9];exact (HY8.out).other Hny.out 5 (.slice oA no oc))
 have HP9:Hid (OO w9 w.heap.size oA oc o):=hide (by rw [←hw9];exact (HP8.out).setO (HF8.out) (by decide) (by decide) 5 (.slice oA no oc))
 clear HF8 HE8 HO8 HY8 HP8
 obtain⟨z0,z1,z2,z3,z4,z5,z6⟩:=HF9.out.cells
 obtain⟨u0,u1,u2,u3,u4,u5,u6⟩:=HY9.out.cells
 obtain⟨g0,g1,g2,g3,g4,g5,g6,FZ,EZ,OZ⟩:=mfill (.int .u8 6) (.int .u32 t) (.int .u8 r) (.int .i64 x) (.slice none 0 0) (.slice oA no oc) (.slice none 0 0) HY9.out HE9.out HO9.out Hgg.out (Nat.le_of_eq Hgy.out.symm) Hle.out
 have HFZ:=hide FZ
 have HEZ:=hide EZ
 have HOZ:=hide OZ
 have HPZ:=hide (mfill_o (.int .u8 6) (.int .u32 t) (.int .u8 r) (.int .i64 x) (.slice none 0 0) (.slice oA no oc) (.slice none 0 0) HY9.out HP9.out)
 clear FZ EZ OZ HF9 HE9 HO9 HY9 HP9
 go_wp2_with fail
 generalize hWW:((((((w9.setCell ⟨gy,0,none⟩ (.int .u8 6)).setCell ⟨gy,1,none⟩ (.int .u32 t)).setCell ⟨gy,2,none⟩ (.int .u8 r)).setCell ⟨gy,3,none⟩ (.int .i64 x)).setCell ⟨gy,4,none⟩ (.slice none 0 0)).setCell ⟨gy,5,none⟩ (.slice oA no oc)).setCell ⟨gy,6,none⟩ (.slice none 0 0)=WW at HFZ HEZ HOZ HPZ ⊢
 obtain⟨v0,v1,v2,v3,v4,v5,v6⟩:=HFZ.out.cells
 refine bodyPost_ret (v:=mlv 6 t r x (.slice none 0 0) (.slice oA no oc) (.slice none 0 0)) (by simp [results,Tryz.results104,go_sem,v0,v1,v2,v3,v4,v5,v6]) rfl ?_
 have HM:=hide (show readM st=_ from readM_step H1.out ((if_pos (by decide)).trans H2.out) ((if_pos (by decide)).trans H3.out) (if_neg (by decide)) (if_neg (by decide)) ((if_pos (by decide)).trans H4.out))
 refine⟨⟨6,t,r,x,none,0, [],oA,oc,o,none,0, []⟩,?_,by rw [HM.out];show MP.mk _ _ _ _ _ _ _=_;rw [←Ho.out];rfl,⟨OTm.nil _ _,HPZ.out,OWs.nil _ _⟩,⟨(by obtain⟨a,b,c,d⟩:=Htr.out;exact⟨a,by show t < 4294967296;omega,c,by show r≤255;omega⟩),⟨fun y hy=>(by cases hy),(fun y hy=>(rdO_ok H4.out Ho.out).1 y hy),fun y hy=>(by cases hy)⟩,(by show (0:Nat) < 1073741824;decide),(rdO_ok H4.out Ho.out).2,(by show (0:Nat) < 1073741824;decide)⟩,by rw [HM.out];exact HEZ.out,HOZ.out⟩
 rw [Eno.out];rfl
end Go.Proofs.YtmkpfdcnikgokaaGreat
