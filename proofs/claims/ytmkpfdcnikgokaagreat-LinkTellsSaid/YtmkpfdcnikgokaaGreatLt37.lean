/-
  Texts of this claim, put together: CodeWhole. What each theorem asks stands in its statement.
-/
import Derived.StillTailTactics
import Derived.Test.YtmkpfdcnikgokaaGreatLt6
import Derived.Test.YtmkpfdcnikgokaaGreatLt12
import Derived.Test.YtmkpfdcnikgokaaGreatLt28
import Derived.Test.YtmkpfdcnikgokaaGreatLt36
set_option linter.unusedVariables false
set_option linter.unusedSimpArgs false
set_option maxRecDepth 100000
set_option maxHeartbeats 25600000
namespace Go.Proofs.YtmkpfdcnikgokaaGreat
open Go.RowKit
/-- append onto a row, a law that names the block that may turn. -/
theorem wpList_append_grown {P:Program} (w:World) {ops:Array Oper} {rest:List Oper} {o:Oper} {a:Act} {Q:Exit→Act→World→Prop} (hgd:o.guard=none) (s x:Operand) (t:TypeId)
 (ho:o.op= .call { callee:= .builtin .append,args:=#[s,x],argTypes:=#[t,t] })
 (base:Nat) (e:TypeId) (i:TypeInfo) (z:Value) (size bytes:Nat) (ht:P.underlying t=some (.slice e)) (hi:P.info? e=some i) (hz:i.zero=some z)
 (hsize:i.size=size) (hby:i.bytes=bytes) (hzs:z.cells.size=size) (hsz:0 < size)
 (v:Value) (n:Nat) (xs:List Value) (hs:a.eval s=v) (hown:w.ownsRow base e size v n xs)
 (B:Nat) (A:Option Addr) (m c:Nat) (news:List Value) (hx:a.eval x= .slice A m c) (hr:RD w B size A m news) (h1:∀ u∈news,u.oneCell'=true)
 (h63:n+m≤1073741824) (hbytes:bytes≤65536) (hbase:base≤w.heap.size)
 (h:∀ v' w',w'.ownsRow base e size v' (n+m) (xs++news)→Below base w w'→w.grownBy w' v.ownBlock→wpList P ops Q rest (a.put o.dst v') w'):wpList P ops Q (o :: rest) a w:=by
 refine wpList_plain hgd fun K hK=>?_
 have hb':(n+m) * bytes≤140737488355328:=by
  have:(n+m) * bytes≤(n+m) * 65536:=Nat.mul_le_mul_left _ hbytes
  omega
 obtain⟨v',w',hrun,h2,h3⟩:=run_append_src (P:=P) w base t o.type e i z size bytes ht hi hz hsize hby hzs hsz v n xs hown B A m c news hr h1 (by unfold maxLen;omega) hb' hbase
 unfold Oper.wp execOp
 simp only [ho,resolve,invoke,builtin,Sem.run_bind,Sem.run_pure,Result.andThen_ok,List.map_toArray,List.map_cons,List.map_nil,hs,hx,hrun]
 exact hK _ _ (h v' w' h2 (grown_below hown h3 hbase) h3)
theorem FB.grown {w w':World} {g base n:Nat} {k t r s z v:Value} {L:List Value} (h:FB w g k t r s z) (hown:w.ownsRow base 120 3 v n L) (hg:w.grownBy w' v.ownBlock):FB w' g k t r s z:=by
 refine (hg.block g h.lt fun e=>?_).trans h
 rcases hown.2 with⟨rfl,-⟩ | ⟨q,cap,cur,rfl,h2,h3,h4⟩
 ·cases e
 ·have:g=q:=Option.some.inj e
  unfold FB at h
  rw [this,h3] at h
  simp at h
theorem XB.grown {w w':World} {g:Nat} {a b c v:Value} (h:XB w g a b c) (hg:w.grownBy w' v.ownBlock) (hv:∀ k,v.ownBlock=some k→k < g):XB w' g a b c:=
 (hg.block g (Array.getElem?_eq_some_iff.1 h).1 fun e=>Nat.lt_irrefl _ (hv g e.symm)).trans h
theorem XB.other {w:World} {g:Nat} {a b c:Value} (h:XB w g a b c) {g':Nat} (hne:g≠g') (off:Nat) (v:Value):XB (w.setCell ⟨g',off,none⟩ v) g a b c:=(heap_setCell_other _ _ _ _ hne).trans h
theorem whole_ok (k:Int) (A1 A2:Option Addr) (n c1 c2 m:Nat) (L X:List Int) (w:World) (hr:RN w w.heap.size A1 L) (hn:L.length=n) (hm:n=3 * m) (hm1:1≤m) (hm9:m≤64) (hL:∀ x∈L,0≤x∧x≤1073741824) (hf:fitsR 0 L)
 (hs:RN w w.heap.size A2 X) (hX:X.length=behindN k) (hX9:∀ x∈X,0≤x∧x≤1073741824) (hk1:1≤k) (hk4:k≤4):
 Calls Tryz.prog 192 #[.int .i64 k,.slice A1 n c1,.slice A2 X.length c2] w fun e w'=>∃ A' c',e= .returned (opv (wholeO k L X).1 (wholeO k L X).2.1 (wholeO k L X).2.2.1 A' (wholeO k L X).2.2.2.1.length c' (wholeO k L X).2.2.2.2)∧
  w'.ownsRow w.heap.size 120 3 (.slice A' (wholeO k L X).2.2.2.1.length c') (wholeO k L X).2.2.2.1.length (rns (wholeO k L X).2.2.2.1)∧Below w.heap.size w w':=by
 obtain⟨i0,hi0,hz0,hz1,hz2⟩:=info_parts rinfo
 have HL:=hide hL
 have Hn:=hide hn
 have HX9:=hide hX9
 have HS:=hide hs
 have HX:=hide hX
 have Hm:=hide hm
 have Hf:=hide hf
 obtain⟨b0,o0,rfl,hB,hC⟩:=RN.cell hr (by omega)
 have HC:=hide hC
 have hn9:(n:Int)≤192:=by omega
 obtain⟨w1,hw1,F1,hs1,hb1⟩:=five_fb w (.int .u8 0) (.int .u32 0) (.int .u8 0) (.slice none 0 0) (.int .i64 0)
 obtain⟨w2,hw2,F2,hs2,hb2⟩:=five_fb w1 (.int .u8 k) (.int .u32 0) (.int .u8 0) (.slice none 0 0) (.int .i64 0)
 have hb02:=fresh hb1 hb2
 obtain⟨gs,hgs⟩:∃ g,g=w.heap.size:=⟨_,rfl⟩
 obtain⟨go,hgo⟩:∃ g,g=w1.heap.size:=⟨_,rfl⟩
 rw [←hgs] at F1
 rw [←hgo] at F2
 have HF1:=hide (F1.below hb2)
 have HF2:=hide F2
 have Hgs:=hide (show w.heap.size≤gs by rw [hgs];exact Nat.le_refl _)
 have Hgo:=hide (show w.heap.size≤go by rw [hgo];exact hb1.size)
 have Hne:=hide (show gs≠go by rw [hgs,hgo];omega)
 have hku:IntKind.u8.wrap k=k:=by simp [IntKind.wrap,IntKind.bits,IntKind.signed];omega
 have Hw2:=hide hw2
 clear hL hn hX9 hs hX hm hf hr hC F1 F2 hw2
 go_enter Tryz.func192,Tryz.ntmps192
 go_wp2_with fail
 rw [Hw2.out,←hgo,←hgs]
 clear hw1 Hw2 hgs hgo hb1 hb2 hs1 hs2
 go_loopw [8,9] (fun v i wr=>∃ (j:Nat) (was:Int) (p:List Rn) (A':Option Addr) (c':Nat),j≤m∧i= .int .i64 ((3 * j:Nat):Int)∧v= .int .i64 was∧0≤was∧was≤1073741824∧p.length=j∧
  Hid (FB wr gs (.int .u8 0) (.int .u32 0) (.int .u8 0) (.slice none 0 0) (.int .i64 0))∧Hid (FB wr go (.int .u8 k) (.int .u32 0) (.int .u8 0) (.slice A' (List.length (α:=Rn) p) c') (.int .i64 0))∧
  Hid (wr.ownsRow w.heap.size 120 3 (.slice A' (List.length (α:=Rn) p) c') p.length (rns p))∧Hid (toRuns 0 L=p++toRuns was (L.drop (3 * j))∧fitsR was (L.drop (3 * j))∧was=wasR 0 p)∧Below w.heap.size w wr) (fun _ i _=>n - (intOf i).toNat)
 case atStart=>exact⟨0,0, [],none,0,by omega,rfl,rfl,by decide,by decide,rfl,HF1,HF2,hide (World.ownsRow_nil _ _ _ _),hide ⟨rfl,Hf.out,rfl⟩,hb02⟩
 case round=>
  obtain⟨j,was,p,A',c',hj,rfl,rfl,hw0,hw9,hpl,hFs,hFo,hO,hG,hb⟩:=hrel
  clear HF1 HF2 hb02
  have hm:=Hm.out
  by_cases hlt:j < m
  ·have h3:3 * j+2 < L.length:=by rw [Hn.out];omega
   obtain⟨i,hi⟩:∃ i,i=3 * j:=⟨_,rfl⟩
   rw [←hi] at hG h3 ⊢
   obtain⟨d,hd⟩:∃ x,L[i]=x:=⟨_,rfl⟩
   obtain⟨r,hr⟩:∃ x,L[i+1]=x:=⟨_,rfl⟩
   obtain⟨x,hx⟩:∃ x,L[i+2]=x:=⟨_,rfl⟩
   have bd:=HL.out L[i] (List.getElem_mem (by omega))
   have br:=HL.out L[i+1] (List.getElem_mem (by omega))
   have bx:=HL.out L[i+2] (List.getElem_mem (by omega))
   have hdrop:L.drop i=d :: r :: x :: L.drop (i+3):=by
    rw [List.drop_eq_getElem_cons (by omega),List.drop_eq_getElem_cons (by omega),List.drop_eq_getElem_cons (by omega),hd,hr,hx]
   rw [hdrop] at hG
   have e0:=HC.out i (by omega)
   have e1:=HC.out (i+1) (by omega)
   have e2:=HC.out (i+2) (by omega)
   rw [hd] at e0 bd
   rw [hr] at e1 br
   rw [hx] at e2 bx
   replace e0:=keep_cell hb hB e0
   replace e1:=keep_cell hb hB e1
   replace e2:=keep_cell hb hB e2
   have z0:(i:Int)+2 < n:=by have:=Hn.out;omega
   have z1:(i:Int)+1 < n:=by omega
   have z2:(i:Int) < n:=by omega
   have z3:(0:Int)≤i:=by omega
   have z4:(0:Int)≤(i:Int)+1:=by omega
   have z5:(0:Int)≤(i:Int)+2:=by omega
   have z6:((i:Int)+1).toNat=i+1:=by omega
   have z7:((i:Int)+2).toNat=i+2:=by omega
   have w1':IntKind.i64.wrap ((i:Int)+1)=(i:Int)+1:=IntWalk.i64_in _ (by omega)
   have w2':IntKind.i64.wrap ((i:Int)+2)=(i:Int)+2:=IntWalk.i64_in _ (by omega)
   have w3':IntKind.i64.wrap ((i:Int)+3)=(i:Int)+3:=IntWalk.i64_in _ (by omega)
   obtain⟨bd1,bd2⟩:=bd
   obtain⟨br1,br2⟩:=br
   obtain⟨bx1,bx2⟩:=bx
   obtain⟨q1,q2,q3,q4,q5,q6⟩:=hG.out.2.1
   have w4':IntKind.i64.wrap (was+d)=was+d:=IntWalk.i64_in _ (by omega)
   have w5':IntKind.u32.wrap (was+d)=was+d:=IntWalk.u32_in _ (by omega)
   have w6':IntKind.u8.wrap r=r:=by simp [IntKind.wrap,IntKind.bits,IntKind.signed];omega
   have HGn:=hide (show toRuns 0 L=(p++ [(was+d,r,x)])++toRuns (was+d+x - 1) (L.drop (i+3))∧fitsR (was+d+x - 1) (L.drop (i+3))∧was+d+x - 1=wasR 0 (p++ [(was+d,r,x)]) by
    refine⟨?_,q6,by rw [wasR_snoc]⟩
    rw [hG.out.1]
    simp [toRuns])
   have Hi:=hide hi
   have hbs:b0 < wr.heap.size:=Nat.lt_of_lt_of_le hB hb.size
   clear hd hr hx hdrop h3 hi hm hG
   go_wp2_with fail
   go_region_held3 (fun w'=>w'.cell? ⟨b0,o0+i,none⟩=some (.int .i64 d)∧w'.cell? ⟨b0,o0+(i+1),none⟩=some (.int .i64 r)∧w'.cell? ⟨b0,o0+(i+2),none⟩=some (.int .i64 x)) (go_keep) (fail)
   obtain⟨wx,hwx⟩:∃ wx,(wr.alloc (.cells #[.int .u32 (was+d),.int .u8 r,.int .i64 x] 120)).drew=wx:=⟨_,rfl⟩
   have hbx:Below wr.heap.size wr wx:=by rw [←hwx];exact (boxed _ _).drew
   have HFX:=hide (show XB wx wr.heap.size (.int .u32 (was+d)) (.int .u8 r) (.int .i64 x) by rw [←hwx];exact heap_alloc_new _ _)
   obtain⟨gx,hgx⟩:∃ g,g=wr.heap.size:=⟨_,rfl⟩
   have hlto:go < wr.heap.size:=hFo.out.lt
   have Hgx:=hide (And.intro (show go≠gx by rw [hgx];omega) (show ∀ k,(Value.slice A' p.length c').ownBlock=some k→k < gx from fun k hk=>by rw [hgx];exact (hO.out.lt k hk).2))
   rw [hwx]
   rw [←hgx] at HFX ⊢
   have hbxx:=fresh hb hbx
   have HFsx:=hide (hFs.out.below hbx)
   have HFox:=hide (hFo.out.below hbx)
   have HOx:=hide (own_below hO.out hbx (Nat.le_refl _))
   obtain⟨x0,x1',x2'⟩:=HFX.out.cells
   obtain⟨p0,p1,p2,p3,p4⟩:=HFox.out.cells
   obtain⟨wy,hwy,FY,hsy,hby⟩:=three_xb wx (.int .u32 (was+d)) (.int .u8 r) (.int .i64 x)
   have HFsy:=hide (HFsx.out.below hby)
   have HFoy:=hide (HFox.out.below hby)
   have HFXy:=hide (HFX.out.below hby)
   have hownY:=own_below HOx.out hby (Nat.le_refl _)
   have HOY:=hide hownY
   have hbyy:=fresh hbxx hby
   have hrow:RD wy wy.heap.size 3 (some ⟨wx.heap.size,0,none⟩) 1 (rns [(was+d,r,x)]):=by rw [←hwy];exact run_row (was+d) r x wx
   have hsz:p.length+1≤1073741824:=by omega
   have hby9:w.heap.size≤wy.heap.size:=hbyy.size
   have HB:=hide hb
   have Hpl:=hide hpl
   clear FY hFs hFo hO hwx hgx hbx hbxx hb hpl hlto
   go_wp2_with (at_builtin;refine wpList_append_grown _ rfl (.tmp 42) (.tmp 44) 102 rfl w.heap.size 120 i0 (.agg #[.int .u32 0,.int .u8 0,.int .i64 0]) 3 16 Tryz.underlying102 hi0 hz0 hz1 hz2 rfl (by decide) _ p.length (rns p) rfl hownY wy.heap.size (some ⟨wx.heap.size,0,none⟩) 1 1 (rns [(was+d,r,x)]) rfl hrow (rns_one _) hsz (by decide) hby9 ?_;intro v9 w9 hown9 hb9 hg9;obtain⟨A9,c9,rfl,-,-,-⟩:=own_slice hown9;have HFo9:=hide (HFoy.out.grown HOY.out hg9);have HFs9:=hide (HFsy.out.grown HOY.out hg9);have HX9':=hide (HFXy.out.grown hg9 Hgx.out.2);obtain⟨w10,hw10⟩:∃ w10,w9.setCell ⟨go,3,none⟩ (.slice A9 (p.length+1) c9)=w10:=⟨_,rfl⟩;have HXX:=hide (show XB w10 gx (.int .u32 (was+d)) (.int .u8 r) (.int .i64 x) by rw [←hw10];exact HX9'.out.other (fun e=>Hgx.out.1 e.symm) 3 _);obtain⟨y0,y1,y2⟩:=HXX.out.cells;obtain⟨o0',o1,o2,o3,o4⟩:=HFo9.out.cells;have f3:=HFo9.out.fr 3)
   have hb010:Below w.heap.size w w10:=by rw [←hw10];exact (hbyy.trans hb9).setCell Hgo.out _
   have HFo10:=hide (show FB w10 go (.int .u8 k) (.int .u32 0) (.int .u8 0) (.slice A9 (p.length+1) c9) (.int .i64 0) by rw [←hw10];exact HFo9.out.set3 _)
   have HFs10:=hide (show FB w10 gs (.int .u8 0) (.int .u32 0) (.int .u8 0) (.slice none 0 0) (.int .i64 0) by rw [←hw10];exact HFs9.out.other Hne.out 3 _)
   have HO10:=hide (show w10.ownsRow w.heap.size 120 3 (.slice A9 (p.length+1) c9) (p.length+1) (rns (p++ [(was+d,r,x)])) by rw [←hw10,rns_append];exact own_set hown9 HFo9.out 3 _)
   refine (end10_ok (was+d) r x w10 (by omega) (by omega) (by omega) (by omega)).mono ?_
   rintro e w11 ⟨rfl,hb11⟩
   have hb011:=fresh hb010 hb11
   clear y0 y1 y2 o0' o1 o2 o3 o4 f3 hw10 hown9 hb9 hg9
   go_wp2_with fail
   go_roundw
   case rel=>
    have e3:3 * (j+1)=i+3:=by have:=Hi.out;omega
    refine⟨j+1,was+d+x - 1,p++ [(was+d,r,x)],A9,c9,by omega,by rw [e3];go_num,by go_num,by omega,by omega,by rw [List.length_append,Hpl.out];rfl,hide (HFs10.out.below hb11),hide ?_,hide ?_,?_,hb011⟩
    ·rw [List.length_append,List.length_singleton]
     exact HFo10.out.below hb11
    ·rw [List.length_append,List.length_singleton]
     exact own_below HO10.out hb11 (Nat.le_refl _)
    ·rw [e3]
     exact HGn
   case measure=>
    have:=Hi.out
    have:=Hm.out
    simp [intOf]
    omega
  ·have hjm:j=m:=by omega
   have hp:toRuns 0 L=p:=by
    rw [hG.out.1,List.drop_eq_nil_of_le (by rw [Hn.out];omega)]
    simp [toRuns]
   have hws:=hG.out.2.2
   have hw2:wasR 0 (toRuns 0 L)=was:=by rw [hp,hws]
   have hlp:0 < p.length:=by omega
   obtain⟨bp,op,rfl,hBp,hCp⟩:=RR.cell (RR.of_own hO.out rfl) hlp
   obtain⟨d0,d1,d2⟩:=hCp (p.length - 1) (by omega)
   obtain⟨t9,ht9⟩:∃ q,p[p.length - 1].1=q:=⟨_,rfl⟩
   obtain⟨r9,hr9⟩:∃ q,p[p.length - 1].2.1=q:=⟨_,rfl⟩
   obtain⟨x9,hx9⟩:∃ q,p[p.length - 1].2.2=q:=⟨_,rfl⟩
   rw [ht9] at d0
   rw [hr9] at d1
   rw [hx9] at d2
   have hlast:(p.getLastD (0,0,0)).2.1=r9:=by
    rw [←hr9,List.getLastD_eq_getLast?,List.getLast?_eq_getElem?,List.getElem?_eq_getElem (by omega)]
    rfl
   have Hlast:=hide (And.intro hp (And.intro hw2 hlast))
   have Hpl:=hide hpl
   obtain⟨i,hi⟩:∃ i,i=3 * j:=⟨_,rfl⟩
   rw [←hi]
   have z0:¬ (i:Int)+2 < n:=by omega
   have w2':IntKind.i64.wrap ((i:Int)+2)=(i:Int)+2:=IntWalk.i64_in _ (by omega)
   have y1:(1:Int)≤p.length:=by omega
   have y2:(0:Int)≤(p.length:Int) - 1:=by omega
   have y3:(p.length:Int) - 1 < p.length:=by omega
   have y4:((p.length:Int) - 1).toNat=p.length - 1:=by omega
   have y5:IntKind.i64.wrap ((p.length:Int) - 1)=(p.length:Int) - 1:=IntWalk.i64_in _ (by omega)
   have y6:IntKind.u32.wrap was=was:=IntWalk.u32_in _ (by omega)
   have hlto:go < wr.heap.size:=hFo.out.lt
   clear hG hp hws hw2 hlast ht9 hr9 hx9 hCp hi hm hjm hpl
   have hkk:k=1∨k=2∨k=3∨k=4:=by omega
   rcases hkk with rfl | rfl | rfl | rfl
   ·obtain⟨wl,hwl,FL,hsl,hbl⟩:=three_xb wr (.int .u32 t9) (.int .u8 r9) (.int .i64 x9)
    have hbwl:=fresh hb hbl
    have HFol:=hide (hFo.out.below hbl)
    have HFsl:=hide (hFs.out.below hbl)
    have HOl:=hide (own_below hO.out hbl (Nat.le_refl _))
    obtain⟨l0,l1',l2⟩:=FL.cells
    obtain⟨o0',o1,o2,o3,o4⟩:=hFo.out.cells
    have e0':=keep_cell hbl hlto o0'
    have e1':=keep_cell hbl hlto o1
    have e2':=keep_cell hbl hlto o2
    have f1:=HFol.out.fr 1
    have f2:=HFol.out.fr 2
    obtain⟨wv,hwv⟩:∃ wv,(wl.setCell ⟨go,1,none⟩ (.int .u32 was)).setCell ⟨go,2,none⟩ (.int .u8 r9)=wv:=⟨_,rfl⟩
    have HFov:=hide (show FB wv go (.int .u8 1) (.int .u32 was) (.int .u8 r9) (.slice (some ⟨bp,op,none⟩) p.length c') (.int .i64 0) by rw [←hwv];exact HFol.out.set12 _ _)
    have HFsv:=hide (show FB wv gs (.int .u8 0) (.int .u32 0) (.int .u8 0) (.slice none 0 0) (.int .i64 0) by rw [←hwv];exact (HFsl.out.other Hne.out 1 _).other Hne.out 2 _)
    have HOv:=hide (show wv.ownsRow w.heap.size 120 3 (.slice (some ⟨bp,op,none⟩) p.length c') p.length (rns p) by rw [←hwv];exact own_set2 HOl.out HFol.out _ _)
    have hbv:Below w.heap.size w wv:=by rw [←hwv];exact (hbwl.setCell Hgo.out _).setCell Hgo.out _
    have hX1:X.length=1:=HX.out
    obtain⟨b2,o2',hA2,hB2,hC2⟩:=RN.cell HS.out (by omega)
    have c0:=hC2 0 (by omega)
    obtain⟨q0,hq0⟩:∃ q,X[0]=q:=⟨_,rfl⟩
    rw [hq0,Nat.add_zero] at c0
    have Hwo:=hide (show wholeO 1 L X=(1,was,r9,p,q0) by
     unfold wholeO
     rw [if_neg (by decide),if_neg (by decide),if_pos rfl,Hlast.out.2.1,Hlast.out.1,Hlast.out.2.2]
     have:X.getD 0 0=q0:=by rw [List.getD_eq_getElem?_getD,List.getElem?_eq_getElem (by omega),hq0];rfl
     rw [this])
    subst hA2
    replace c0:=keep_cell hbv hB2 c0
    have hX1':(X.length:Int)=1:=by omega
    obtain⟨p0,p1,p2,p3,p4⟩:=HFov.out.cells
    have g4:=HFov.out.fr 4
    obtain⟨wz,hwz⟩:∃ wz,wv.setCell ⟨go,4,none⟩ (.int .i64 q0)=wz:=⟨_,rfl⟩
    have HFowz:=hide (show FB wz go (.int .u8 1) (.int .u32 was) (.int .u8 r9) (.slice (some ⟨bp,op,none⟩) p.length c') (.int .i64 q0) by rw [←hwz];exact HFov.out.set4 _)
    have HFswz:=hide (show FB wz gs (.int .u8 0) (.int .u32 0) (.int .u8 0) (.slice none 0 0) (.int .i64 0) by rw [←hwz];exact HFsv.out.other Hne.out 4 _)
    have HOwz:=hide (show wz.ownsRow w.heap.size 120 3 (.slice (some ⟨bp,op,none⟩) p.length c') p.length (rns p) by rw [←hwz];exact own_set HOv.out HFov.out 4 _)
    have hbwz:Below w.heap.size w wz:=by rw [←hwz];exact hbv.setCell Hgo.out _
    obtain⟨q0',q1,q2,q3,q4⟩:=HFowz.out.cells
    obtain⟨s0,s1,s2,s3,s4⟩:=HFswz.out.cells
    have h0:=HFswz.out.fr 0
    have h1:=HFswz.out.fr 1
    have h2:=HFswz.out.fr 2
    have h3:=HFswz.out.fr 3
    have h4:=HFswz.out.fr 4
    clear hX1 HX hq0 hlp
    go_wp2_with fail
    have F5:=put5_fb HFswz.out (.int .u8 1) (.int .u32 was) (.int .u8 r9) (.slice (some ⟨bp,op,none⟩) p.length c') (.int .i64 q0)
    have Hb5:Below w.heap.size w (put5 wz gs (.int .u8 1) (.int .u32 was) (.int .u8 r9) (.slice (some ⟨bp,op,none⟩) p.length c') (.int .i64 q0)):=put5_below hbwz _ _ _ _ _ _ Hgs.out
    have HO5:(put5 wz gs (.int .u8 1) (.int .u32 was) (.int .u8 r9) (.slice (some ⟨bp,op,none⟩) p.length c') (.int .i64 q0)).ownsRow w.heap.size 120 3 (.slice (some ⟨bp,op,none⟩) p.length c') p.length (rns p):=own_put5 HOwz.out HFswz.out
    change bodyPost _ _ _ _ _ (put5 wz gs (.int .u8 1) (.int .u32 was) (.int .u8 r9) (.slice (some ⟨bp,op,none⟩) p.length c') (.int .i64 q0))
    generalize put5 wz gs (.int .u8 1) (.int .u32 was) (.int .u8 r9) (.slice (some ⟨bp,op,none⟩) p.length c') (.int .i64 q0)=W at F5 Hb5 HO5 ⊢
    obtain⟨v0,v1,v2,v3,v4⟩:=F5.cells
    refine bodyPost_ret (v:=opv 1 was r9 (some ⟨bp,op,none⟩) p.length c' q0) (by simp [results,Tryz.results192,go_sem,v0,v1,v2,v3,v4]) rfl ?_
    exact⟨(some ⟨bp,op,none⟩),c',by rw [Hwo.out],by rw [Hwo.out];exact HO5,Hb5⟩
   ·obtain⟨wl,hwl,FL,hsl,hbl⟩:=three_xb wr (.int .u32 t9) (.int .u8 r9) (.int .i64 x9)
    have hbwl:=fresh hb hbl
    have HFol:=hide (hFo.out.below hbl)
    have HFsl:=hide (hFs.out.below hbl)
    have HOl:=hide (own_below hO.out hbl (Nat.le_refl _))
    obtain⟨l0,l1',l2⟩:=FL.cells
    obtain⟨o0',o1,o2,o3,o4⟩:=hFo.out.cells
    have e0':=keep_cell hbl hlto o0'
    have e1':=keep_cell hbl hlto o1
    have e2':=keep_cell hbl hlto o2
    have f1:=HFol.out.fr 1
    have f2:=HFol.out.fr 2
    obtain⟨wv,hwv⟩:∃ wv,(wl.setCell ⟨go,1,none⟩ (.int .u32 was)).setCell ⟨go,2,none⟩ (.int .u8 r9)=wv:=⟨_,rfl⟩
    have HFov:=hide (show FB wv go (.int .u8 2) (.int .u32 was) (.int .u8 r9) (.slice (some ⟨bp,op,none⟩) p.length c') (.int .i64 0) by rw [←hwv];exact HFol.out.set12 _ _)
    have HFsv:=hide (show FB wv gs (.int .u8 0) (.int .u32 0) (.int .u8 0) (.slice none 0 0) (.int .i64 0) by rw [←hwv];exact (HFsl.out.other Hne.out 1 _).other Hne.out 2 _)
    have HOv:=hide (show wv.ownsRow w.heap.size 120 3 (.slice (some ⟨bp,op,none⟩) p.length c') p.length (rns p) by rw [←hwv];exact own_set2 HOl.out HFol.out _ _)
    have hbv:Below w.heap.size w wv:=by rw [←hwv];exact (hbwl.setCell Hgo.out _).setCell Hgo.out _
    have Hwo:=hide (show wholeO 2 L X=(2,was,r9,p,0) by
     unfold wholeO
     rw [if_neg (by decide),if_neg (by decide),if_neg (by decide),Hlast.out.2.1,Hlast.out.1,Hlast.out.2.2])
    obtain⟨q0',q1,q2,q3,q4⟩:=HFov.out.cells
    obtain⟨s0,s1,s2,s3,s4⟩:=HFsv.out.cells
    have h0:=HFsv.out.fr 0
    have h1:=HFsv.out.fr 1
    have h2:=HFsv.out.fr 2
    have h3:=HFsv.out.fr 3
    have h4:=HFsv.out.fr 4
    clear HX hlp
    go_wp2_with fail
    have F5:=put5_fb HFsv.out (.int .u8 2) (.int .u32 was) (.int .u8 r9) (.slice (some ⟨bp,op,none⟩) p.length c') (.int .i64 0)
    have Hb5:Below w.heap.size w (put5 wv gs (.int .u8 2) (.int .u32 was) (.int .u8 r9) (.slice (some ⟨bp,op,none⟩) p.length c') (.int .i64 0)):=put5_below hbv _ _ _ _ _ _ Hgs.out
    have HO5:(put5 wv gs (.int .u8 2) (.int .u32 was) (.int .u8 r9) (.slice (some ⟨bp,op,none⟩) p.length c') (.int .i64 0)).ownsRow w.heap.size 120 3 (.slice (some ⟨bp,op,none⟩) p.length c') p.length (rns p):=own_put5 HOv.out HFsv.out
    change bodyPost _ _ _ _ _ (put5 wv gs (.int .u8 2) (.int .u32 was) (.int .u8 r9) (.slice (some ⟨bp,op,none⟩) p.length c') (.int .i64 0))
    generalize put5 wv gs (.int .u8 2) (.int .u32 was) (.int .u8 r9) (.slice (some ⟨bp,op,none⟩) p.length c') (.int .i64 0)=W at F5 Hb5 HO5 ⊢
    obtain⟨v0,v1,v2,v3,v4⟩:=F5.cells
    refine bodyPost_ret (v:=opv 2 was r9 (some ⟨bp,op,none⟩) p.length c' 0) (by simp [results,Tryz.results192,go_sem,v0,v1,v2,v3,v4]) rfl ?_
    exact⟨(some ⟨bp,op,none⟩),c',by rw [Hwo.out],by rw [Hwo.out];exact HO5,Hb5⟩
   ·obtain⟨wl,hwl,FL,hsl,hbl⟩:=three_xb wr (.int .u32 t9) (.int .u8 r9) (.int .i64 x9)
    have hbwl:=fresh hb hbl
    have HFol:=hide (hFo.out.below hbl)
    have HFsl:=hide (hFs.out.below hbl)
    have HOl:=hide (own_below hO.out hbl (Nat.le_refl _))
    obtain⟨l0,l1',l2⟩:=FL.cells
    obtain⟨o0',o1,o2,o3,o4⟩:=hFo.out.cells
    have e0':=keep_cell hbl hlto o0'
    have e1':=keep_cell hbl hlto o1
    have e2':=keep_cell hbl hlto o2
    have f1:=HFol.out.fr 1
    have f2:=HFol.out.fr 2
    obtain⟨wv,hwv⟩:∃ wv,(wl.setCell ⟨go,1,none⟩ (.int .u32 was)).setCell ⟨go,2,none⟩ (.int .u8 r9)=wv:=⟨_,rfl⟩
    have HFov:=hide (show FB wv go (.int .u8 3) (.int .u32 was) (.int .u8 r9) (.slice (some ⟨bp,op,none⟩) p.length c') (.int .i64 0) by rw [←hwv];exact HFol.out.set12 _ _)
    have HFsv:=hide (show FB wv gs (.int .u8 0) (.int .u32 0) (.int .u8 0) (.slice none 0 0) (.int .i64 0) by rw [←hwv];exact (HFsl.out.other Hne.out 1 _).other Hne.out 2 _)
    have HOv:=hide (show wv.ownsRow w.heap.size 120 3 (.slice (some ⟨bp,op,none⟩) p.length c') p.length (rns p) by rw [←hwv];exact own_set2 HOl.out HFol.out _ _)
    have hbv:Below w.heap.size w wv:=by rw [←hwv];exact (hbwl.setCell Hgo.out _).setCell Hgo.out _
    have hX1:X.length=2:=HX.out
    obtain⟨b2,o2',hA2,hB2,hC2⟩:=RN.cell HS.out (by omega)
    have c0:=hC2 0 (by omega)
    have c1':=hC2 1 (by omega)
    have bq0:=HX9.out X[0] (List.getElem_mem (by omega))
    have bq1:=HX9.out X[1] (List.getElem_mem (by omega))
    obtain⟨q0,hq0⟩:∃ q,X[0]=q:=⟨_,rfl⟩
    obtain⟨q1,hq1⟩:∃ q,X[1]=q:=⟨_,rfl⟩
    rw [hq0,Nat.add_zero] at c0
    rw [hq1] at c1'
    rw [hq0] at bq0
    rw [hq1] at bq1
    obtain⟨bq01,bq02⟩:=bq0
    obtain⟨bq11,bq12⟩:=bq1
    have Hwo:=hide (show wholeO 3 L X=(3,was+q0,q1 % 256,p,0) by
     unfold wholeO
     rw [if_pos (by decide),if_pos (by decide),if_neg (by decide),Hlast.out.2.1,Hlast.out.1]
     have h0:X.getD 0 0=q0:=by rw [List.getD_eq_getElem?_getD,List.getElem?_eq_getElem (by omega),hq0];rfl
     have h1:X.getD 1 0=q1:=by rw [List.getD_eq_getElem?_getD,List.getElem?_eq_getElem (by omega),hq1];rfl
     rw [h0,h1])
    subst hA2
    replace c0:=keep_cell hbv hB2 c0
    replace c1':=keep_cell hbv hB2 c1'
    have hX1':(X.length:Int)=2:=by omega
    have n1:IntKind.i64.wrap (was+q0)=was+q0:=IntWalk.i64_in _ (by omega)
    have n2:IntKind.u32.wrap (was+q0)=was+q0:=IntWalk.u32_in _ (by omega)
    have n3:IntKind.u8.wrap q1=q1 % 256:=by simp [IntKind.wrap,IntKind.bits,IntKind.signed]
    obtain⟨p0,p1,p2,p3,p4⟩:=HFov.out.cells
    have k1:=HFov.out.fr 1
    have k2:=HFov.out.fr 2
    obtain⟨wz,hwz⟩:∃ wz,((wv.setCell ⟨go,1,none⟩ (.int .u32 (was+q0))).setCell ⟨go,2,none⟩ (.int .u8 (q1 % 256))).drew=wz:=⟨_,rfl⟩
    have HFowz:=hide (show FB wz go (.int .u8 3) (.int .u32 (was+q0)) (.int .u8 (q1 % 256)) (.slice (some ⟨bp,op,none⟩) p.length c') (.int .i64 0) by rw [←hwz];exact HFov.out.set12 _ _)
    have HFswz:=hide (show FB wz gs (.int .u8 0) (.int .u32 0) (.int .u8 0) (.slice none 0 0) (.int .i64 0) by rw [←hwz];exact (HFsv.out.other Hne.out 1 _).other Hne.out 2 _)
    have HOwz:=hide (show wz.ownsRow w.heap.size 120 3 (.slice (some ⟨bp,op,none⟩) p.length c') p.length (rns p) by rw [←hwz];exact own_set2 HOv.out HFov.out _ _)
    have hbwz:Below w.heap.size w wz:=by rw [←hwz];exact ((hbv.setCell Hgo.out _).setCell Hgo.out _).drew
    obtain⟨q0',q1',q2,q3,q4⟩:=HFowz.out.cells
    obtain⟨s0,s1,s2,s3,s4⟩:=HFswz.out.cells
    have h0:=HFswz.out.fr 0
    have h1:=HFswz.out.fr 1
    have h2:=HFswz.out.fr 2
    have h3:=HFswz.out.fr 3
    have h4:=HFswz.out.fr 4
    clear hX1 HX hq0 hq1 hlp
    go_wp2_with fail
    go_still_tail 12,(by kernel_rfl)
    change wpList _ _ _ _ _ wv.drew
    go_wp2_with fail
    have F5:=put5_fb HFswz.out (.int .u8 3) (.int .u32 (was+q0)) (.int .u8 (q1 % 256)) (.slice (some ⟨bp,op,none⟩) p.length c') (.int .i64 0)
    have Hb5:Below w.heap.size w (put5 wz gs (.int .u8 3) (.int .u32 (was+q0)) (.int .u8 (q1 % 256)) (.slice (some ⟨bp,op,none⟩) p.length c') (.int .i64 0)):=put5_below hbwz _ _ _ _ _ _ Hgs.out
    have HO5:(put5 wz gs (.int .u8 3) (.int .u32 (was+q0)) (.int .u8 (q1 % 256)) (.slice (some ⟨bp,op,none⟩) p.length c') (.int .i64 0)).ownsRow w.heap.size 120 3 (.slice (some ⟨bp,op,none⟩) p.length c') p.length (rns p):=own_put5 HOwz.out HFswz.out
    change bodyPost _ _ _ _ _ (put5 wz gs (.int .u8 3) (.int .u32 (was+q0)) (.int .u8 (q1 % 256)) (.slice (some ⟨bp,op,none⟩) p.length c') (.int .i64 0))
    generalize put5 wz gs (.int .u8 3) (.int .u32 (was+q0)) (.int .u8 (q1 % 256)) (.slice (some ⟨bp,op,none⟩) p.length c') (.int .i64 0)=W at F5 Hb5 HO5 ⊢
    obtain⟨v0,v1,v2,v3,v4⟩:=F5.cells
    refine bodyPost_ret (v:=opv 3 (was+q0) (q1 % 256) (some ⟨bp,op,none⟩) p.length c' 0) (by simp [results,Tryz.results192,go_sem,v0,v1,v2,v3,v4]) rfl ?_
    exact⟨_,c',by rw [Hwo.out],by rw [Hwo.out];exact HO5,Hb5⟩
   ·obtain⟨wl,hwl,FL,hsl,hbl⟩:=three_xb wr (.int .u32 t9) (.int .u8 r9) (.int .i64 x9)
    have hbwl:=fresh hb hbl
    have HFol:=hide (hFo.out.below hbl)
    have HFsl:=hide (hFs.out.below hbl)
    have HOl:=hide (own_below hO.out hbl (Nat.le_refl _))
    obtain⟨l0,l1',l2⟩:=FL.cells
    obtain⟨o0',o1,o2,o3,o4⟩:=hFo.out.cells
    have e0':=keep_cell hbl hlto o0'
    have e1':=keep_cell hbl hlto o1
    have e2':=keep_cell hbl hlto o2
    have f1:=HFol.out.fr 1
    have f2:=HFol.out.fr 2
    obtain⟨wv,hwv⟩:∃ wv,(wl.setCell ⟨go,1,none⟩ (.int .u32 was)).setCell ⟨go,2,none⟩ (.int .u8 r9)=wv:=⟨_,rfl⟩
    have HFov:=hide (show FB wv go (.int .u8 4) (.int .u32 was) (.int .u8 r9) (.slice (some ⟨bp,op,none⟩) p.length c') (.int .i64 0) by rw [←hwv];exact HFol.out.set12 _ _)
    have HFsv:=hide (show FB wv gs (.int .u8 0) (.int .u32 0) (.int .u8 0) (.slice none 0 0) (.int .i64 0) by rw [←hwv];exact (HFsl.out.other Hne.out 1 _).other Hne.out 2 _)
    have HOv:=hide (show wv.ownsRow w.heap.size 120 3 (.slice (some ⟨bp,op,none⟩) p.length c') p.length (rns p) by rw [←hwv];exact own_set2 HOl.out HFol.out _ _)
    have hbv:Below w.heap.size w wv:=by rw [←hwv];exact (hbwl.setCell Hgo.out _).setCell Hgo.out _
    have hX1:X.length=2:=HX.out
    obtain⟨b2,o2',hA2,hB2,hC2⟩:=RN.cell HS.out (by omega)
    have c0:=hC2 0 (by omega)
    have c1':=hC2 1 (by omega)
    have bq0:=HX9.out X[0] (List.getElem_mem (by omega))
    have bq1:=HX9.out X[1] (List.getElem_mem (by omega))
    obtain⟨q0,hq0⟩:∃ q,X[0]=q:=⟨_,rfl⟩
    obtain⟨q1,hq1⟩:∃ q,X[1]=q:=⟨_,rfl⟩
    rw [hq0,Nat.add_zero] at c0
    rw [hq1] at c1'
    rw [hq0] at bq0
    rw [hq1] at bq1
    obtain⟨bq01,bq02⟩:=bq0
    obtain⟨bq11,bq12⟩:=bq1
    have Hwo:=hide (show wholeO 4 L X=(4,was+q0,q1 % 256,p,0) by
     unfold wholeO
     rw [if_pos (by decide),if_pos (by decide),if_neg (by decide),Hlast.out.2.1,Hlast.out.1]
     have h0:X.getD 0 0=q0:=by rw [List.getD_eq_getElem?_getD,List.getElem?_eq_getElem (by omega),hq0];rfl
     have h1:X.getD 1 0=q1:=by rw [List.getD_eq_getElem?_getD,List.getElem?_eq_getElem (by omega),hq1];rfl
     rw [h0,h1])
    subst hA2
    replace c0:=keep_cell hbv hB2 c0
    replace c1':=keep_cell hbv hB2 c1'
    have hX1':(X.length:Int)=2:=by omega
    have n1:IntKind.i64.wrap (was+q0)=was+q0:=IntWalk.i64_in _ (by omega)
    have n2:IntKind.u32.wrap (was+q0)=was+q0:=IntWalk.u32_in _ (by omega)
    have n3:IntKind.u8.wrap q1=q1 % 256:=by simp [IntKind.wrap,IntKind.bits,IntKind.signed]
    obtain⟨p0,p1,p2,p3,p4⟩:=HFov.out.cells
    have k1:=HFov.out.fr 1
    have k2:=HFov.out.fr 2
    obtain⟨wz,hwz⟩:∃ wz,((wv.setCell ⟨go,1,none⟩ (.int .u32 (was+q0))).setCell ⟨go,2,none⟩ (.int .u8 (q1 % 256))).drew=wz:=⟨_,rfl⟩
    have HFowz:=hide (show FB wz go (.int .u8 4) (.int .u32 (was+q0)) (.int .u8 (q1 % 256)) (.slice (some ⟨bp,op,none⟩) p.length c') (.int .i64 0) by rw [←hwz];exact HFov.out.set12 _ _)
    have HFswz:=hide (show FB wz gs (.int .u8 0) (.int .u32 0) (.int .u8 0) (.slice none 0 0) (.int .i64 0) by rw [←hwz];exact (HFsv.out.other Hne.out 1 _).other Hne.out 2 _)
    have HOwz:=hide (show wz.ownsRow w.heap.size 120 3 (.slice (some ⟨bp,op,none⟩) p.length c') p.length (rns p) by rw [←hwz];exact own_set2 HOv.out HFov.out _ _)
    have hbwz:Below w.heap.size w wz:=by rw [←hwz];exact ((hbv.setCell Hgo.out _).setCell Hgo.out _).drew
    obtain⟨q0',q1',q2,q3,q4⟩:=HFowz.out.cells
    obtain⟨s0,s1,s2,s3,s4⟩:=HFswz.out.cells
    have h0:=HFswz.out.fr 0
    have h1:=HFswz.out.fr 1
    have h2:=HFswz.out.fr 2
    have h3:=HFswz.out.fr 3
    have h4:=HFswz.out.fr 4
    clear hX1 HX hq0 hq1 hlp
    go_wp2_with fail
    go_still_tail 12,(by kernel_rfl)
    change wpList _ _ _ _ _ wv.drew
    go_wp2_with fail
    have F5:=put5_fb HFswz.out (.int .u8 4) (.int .u32 (was+q0)) (.int .u8 (q1 % 256)) (.slice (some ⟨bp,op,none⟩) p.length c') (.int .i64 0)
    have Hb5:Below w.heap.size w (put5 wz gs (.int .u8 4) (.int .u32 (was+q0)) (.int .u8 (q1 % 256)) (.slice (some ⟨bp,op,none⟩) p.length c') (.int .i64 0)):=put5_below hbwz _ _ _ _ _ _ Hgs.out
    have HO5:(put5 wz gs (.int .u8 4) (.int .u32 (was+q0)) (.int .u8 (q1 % 256)) (.slice (some ⟨bp,op,none⟩) p.length c') (.int .i64 0)).ownsRow w.heap.size 120 3 (.slice (some ⟨bp,op,none⟩) p.length c') p.length (rns p):=own_put5 HOwz.out HFswz.out
    change bodyPost _ _ _ _ _ (put5 wz gs (.int .u8 4) (.int .u32 (was+q0)) (.int .u8 (q1 % 256)) (.slice (some ⟨bp,op,none⟩) p.length c') (.int .i64 0))
    generalize put5 wz gs (.int .u8 4) (.int .u32 (was+q0)) (.int .u8 (q1 % 256)) (.slice (some ⟨bp,op,none⟩) p.length c') (.int .i64 0)=W at F5 Hb5 HO5 ⊢
    obtain⟨v0,v1,v2,v3,v4⟩:=F5.cells
    refine bodyPost_ret (v:=opv 4 (was+q0) (q1 % 256) (some ⟨bp,op,none⟩) p.length c' 0) (by simp [results,Tryz.results192,go_sem,v0,v1,v2,v3,v4]) rfl ?_
    exact⟨_,c',by rw [Hwo.out],by rw [Hwo.out];exact HO5,Hb5⟩
end Go.Proofs.YtmkpfdcnikgokaaGreat
