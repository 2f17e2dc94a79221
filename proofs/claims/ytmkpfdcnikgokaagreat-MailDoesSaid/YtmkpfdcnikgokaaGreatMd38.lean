/-
  Texts of this claim, put together: CodeWhole. What each theorem asks stands in its statement.
-/
import Derived.StillTailTactics
import Derived.Test.YtmkpfdcnikgokaaGreatMd3
import Derived.Test.YtmkpfdcnikgokaaGreatMd8
import Derived.Test.YtmkpfdcnikgokaaGreatMd31
import Derived.Test.YtmkpfdcnikgokaaGreatMd37
set_option linter.unusedVariables false
set_option linter.unusedSimpArgs false
set_option maxRecDepth 100000
set_option maxHeartbeats 25600000
namespace Go.Proofs.YtmkpfdcnikgokaaGreat
open Go.RowKit
theorem Lk {P:Program} (w:World) {ops:Array Oper} {rest:List Oper} {o:Oper} {a:Act} {Q:Exit->Act->World->Prop} (CL:o.guard=none) (s x:Operand) (t:TypeId)
 (ho:o.op= .call { callee:= .builtin .append,args:=#[s,x],argTypes:=#[t,t] })
 (aa:Nat) (e:TypeId) (i:TypeInfo) (z:Value) (size bytes:Nat) (ht:P.underlying t=some (.slice e)) (hi:P.info? e=some i) (hz:i.zero=some z)
 (jw:i.size=size) (ss:i.bytes=bytes) (CC:z.cells.size=size) (ay:0 < size)
 (v:Value) (n:Nat) (xs:List Value) (hs:a.eval s=v) (ah:w.ownsRow aa e size v n xs)
 (B:Nat) (A:Option Addr) (m c:Nat) (news:List Value) (hx:a.eval x= .slice A m c) (hr:RD w B size A m news) (h1:∀ u∈news,u.oneCell'=true)
 (uk:n+m<=1073741824) (fm:bytes<=65536) (ao:aa<=w.heap.size)
 (h:∀ v' w',w'.ownsRow aa e size v' (n+m) (xs++news)->Below aa w w'->w.grownBy w' v.ownBlock->wpList P ops Q rest (a.put o.dst v') w'):wpList P ops Q (o :: rest) a w:=by
 refine wpList_plain CL fun K hK=>?_;have de:(n+m) * bytes<=140737488355328:=by
  have:(n+m) * bytes<=(n+m) * 65536:=Nat.mul_le_mul_left _ fm;omega
 obtain⟨v',w',je,h2,h3⟩:=Ej (P:=P) w aa t o.type e i z size bytes ht hi hz jw ss CC ay v n xs ah B A m c news hr h1 (by unfold maxLen;omega) de ao;unfold Oper.wp execOp;simp only [ho,resolve,invoke,builtin,Sem.run_bind,Sem.run_pure,Result.andThen_ok,List.map_toArray,List.map_cons,List.map_nil,hs,hx,je];exact hK _ _ (h v' w' h2 (E8 ah h3 ao) h3)
theorem FB.grown {w w':World} {g aa n:Nat} {k t r s z v:Value} {L:List Value} (h:FB w g k t r s z) (ah:w.ownsRow aa 120 3 v n L) (hg:w.grownBy w' v.ownBlock):FB w' g k t r s z:=by
 refine (hg.block g h.lt fun e=>?_).trans h;rcases ah.2 with⟨rfl,-⟩ | ⟨q,cap,bh,rfl,h2,h3,h4⟩
 ·cases e
 ·have:g=q:=Option.some.inj e;unfold FB at h;rw [this,h3] at h;simp at h
theorem XB.grown {w w':World} {g:Nat} {a b c v:Value} (h:XB w g a b c) (hg:w.grownBy w' v.ownBlock) (hv:∀ k,v.ownBlock=some k->k < g):XB w' g a b c:=
 (hg.block g (Array.getElem?_eq_some_iff.1 h).1 fun e=>Nat.lt_irrefl _ (hv g e.symm)).trans h
theorem XB.other {w:World} {g:Nat} {a b c:Value} (h:XB w g a b c) {g':Nat} (ak:g≠g') (off:Nat) (v:Value):XB (w.setCell ⟨g',off,none⟩ v) g a b c:=(heap_setCell_other _ _ _ _ ak).trans h
theorem Aal (k:Int) (A1 A2:Option Addr) (n c1 c2 m:Nat) (L X:List Int) (w:World) (hr:RN w w.heap.size A1 L) (hn:L.length=n) (hm:n=3 * m) (EK:1<=m) (vu:m<=64) (hL:∀ x∈L,0<=x/\x<=1073741824) (hf:D3 0 L)
 (hs:RN w w.heap.size A2 X) (hX:X.length=Dl k) (hX9:∀ x∈X,0<=x/\x<=1073741824) (hk1:1<=k) (th:k<=4):
 Calls Tryz.prog 192 #[.int .i64 k,.slice A1 n c1,.slice A2 X.length c2] w fun e w'=>∃ A' c',e= .returned (Gq (Ck k L X).1 (Ck k L X).2.1 (Ck k L X).2.2.1 A' (Ck k L X).2.2.2.1.length c' (Ck k L X).2.2.2.2)/\
  w'.ownsRow w.heap.size 120 3 (.slice A' (Ck k L X).2.2.2.1.length c') (Ck k L X).2.2.2.1.length (Ed (Ck k L X).2.2.2.1)/\Below w.heap.size w w':=by
 obtain⟨i0,cr,cb,cu,cq⟩:=info_parts Tm;have HL:=Aa hL;have Hn:=Aa hn;have HX9:=Aa hX9;have HS:=Aa hs;have HX:=Aa hX;have Hm:=Aa hm;have Hf:=Aa hf;obtain⟨b0,o0,rfl,hB,hC⟩:=RN.cell hr (by omega);have HC:=Aa hC;have AF:(n:Int)<=192:=by omega
 obtain⟨w1,au,F1,af,ac⟩:=Cv w (.int .u8 0) (.int .u32 0) (.int .u8 0) (.slice none 0 0) (.int .i64 0);obtain⟨w2,fc,F2,cd,ae⟩:=Cv w1 (.int .u8 k) (.int .u32 0) (.int .u8 0) (.slice none 0 0) (.int .i64 0);have al:=Ad ac ae;obtain⟨gs,kt⟩:∃ g,g=w.heap.size:=⟨_,rfl⟩;obtain⟨go,uj⟩:∃ g,g=w1.heap.size:=⟨_,rfl⟩;rw [<-kt] at F1;rw [<-uj] at F2;have az:=Aa (F1.below ae);have db:=Aa F2;have ml:=Aa (show w.heap.size<=gs by rw [kt];exact Nat.le_refl _);have kf:=Aa (show w.heap.size<=go by rw [uj];exact ac.size);have dh:=Aa (show gs≠go by rw [kt,uj];omega);have hku:IntKind.u8.wrap k=k:=by simp [IntKind.wrap,IntKind.bits,IntKind.signed];omega
 have GA:=Aa fc;clear hL hn hX9 hs hX hm hf hr hC F1 F2 fc;go_enter Tryz.func192,Tryz.ntmps192;go_wp2_with fail;rw [GA.out,<-uj,<-kt];clear au GA kt uj ac ae af cd
 go_loopw [8,9] (fun v i wr=>∃ (j:Nat) (was:Int) (p:List Rn) (A':Option Addr) (c':Nat),j<=m/\i= .int .i64 ((3 * j:Nat):Int)/\v= .int .i64 was/\0<=was/\was<=1073741824/\p.length=j/\
  Hid (FB wr gs (.int .u8 0) (.int .u32 0) (.int .u8 0) (.slice none 0 0) (.int .i64 0))/\Hid (FB wr go (.int .u8 k) (.int .u32 0) (.int .u8 0) (.slice A' (List.length (α:=Rn) p) c') (.int .i64 0))/\
  Hid (wr.ownsRow w.heap.size 120 3 (.slice A' (List.length (α:=Rn) p) c') p.length (Ed p))/\Hid (Cd 0 L=p++Cd was (L.drop (3 * j))/\D3 was (L.drop (3 * j))/\was=B4 0 p)/\Below w.heap.size w wr) (fun _ i _=>n - (intOf i).toNat)
 case atStart=>exact⟨0,0, [],none,0,by omega,rfl,rfl,by decide,by decide,rfl,az,db,Aa (World.ownsRow_nil _ _ _ _),Aa ⟨rfl,Hf.out,rfl⟩,al⟩
 case round=>
  obtain⟨j,was,p,A',c',hj,rfl,rfl,ZX,dq,nc,YF,IC,hO,hG,hb⟩:=hrel;clear az db al;have hm:=Hm.out;by_cases ai:j < m
  ·have h3:3 * j+2 < L.length:=by rw [Hn.out];omega
   obtain⟨i,hi⟩:∃ i,i=3 * j:=⟨_,rfl⟩;rw [<-hi] at hG h3 |-;obtain⟨d,hd⟩:∃ x,L[i]=x:=⟨_,rfl⟩;obtain⟨r,hr⟩:∃ x,L[i+1]=x:=⟨_,rfl⟩;obtain⟨x,hx⟩:∃ x,L[i+2]=x:=⟨_,rfl⟩;have bd:=HL.out L[i] (List.getElem_mem (by omega));have br:=HL.out L[i+1] (List.getElem_mem (by omega));have bx:=HL.out L[i+2] (List.getElem_mem (by omega));have BG:L.drop i=d :: r :: x :: L.drop (i+3):=by
    rw [List.drop_eq_getElem_cons (by omega),List.drop_eq_getElem_cons (by omega),List.drop_eq_getElem_cons (by omega),hd,hr,hx]
   rw [BG] at hG;have e0:=HC.out i (by omega);have e1:=HC.out (i+1) (by omega);have e2:=HC.out (i+2) (by omega);rw [hd] at e0 bd;rw [hr] at e1 br;rw [hx] at e2 bx;replace e0:=Ac hb hB e0;replace e1:=Ac hb hB e1;replace e2:=Ac hb hB e2;have z0:(i:Int)+2 < n:=by have:=Hn.out;omega
   have z1:(i:Int)+1 < n:=by omega
   have z2:(i:Int) < n:=by omega
   have z3:(0:Int)<=i:=by omega
   have z4:(0:Int)<=(i:Int)+1:=by omega
   have z5:(0:Int)<=(i:Int)+2:=by omega
   have z6:((i:Int)+1).toNat=i+1:=by omega
   have z7:((i:Int)+2).toNat=i+2:=by omega
   have w1':IntKind.i64.wrap ((i:Int)+1)=(i:Int)+1:=IntWalk.i64_in _ (by omega);have w2':IntKind.i64.wrap ((i:Int)+2)=(i:Int)+2:=IntWalk.i64_in _ (by omega);have w3':IntKind.i64.wrap ((i:Int)+3)=(i:Int)+3:=IntWalk.i64_in _ (by omega);obtain⟨bd1,bd2⟩:=bd;obtain⟨br1,br2⟩:=br;obtain⟨bx1,bx2⟩:=bx;obtain⟨q1,q2,q3,q4,q5,q6⟩:=hG.out.2.1;have w4':IntKind.i64.wrap (was+d)=was+d:=IntWalk.i64_in _ (by omega);have w5':IntKind.u32.wrap (was+d)=was+d:=IntWalk.u32_in _ (by omega);have w6':IntKind.u8.wrap r=r:=by simp [IntKind.wrap,IntKind.bits,IntKind.signed];omega
   have HGn:=Aa (show Cd 0 L=(p++ [(was+d,r,x)])++Cd (was+d+x - 1) (L.drop (i+3))/\D3 (was+d+x - 1) (L.drop (i+3))/\was+d+x - 1=B4 0 (p++ [(was+d,r,x)]) by
    refine⟨?_,q6,by rw [Nc]⟩
    rw [hG.out.1]
    simp [Cd])
   have Hi:=Aa hi;have YD:b0 < wr.heap.size:=Nat.lt_of_lt_of_le hB hb.size;clear hd hr hx BG h3 hi hm hG;go_wp2_with fail
   go_region_held3 (fun w'=>w'.cell? ⟨b0,o0+i,none⟩=some (.int .i64 d)/\w'.cell? ⟨b0,o0+(i+1),none⟩=some (.int .i64 r)/\w'.cell? ⟨b0,o0+(i+2),none⟩=some (.int .i64 x)) (go_keep) (fail)
   obtain⟨wx,AB⟩:∃ wx,(wr.alloc (.cells #[.int .u32 (was+d),.int .u8 r,.int .i64 x] 120)).drew=wx:=⟨_,rfl⟩;have el:Below wr.heap.size wr wx:=by rw [<-AB];exact (Bf _ _).drew
   have IG:=Aa (show XB wx wr.heap.size (.int .u32 (was+d)) (.int .u8 r) (.int .i64 x) by rw [<-AB];exact heap_alloc_new _ _);obtain⟨gx,an⟩:∃ g,g=wr.heap.size:=⟨_,rfl⟩;have qm:go < wr.heap.size:=IC.out.lt;have av:=Aa (And.intro (show go≠gx by rw [an];omega) (show ∀ k,(Value.slice A' p.length c').ownBlock=some k->k < gx from fun k hk=>by rw [an];exact (hO.out.lt k hk).2));rw [AB];rw [<-an] at IG |-;have lh:=Ad hb el;have HFsx:=Aa (YF.out.below el);have HFox:=Aa (IC.out.below el);have OH:=Aa (Ai hO.out el (Nat.le_refl _));obtain⟨x0,x1',x2'⟩:=IG.out.cells;obtain⟨p0,p1,p2,p3,p4⟩:=HFox.out.cells;obtain⟨wy,hwy,FY,hsy,ss⟩:=Fh wx (.int .u32 (was+d)) (.int .u8 r) (.int .i64 x);have HFsy:=Aa (HFsx.out.below ss);have HFoy:=Aa (HFox.out.below ss);have HFXy:=Aa (IG.out.below ss);have pa:=Ai OH.out ss (Nat.le_refl _);have HOY:=Aa pa;have KZ:=Ad lh ss;have jf:RD wy wy.heap.size 3 (some ⟨wx.heap.size,0,none⟩) 1 (Ed [(was+d,r,x)]):=by rw [<-hwy];exact Xp (was+d) r x wx
   have ay:p.length+1<=1073741824:=by omega
   have WD:w.heap.size<=wy.heap.size:=KZ.size;have HB:=Aa hb;have ls:=Aa nc;clear FY YF IC hO AB an el lh hb nc qm;go_wp2_with (at_builtin;refine Lk _ rfl (.tmp 42) (.tmp 44) 102 rfl w.heap.size 120 i0 (.agg #[.int .u32 0,.int .u8 0,.int .i64 0]) 3 16 Tryz.underlying102 cr cb cu cq rfl (by decide) _ p.length (Ed p) rfl pa wy.heap.size (some ⟨wx.heap.size,0,none⟩) 1 1 (Ed [(was+d,r,x)]) rfl jf (Mh _) ay (by decide) WD ?_;intro v9 w9 ev ez TZ;obtain⟨A9,c9,rfl,-,-,-⟩:=Ao ev;have PU:=Aa (HFoy.out.grown HOY.out TZ);have HFs9:=Aa (HFsy.out.grown HOY.out TZ);have HX9':=Aa (HFXy.out.grown TZ av.out.2);obtain⟨lk,nm⟩:∃ lk,w9.setCell ⟨go,3,none⟩ (.slice A9 (p.length+1) c9)=lk:=⟨_,rfl⟩;have HXX:=Aa (show XB lk gx (.int .u32 (was+d)) (.int .u8 r) (.int .i64 x) by rw [<-nm];exact HX9'.out.other (fun e=>av.out.1 e.symm) 3 _);obtain⟨y0,y1,y2⟩:=HXX.out.cells;obtain⟨NR,o1,o2,o3,o4⟩:=PU.out.cells;have f3:=PU.out.fr 3);have hb010:Below w.heap.size w lk:=by rw [<-nm];exact (KZ.trans ez).setCell kf.out _
   have HFo10:=Aa (show FB lk go (.int .u8 k) (.int .u32 0) (.int .u8 0) (.slice A9 (p.length+1) c9) (.int .i64 0) by rw [<-nm];exact PU.out.set3 _);have HFs10:=Aa (show FB lk gs (.int .u8 0) (.int .u32 0) (.int .u8 0) (.slice none 0 0) (.int .i64 0) by rw [<-nm];exact HFs9.out.other dh.out 3 _);have om:=Aa (show lk.ownsRow w.heap.size 120 3 (.slice A9 (p.length+1) c9) (p.length+1) (Ed (p++ [(was+d,r,x)])) by rw [<-nm,Px];exact K3 ev PU.out 3 _);refine (Ud (was+d) r x lk (by omega) (by omega) (by omega) (by omega)).mono ?_;rintro e ra ⟨rfl,pq⟩;have hb011:=Ad hb010 pq;clear y0 y1 y2 NR o1 o2 o3 o4 f3 nm ev ez TZ;go_wp2_with fail;go_roundw
   case rel=>
    have e3:3 * (j+1)=i+3:=by have:=Hi.out;omega
    refine⟨j+1,was+d+x - 1,p++ [(was+d,r,x)],A9,c9,by omega,by rw [e3];go_num,by go_num,by omega,by omega,by rw [List.length_append,ls.out];rfl,Aa (HFs10.out.below pq),Aa ?_,Aa ?_,?_,hb011⟩
    ·rw [List.length_append,List.length_singleton];exact HFo10.out.below pq
    ·rw [List.length_append,List.length_singleton];exact Ai om.out pq (Nat.le_refl _)
    ·rw [e3];exact HGn
   case measure=>
    have:=Hi.out;have:=Hm.out;simp [intOf];omega
  ·have NZ:j=m:=by omega
   have hp:Cd 0 L=p:=by
    rw [hG.out.1,List.drop_eq_nil_of_le (by rw [Hn.out];omega)];simp [Cd]
   have EG:=hG.out.2.2;have fc:B4 0 (Cd 0 L)=was:=by rw [hp,EG]
   have NW:0 < p.length:=by omega
   obtain⟨bp,op,rfl,hBp,hCp⟩:=RR.cell (RR.of_own hO.out rfl) NW;obtain⟨d0,d1,d2⟩:=hCp (p.length - 1) (by omega);obtain⟨t9,ht9⟩:∃ q,p[p.length - 1].1=q:=⟨_,rfl⟩;obtain⟨r9,hr9⟩:∃ q,p[p.length - 1].2.1=q:=⟨_,rfl⟩;obtain⟨x9,hx9⟩:∃ q,p[p.length - 1].2.2=q:=⟨_,rfl⟩;rw [ht9] at d0;rw [hr9] at d1;rw [hx9] at d2;have FI:(p.getLastD (0,0,0)).2.1=r9:=by
    rw [<-hr9,List.getLastD_eq_getLast?,List.getLast?_eq_getElem?,List.getElem?_eq_getElem (by omega)];rfl
   have pb:=Aa (And.intro hp (And.intro fc FI));have ls:=Aa nc;obtain⟨i,hi⟩:∃ i,i=3 * j:=⟨_,rfl⟩;rw [<-hi];have z0:¬ (i:Int)+2 < n:=by omega
   have w2':IntKind.i64.wrap ((i:Int)+2)=(i:Int)+2:=IntWalk.i64_in _ (by omega);have y1:(1:Int)<=p.length:=by omega
   have y2:(0:Int)<=(p.length:Int) - 1:=by omega
   have y3:(p.length:Int) - 1 < p.length:=by omega
   have y4:((p.length:Int) - 1).toNat=p.length - 1:=by omega
   have y5:IntKind.i64.wrap ((p.length:Int) - 1)=(p.length:Int) - 1:=IntWalk.i64_in _ (by omega);have y6:IntKind.u32.wrap was=was:=IntWalk.u32_in _ (by omega);have qm:go < wr.heap.size:=IC.out.lt;clear hG hp EG fc FI ht9 hr9 hx9 hCp hi hm NZ nc;have hkk:k=1\/k=2\/k=3\/k=4:=by omega
   rcases hkk with rfl | rfl | rfl | rfl
   ·obtain⟨wl,QB,FL,sh,kv⟩:=Fh wr (.int .u32 t9) (.int .u8 r9) (.int .i64 x9);have DT:=Ad hb kv;have l6:=Aa (IC.out.below kv);have Do:=Aa (YF.out.below kv);have VD:=Aa (Ai hO.out kv (Nat.le_refl _));obtain⟨l0,l1',l2⟩:=FL.cells;obtain⟨NR,o1,o2,o3,o4⟩:=IC.out.cells;have e0':=Ac kv qm NR;have UT:=Ac kv qm o1;have US:=Ac kv qm o2;have f1:=l6.out.fr 1;have f2:=l6.out.fr 2;obtain⟨wv,xu⟩:∃ wv,(wl.setCell ⟨go,1,none⟩ (.int .u32 was)).setCell ⟨go,2,none⟩ (.int .u8 r9)=wv:=⟨_,rfl⟩;have mo:=Aa (show FB wv go (.int .u8 1) (.int .u32 was) (.int .u8 r9) (.slice (some ⟨bp,op,none⟩) p.length c') (.int .i64 0) by rw [<-xu];exact l6.out.set12 _ _);have qu:=Aa (show FB wv gs (.int .u8 0) (.int .u32 0) (.int .u8 0) (.slice none 0 0) (.int .i64 0) by rw [<-xu];exact (Do.out.other dh.out 1 _).other dh.out 2 _);have VC:=Aa (show wv.ownsRow w.heap.size 120 3 (.slice (some ⟨bp,op,none⟩) p.length c') p.length (Ed p) by rw [<-xu];exact D5 VD.out l6.out _ _);have iu:Below w.heap.size w wv:=by rw [<-xu];exact (DT.setCell kf.out _).setCell kf.out _
    have hX1:X.length=1:=HX.out;obtain⟨b2,o2',n7,ER,x8⟩:=RN.cell HS.out (by omega);have c0:=x8 0 (by omega);obtain⟨q0,AD⟩:∃ q,X[0]=q:=⟨_,rfl⟩;rw [AD,Nat.add_zero] at c0
    have JT:=Aa (show Ck 1 L X=(1,was,r9,p,q0) by
     unfold Ck
     rw [if_neg (by decide),if_neg (by decide),if_pos rfl,pb.out.2.1,pb.out.1,pb.out.2.2]
     have:X.getD 0 0=q0:=by rw [List.getD_eq_getElem?_getD,List.getElem?_eq_getElem (by omega),AD];rfl
     rw [this])
    subst n7;replace c0:=Ac iu ER c0;have hX1':(X.length:Int)=1:=by omega
    obtain⟨p0,p1,p2,p3,p4⟩:=mo.out.cells;have g4:=mo.out.fr 4;obtain⟨wz,BN⟩:∃ wz,wv.setCell ⟨go,4,none⟩ (.int .i64 q0)=wz:=⟨_,rfl⟩;have BM:=Aa (show FB wz go (.int .u8 1) (.int .u32 was) (.int .u8 r9) (.slice (some ⟨bp,op,none⟩) p.length c') (.int .i64 q0) by rw [<-BN];exact mo.out.set4 _);have dw:=Aa (show FB wz gs (.int .u8 0) (.int .u32 0) (.int .u8 0) (.slice none 0 0) (.int .i64 0) by rw [<-BN];exact qu.out.other dh.out 4 _);have LU:=Aa (show wz.ownsRow w.heap.size 120 3 (.slice (some ⟨bp,op,none⟩) p.length c') p.length (Ed p) by rw [<-BN];exact K3 VC.out mo.out 4 _);have LA:Below w.heap.size w wz:=by rw [<-BN];exact iu.setCell kf.out _
    obtain⟨q0',q1,q2,q3,q4⟩:=BM.out.cells;obtain⟨s0,s1,s2,s3,s4⟩:=dw.out.cells;have h0:=dw.out.fr 0;have h1:=dw.out.fr 1;have h2:=dw.out.fr 2;have h3:=dw.out.fr 3;have h4:=dw.out.fr 4;clear hX1 HX AD NW;go_wp2_with fail;have F5:=El dw.out (.int .u8 1) (.int .u32 was) (.int .u8 r9) (.slice (some ⟨bp,op,none⟩) p.length c') (.int .i64 q0);have tm:Below w.heap.size w (Di wz gs (.int .u8 1) (.int .u32 was) (.int .u8 r9) (.slice (some ⟨bp,op,none⟩) p.length c') (.int .i64 q0)):=Cm LA _ _ _ _ _ _ ml.out;have jm:(Di wz gs (.int .u8 1) (.int .u32 was) (.int .u8 r9) (.slice (some ⟨bp,op,none⟩) p.length c') (.int .i64 q0)).ownsRow w.heap.size 120 3 (.slice (some ⟨bp,op,none⟩) p.length c') p.length (Ed p):=Fi LU.out dw.out;change bodyPost _ _ _ _ _ (Di wz gs (.int .u8 1) (.int .u32 was) (.int .u8 r9) (.slice (some ⟨bp,op,none⟩) p.length c') (.int .i64 q0));generalize Di wz gs (.int .u8 1) (.int .u32 was) (.int .u8 r9) (.slice (some ⟨bp,op,none⟩) p.length c') (.int .i64 q0)=W at F5 tm jm |-;obtain⟨v0,v1,v2,v3,v4⟩:=F5.cells;refine bodyPost_ret (v:=Gq 1 was r9 (some ⟨bp,op,none⟩) p.length c' q0) (by simp [results,Tryz.results192,go_sem,v0,v1,v2,v3,v4]) rfl ?_;exact⟨(some ⟨bp,op,none⟩),c',by rw [JT.out],by rw [JT.out];exact jm,tm⟩
   ·obtain⟨wl,QB,FL,sh,kv⟩:=Fh wr (.int .u32 t9) (.int .u8 r9) (.int .i64 x9);have DT:=Ad hb kv;have l6:=Aa (IC.out.below kv);have Do:=Aa (YF.out.below kv);have VD:=Aa (Ai hO.out kv (Nat.le_refl _));obtain⟨l0,l1',l2⟩:=FL.cells;obtain⟨NR,o1,o2,o3,o4⟩:=IC.out.cells;have e0':=Ac kv qm NR;have UT:=Ac kv qm o1;have US:=Ac kv qm o2;have f1:=l6.out.fr 1;have f2:=l6.out.fr 2;obtain⟨wv,xu⟩:∃ wv,(wl.setCell ⟨go,1,none⟩ (.int .u32 was)).setCell ⟨go,2,none⟩ (.int .u8 r9)=wv:=⟨_,rfl⟩;have mo:=Aa (show FB wv go (.int .u8 2) (.int .u32 was) (.int .u8 r9) (.slice (some ⟨bp,op,none⟩) p.length c') (.int .i64 0) by rw [<-xu];exact l6.out.set12 _ _);have qu:=Aa (show FB wv gs (.int .u8 0) (.int .u32 0) (.int .u8 0) (.slice none 0 0) (.int .i64 0) by rw [<-xu];exact (Do.out.other dh.out 1 _).other dh.out 2 _);have VC:=Aa (show wv.ownsRow w.heap.size 120 3 (.slice (some ⟨bp,op,none⟩) p.length c') p.length (Ed p) by rw [<-xu];exact D5 VD.out l6.out _ _);have iu:Below w.heap.size w wv:=by rw [<-xu];exact (DT.setCell kf.out _).setCell kf.out _
    have JT:=Aa (show Ck 2 L X=(2,was,r9,p,0) by
     unfold Ck
     rw [if_neg (by decide),if_neg (by decide),if_neg (by decide),pb.out.2.1,pb.out.1,pb.out.2.2])
    obtain⟨q0',q1,q2,q3,q4⟩:=mo.out.cells;obtain⟨s0,s1,s2,s3,s4⟩:=qu.out.cells;have h0:=qu.out.fr 0;have h1:=qu.out.fr 1;have h2:=qu.out.fr 2;have h3:=qu.out.fr 3;have h4:=qu.out.fr 4;clear HX NW;go_wp2_with fail;have F5:=El qu.out (.int .u8 2) (.int .u32 was) (.int .u8 r9) (.slice (some ⟨bp,op,none⟩) p.length c') (.int .i64 0);have tm:Below w.heap.size w (Di wv gs (.int .u8 2) (.int .u32 was) (.int .u8 r9) (.slice (some ⟨bp,op,none⟩) p.length c') (.int .i64 0)):=Cm iu _ _ _ _ _ _ ml.out;have jm:(Di wv gs (.int .u8 2) (.int .u32 was) (.int .u8 r9) (.slice (some ⟨bp,op,none⟩) p.length c') (.int .i64 0)).ownsRow w.heap.size 120 3 (.slice (some ⟨bp,op,none⟩) p.length c') p.length (Ed p):=Fi VC.out qu.out;change bodyPost _ _ _ _ _ (Di wv gs (.int .u8 2) (.int .u32 was) (.int .u8 r9) (.slice (some ⟨bp,op,none⟩) p.length c') (.int .i64 0));generalize Di wv gs (.int .u8 2) (.int .u32 was) (.int .u8 r9) (.slice (some ⟨bp,op,none⟩) p.length c') (.int .i64 0)=W at F5 tm jm |-;obtain⟨v0,v1,v2,v3,v4⟩:=F5.cells;refine bodyPost_ret (v:=Gq 2 was r9 (some ⟨bp,op,none⟩) p.length c' 0) (by simp [results,Tryz.results192,go_sem,v0,v1,v2,v3,v4]) rfl ?_;exact⟨(some ⟨bp,op,none⟩),c',by rw [JT.out],by rw [JT.out];exact jm,tm⟩
   ·obtain⟨wl,QB,FL,sh,kv⟩:=Fh wr (.int .u32 t9) (.int .u8 r9) (.int .i64 x9);have DT:=Ad hb kv;have l6:=Aa (IC.out.below kv);have Do:=Aa (YF.out.below kv);have VD:=Aa (Ai hO.out kv (Nat.le_refl _));obtain⟨l0,l1',l2⟩:=FL.cells;obtain⟨NR,o1,o2,o3,o4⟩:=IC.out.cells;have e0':=Ac kv qm NR;have UT:=Ac kv qm o1;have US:=Ac kv qm o2;have f1:=l6.out.fr 1;have f2:=l6.out.fr 2;obtain⟨wv,xu⟩:∃ wv,(wl.setCell ⟨go,1,none⟩ (.int .u32 was)).setCell ⟨go,2,none⟩ (.int .u8 r9)=wv:=⟨_,rfl⟩;have mo:=Aa (show FB wv go (.int .u8 3) (.int .u32 was) (.int .u8 r9) (.slice (some ⟨bp,op,none⟩) p.length c') (.int .i64 0) by rw [<-xu];exact l6.out.set12 _ _);have qu:=Aa (show FB wv gs (.int .u8 0) (.int .u32 0) (.int .u8 0) (.slice none 0 0) (.int .i64 0) by rw [<-xu];exact (Do.out.other dh.out 1 _).other dh.out 2 _);have VC:=Aa (show wv.ownsRow w.heap.size 120 3 (.slice (some ⟨bp,op,none⟩) p.length c') p.length (Ed p) by rw [<-xu];exact D5 VD.out l6.out _ _);have iu:Below w.heap.size w wv:=by rw [<-xu];exact (DT.setCell kf.out _).setCell kf.out _
    have hX1:X.length=2:=HX.out;obtain⟨b2,o2',n7,ER,x8⟩:=RN.cell HS.out (by omega);have c0:=x8 0 (by omega);have UU:=x8 1 (by omega);have bq0:=HX9.out X[0] (List.getElem_mem (by omega));have bq1:=HX9.out X[1] (List.getElem_mem (by omega));obtain⟨q0,AD⟩:∃ q,X[0]=q:=⟨_,rfl⟩;obtain⟨q1,NE⟩:∃ q,X[1]=q:=⟨_,rfl⟩;rw [AD,Nat.add_zero] at c0;rw [NE] at UU;rw [AD] at bq0;rw [NE] at bq1;obtain⟨bq01,bq02⟩:=bq0;obtain⟨bq11,bq12⟩:=bq1
    have JT:=Aa (show Ck 3 L X=(3,was+q0,q1 % 256,p,0) by
     unfold Ck
     rw [if_pos (by decide),if_pos (by decide),if_neg (by decide),pb.out.2.1,pb.out.1]
     have h0:X.getD 0 0=q0:=by rw [List.getD_eq_getElem?_getD,List.getElem?_eq_getElem (by omega),AD];rfl
     have h1:X.getD 1 0=q1:=by rw [List.getD_eq_getElem?_getD,List.getElem?_eq_getElem (by omega),NE];rfl
     rw [h0,h1])
    subst n7;replace c0:=Ac iu ER c0;replace UU:=Ac iu ER UU;have hX1':(X.length:Int)=2:=by omega
    have n1:IntKind.i64.wrap (was+q0)=was+q0:=IntWalk.i64_in _ (by omega);have n2:IntKind.u32.wrap (was+q0)=was+q0:=IntWalk.u32_in _ (by omega);have n3:IntKind.u8.wrap q1=q1 % 256:=by simp [IntKind.wrap,IntKind.bits,IntKind.signed]
    obtain⟨p0,p1,p2,p3,p4⟩:=mo.out.cells;have k1:=mo.out.fr 1;have k2:=mo.out.fr 2;obtain⟨wz,BN⟩:∃ wz,((wv.setCell ⟨go,1,none⟩ (.int .u32 (was+q0))).setCell ⟨go,2,none⟩ (.int .u8 (q1 % 256))).drew=wz:=⟨_,rfl⟩;have BM:=Aa (show FB wz go (.int .u8 3) (.int .u32 (was+q0)) (.int .u8 (q1 % 256)) (.slice (some ⟨bp,op,none⟩) p.length c') (.int .i64 0) by rw [<-BN];exact mo.out.set12 _ _);have dw:=Aa (show FB wz gs (.int .u8 0) (.int .u32 0) (.int .u8 0) (.slice none 0 0) (.int .i64 0) by rw [<-BN];exact (qu.out.other dh.out 1 _).other dh.out 2 _);have LU:=Aa (show wz.ownsRow w.heap.size 120 3 (.slice (some ⟨bp,op,none⟩) p.length c') p.length (Ed p) by rw [<-BN];exact D5 VC.out mo.out _ _);have LA:Below w.heap.size w wz:=by rw [<-BN];exact ((iu.setCell kf.out _).setCell kf.out _).drew
    obtain⟨q0',q1',q2,q3,q4⟩:=BM.out.cells;obtain⟨s0,s1,s2,s3,s4⟩:=dw.out.cells;have h0:=dw.out.fr 0;have h1:=dw.out.fr 1;have h2:=dw.out.fr 2;have h3:=dw.out.fr 3;have h4:=dw.out.fr 4;clear hX1 HX AD NE NW;go_wp2_with fail
    go_still_tail 12,(by kernel_rfl)
    change wpList _ _ _ _ _ wv.drew;go_wp2_with fail;have F5:=El dw.out (.int .u8 3) (.int .u32 (was+q0)) (.int .u8 (q1 % 256)) (.slice (some ⟨bp,op,none⟩) p.length c') (.int .i64 0);have tm:Below w.heap.size w (Di wz gs (.int .u8 3) (.int .u32 (was+q0)) (.int .u8 (q1 % 256)) (.slice (some ⟨bp,op,none⟩) p.length c') (.int .i64 0)):=Cm LA _ _ _ _ _ _ ml.out;have jm:(Di wz gs (.int .u8 3) (.int .u32 (was+q0)) (.int .u8 (q1 % 256)) (.slice (some ⟨bp,op,none⟩) p.length c') (.int .i64 0)).ownsRow w.heap.size 120 3 (.slice (some ⟨bp,op,none⟩) p.length c') p.length (Ed p):=Fi LU.out dw.out;change bodyPost _ _ _ _ _ (Di wz gs (.int .u8 3) (.int .u32 (was+q0)) (.int .u8 (q1 % 256)) (.slice (some ⟨bp,op,none⟩) p.length c') (.int .i64 0));generalize Di wz gs (.int .u8 3) (.int .u32 (was+q0)) (.int .u8 (q1 % 256)) (.slice (some ⟨bp,op,none⟩) p.length c') (.int .i64 0)=W at F5 tm jm |-;obtain⟨v0,v1,v2,v3,v4⟩:=F5.cells;refine bodyPost_ret (v:=Gq 3 (was+q0) (q1 % 256) (some ⟨bp,op,none⟩) p.length c' 0) (by simp [results,Tryz.results192,go_sem,v0,v1,v2,v3,v4]) rfl ?_;exact⟨_,c',by rw [JT.out],by rw [JT.out];exact jm,tm⟩
   ·obtain⟨wl,QB,FL,sh,kv⟩:=Fh wr (.int .u32 t9) (.int .u8 r9) (.int .i64 x9);have DT:=Ad hb kv;have l6:=Aa (IC.out.below kv);have Do:=Aa (YF.out.below kv);have VD:=Aa (Ai hO.out kv (Nat.le_refl _));obtain⟨l0,l1',l2⟩:=FL.cells;obtain⟨NR,o1,o2,o3,o4⟩:=IC.out.cells;have e0':=Ac kv qm NR;have UT:=Ac kv qm o1;have US:=Ac kv qm o2;have f1:=l6.out.fr 1;have f2:=l6.out.fr 2;obtain⟨wv,xu⟩:∃ wv,(wl.setCell ⟨go,1,none⟩ (.int .u32 was)).setCell ⟨go,2,none⟩ (.int .u8 r9)=wv:=⟨_,rfl⟩;have mo:=Aa (show FB wv go (.int .u8 4) (.int .u32 was) (.int .u8 r9) (.slice (some ⟨bp,op,none⟩) p.length c') (.int .i64 0) by rw [<-xu];exact l6.out.set12 _ _);have qu:=Aa (show FB wv gs (.int .u8 0) (.int .u32 0) (.int .u8 0) (.slice none 0 0) (.int .i64 0) by rw [<-xu];exact (Do.out.other dh.out 1 _).other dh.out 2 _);have VC:=Aa (show wv.ownsRow w.heap.size 120 3 (.slice (some ⟨bp,op,none⟩) p.length c') p.length (Ed p) by rw [<-xu];exact D5 VD.out l6.out _ _);have iu:Below w.heap.size w wv:=by rw [<-xu];exact (DT.setCell kf.out _).setCell kf.out _
    have hX1:X.length=2:=HX.out;obtain⟨b2,o2',n7,ER,x8⟩:=RN.cell HS.out (by omega);have c0:=x8 0 (by omega);have UU:=x8 1 (by omega);have bq0:=HX9.out X[0] (List.getElem_mem (by omega));have bq1:=HX9.out X[1] (List.getElem_mem (by omega));obtain⟨q0,AD⟩:∃ q,X[0]=q:=⟨_,rfl⟩;obtain⟨q1,NE⟩:∃ q,X[1]=q:=⟨_,rfl⟩;rw [AD,Nat.add_zero] at c0;rw [NE] at UU;rw [AD] at bq0;rw [NE] at bq1;obtain⟨bq01,bq02⟩:=bq0;obtain⟨bq11,bq12⟩:=bq1
    have JT:=Aa (show Ck 4 L X=(4,was+q0,q1 % 256,p,0) by
     unfold Ck
     rw [if_pos (by decide),if_pos (by decide),if_neg (by decide),pb.out.2.1,pb.out.1]
     have h0:X.getD 0 0=q0:=by rw [List.getD_eq_getElem?_getD,List.getElem?_eq_getElem (by omega),AD];rfl
     have h1:X.getD 1 0=q1:=by rw [List.getD_eq_getElem?_getD,List.getElem?_eq_getElem (by omega),NE];rfl
     rw [h0,h1])
    subst n7;replace c0:=Ac iu ER c0;replace UU:=Ac iu ER UU;have hX1':(X.length:Int)=2:=by omega
    have n1:IntKind.i64.wrap (was+q0)=was+q0:=IntWalk.i64_in _ (by omega);have n2:IntKind.u32.wrap (was+q0)=was+q0:=IntWalk.u32_in _ (by omega);have n3:IntKind.u8.wrap q1=q1 % 256:=by simp [IntKind.wrap,IntKind.bits,IntKind.signed]
    obtain⟨p0,p1,p2,p3,p4⟩:=mo.out.cells;have k1:=mo.out.fr 1;have k2:=mo.out.fr 2;obtain⟨wz,BN⟩:∃ wz,((wv.setCell ⟨go,1,none⟩ (.int .u32 (was+q0))).setCell ⟨go,2,none⟩ (.int .u8 (q1 % 256))).drew=wz:=⟨_,rfl⟩;have BM:=Aa (show FB wz go (.int .u8 4) (.int .u32 (was+q0)) (.int .u8 (q1 % 256)) (.slice (some ⟨bp,op,none⟩) p.length c') (.int .i64 0) by rw [<-BN];exact mo.out.set12 _ _);have dw:=Aa (show FB wz gs (.int .u8 0) (.int .u32 0) (.int .u8 0) (.slice none 0 0) (.int .i64 0) by rw [<-BN];exact (qu.out.other dh.out 1 _).other dh.out 2 _);have LU:=Aa (show wz.ownsRow w.heap.size 120 3 (.slice (some ⟨bp,op,none⟩) p.length c') p.length (Ed p) by rw [<-BN];exact D5 VC.out mo.out _ _);have LA:Below w.heap.size w wz:=by rw [<-BN];exact ((iu.setCell kf.out _).setCell kf.out _).drew
    obtain⟨q0',q1',q2,q3,q4⟩:=BM.out.cells;obtain⟨s0,s1,s2,s3,s4⟩:=dw.out.cells;have h0:=dw.out.fr 0;have h1:=dw.out.fr 1;have h2:=dw.out.fr 2;have h3:=dw.out.fr 3;have h4:=dw.out.fr 4;clear hX1 HX AD NE NW;go_wp2_with fail
    go_still_tail 12,(by kernel_rfl)
    change wpList _ _ _ _ _ wv.drew;go_wp2_with fail;have F5:=El dw.out (.int .u8 4) (.int .u32 (was+q0)) (.int .u8 (q1 % 256)) (.slice (some ⟨bp,op,none⟩) p.length c') (.int .i64 0);have tm:Below w.heap.size w (Di wz gs (.int .u8 4) (.int .u32 (was+q0)) (.int .u8 (q1 % 256)) (.slice (some ⟨bp,op,none⟩) p.length c') (.int .i64 0)):=Cm LA _ _ _ _ _ _ ml.out;have jm:(Di wz gs (.int .u8 4) (.int .u32 (was+q0)) (.int .u8 (q1 % 256)) (.slice (some ⟨bp,op,none⟩) p.length c') (.int .i64 0)).ownsRow w.heap.size 120 3 (.slice (some ⟨bp,op,none⟩) p.length c') p.length (Ed p):=Fi LU.out dw.out;change bodyPost _ _ _ _ _ (Di wz gs (.int .u8 4) (.int .u32 (was+q0)) (.int .u8 (q1 % 256)) (.slice (some ⟨bp,op,none⟩) p.length c') (.int .i64 0));generalize Di wz gs (.int .u8 4) (.int .u32 (was+q0)) (.int .u8 (q1 % 256)) (.slice (some ⟨bp,op,none⟩) p.length c') (.int .i64 0)=W at F5 tm jm |-;obtain⟨v0,v1,v2,v3,v4⟩:=F5.cells;refine bodyPost_ret (v:=Gq 4 (was+q0) (q1 % 256) (some ⟨bp,op,none⟩) p.length c' 0) (by simp [results,Tryz.results192,go_sem,v0,v1,v2,v3,v4]) rfl ?_;exact⟨_,c',by rw [JT.out],by rw [JT.out];exact jm,tm⟩
end Go.Proofs.YtmkpfdcnikgokaaGreat
