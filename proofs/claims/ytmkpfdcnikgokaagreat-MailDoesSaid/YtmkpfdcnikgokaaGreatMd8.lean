/-
  Texts of this claim, put together: EyeClock, CodeGetMath. What each theorem asks stands in its statement.
-/
import Derived.Test.YtmkpfdcnikgokaaGreatMd5
import Derived.Test.YtmkpfdcnikgokaaGreatMd7
set_option linter.unusedVariables false
set_option linter.unusedSimpArgs false
set_option maxRecDepth 100000
set_option maxHeartbeats 25600000
namespace Go.Proofs.YtmkpfdcnikgokaaGreat
open Go.RowKit
def Da (w:World) (aa:Nat) (A:Option Addr) (c:Nat) (L:List Aq):Prop:=
 w.ownsRow aa 123 2 (.slice A L.length c) L.length (Td L)/\∀ x∈L,w.ownsRow aa 129 2 (.slice x.A x.s.length x.c) x.s.length (Lp x.s)
theorem Da.below {w w':World} {aa c:Nat} {A:Option Addr} {L:List Aq} (h:Da w aa A c L) (hb:Below w.heap.size w w'):Da w' aa A c L:=
 ⟨Ai h.1 hb (Nat.le_refl _),fun x hx=>Ai (h.2 x hx) hb (Nat.le_refl _)⟩
theorem Da.at {w w':World} {aa c g:Nat} {A:Option Addr} {L:List Aq} (h:Da w aa A c L) (hg:g < aa) (ho:Ah g w w'):Da w' aa A c L:=
 ⟨Fu h.1 hg ho,fun x hx=>Fu (h.2 x hx) hg ho⟩
theorem Da.nil (w:World) (aa:Nat):Da w aa none 0 []:=⟨World.ownsRow_nil _ _ _ _,fun x hx=>by cases hx⟩
theorem Da.less {w:World} {aa B c:Nat} {A:Option Addr} {L:List Aq} (h:Da w aa A c L) (hB:B<=aa):Da w B A c L:=⟨Bq h.1 hB,fun x hx=>Bq (h.2 x hx) hB⟩
theorem Da.rt {w:World} {aa c:Nat} {A:Option Addr} {L:List Aq} (h:Da w aa A c L):RT w w.heap.size A L:=⟨RD.of_own h.1,fun x hx=>RD.of_own (h.2 x hx)⟩
theorem Z4:(Tryz.prog.info? 123).map (fun i=>(i.zero,i.size,i.bytes))=some (some (.agg #[.int .u8 0,.slice none 0 0]),2,32):=by kernel_rfl
theorem R7:(Tryz.prog.info? 129).map (fun i=>(i.zero,i.size,i.bytes))=some (some (.agg #[.int .u32 0,.int .u32 0]),2,8):=by kernel_rfl
theorem Tr (L:List Aq) (y:Aq):Td L++y.cells=Td (L++ [y]):=by rw [V0];simp [Td]
theorem Pd (l:List Sp) (y:Sp):Lp l++ [.int .u32 y.1,.int .u32 y.2]=Lp (l++ [y]):=by rw [V2];simp [Lp]
theorem O7 (w:World) (a b:Value) (T:TypeId):RD (w.alloc (.cells #[a,b] T)) (w.alloc (.cells #[a,b] T)).heap.size 2 (some ⟨w.heap.size,0,none⟩) 1 [a,b]:=by
 refine⟨rfl,fun _=>⟨_,_,rfl,by rw [World.size_alloc];omega,fun j u hu=>?_⟩⟩;rw [Nat.zero_add,World.cell?_alloc_new,<-Array.getElem?_toList];exact hu
theorem Pf {w:World} {aa g size n:Nat} {e T:TypeId} {v:Value} {L:List Value} {a b:Value} (h:w.ownsRow aa e size v n L) (hF:PB w g a b T) (hT:e≠T) (off:Nat) (u:Value):(w.setCell ⟨g,off,none⟩ u).ownsRow aa e size v n L:=by
 refine⟨h.1,?_⟩;rcases h.2 with h0 | ⟨q,cap,bh,h1,h2,h3,h4⟩
 ·exact .inl h0
 ·have ak:q≠g:=by
   intro e;unfold PB at hF;rw [<-e,h3] at hF;simp only [Option.some.injEq,Obj.cells.injEq] at hF;exact hT hF.2.1
  exact .inr ⟨q,cap,bh,h1,h2,(heap_setCell_other _ _ _ _ ak).trans h3,h4⟩
theorem EY.belowB {w w':World} {g B:Nat} {st:ES} (h:EY w g st) (hb:Below B w w') (hg:g < B):EY w' g st:=by
 obtain⟨A,c,h1,h2,h3⟩:=h;exact⟨A,c,(hb.block g hg).trans h1,Gp.below h2 (hb.mono (Nat.le_of_lt hg)),h3⟩
theorem Jc (w:World) {ops:Array Oper} {rest:List Oper} {o:Oper} {a:Act} {Q:Exit->Act->World->Prop} (CL:o.guard=none) (s x:Operand)
 (ho:o.op= .call { callee:= .builtin .append,args:=#[s,x],argTypes:=#[47,47] })
 (aa:Nat) (A:Option Addr) (c n:Nat) (L:List Aq) (hn:L.length=n) (hs:a.eval s= .slice A n c) (hO:Da w aa A c L)
 (y:Aq) (hy:w.ownsRow aa 129 2 (.slice y.A y.s.length y.c) y.s.length (Lp y.s)) (B:Option Addr) (hx:a.eval x= .slice B 1 1) (hr:RD w w.heap.size 2 B 1 y.cells)
 (uk:n+1<=1073741824) (ao:aa<=w.heap.size)
 (h:∀ A' c' w',Da w' aa A' c' (L++ [y])->Below aa w w'->wpList Tryz.prog ops Q rest (a.put o.dst (.slice A' (n+1) c')) w'):wpList Tryz.prog ops Q (o :: rest) a w:=by
 obtain⟨i0,cr,cb,cu,cq⟩:=info_parts Z4;subst hn;refine Ar w CL s x 47 ho aa 123 i0 (.agg #[.int .u8 0,.slice none 0 0]) 2 32 Tryz.underlying47 cr cb cu cq rfl (by decide) _ L.length (Td L) hs hO.1 w.heap.size B 1 1 y.cells hx hr (fun u hu=>Acg [y] u (by simpa [Td] using hu)) uk (by decide) ao fun v' w' h1 h2 h3=>?_;obtain⟨A',c',rfl,-,-,-⟩:=Ao h1;refine h A' c' w' ⟨?_,fun q hq=>?_⟩ h2
 ·rw [<-Tr,List.length_append,List.length_singleton];exact h1
 ·rcases List.mem_append.1 hq with hq | hq
  ·exact Ef (hO.2 q hq) (by decide) h3
  ·simp only [List.mem_singleton] at hq;subst hq;exact Ef hy (by decide) h3
def Fe (bg:List Sp):Nat->Int->ES->Option (List Sp)×ES
 | 0,_,st=>(some bg,st)
 | k+1,was,st=>
   if 1073741824 < was+(An 1073741824 st).1+(An 1073741824 (An 1073741824 st).2).1\/(An 1073741824 (An 1073741824 st).2).2.2=true then (none,((An 1073741824 (An 1073741824 st).2).2.1,true))
   else Fe (bg++ [(was+(An 1073741824 st).1,was+(An 1073741824 st).1+(An 1073741824 (An 1073741824 st).2).1)]) k (was+(An 1073741824 st).1+(An 1073741824 (An 1073741824 st).2).1) (An 1073741824 (An 1073741824 st).2).2
def O9 (K:List PT->ES->List PT×ES) (bg:List PT) (R:Int):Option (List Sp)×ES->List PT×ES
 | (none,st)=>([],st)
 | (some s,st)=>K (bg++ [(R,s)]) st
def Jz:Nat->List PT->ES->List PT×ES
 | 0,bg,st=>(bg,st)
 | k+1,bg,st=>O9 (Jz k) bg (An 7 st).1 (Fe [] (An 1024 (An 7 st).2).1.toNat 0 (An 1024 (An 7 st).2).2)
theorem L6 {bg:List Sp} {k:Nat} {was a b:Int} {st t1 t2:ES} (ha:An 1073741824 st=(a,t1)) (hb:An 1073741824 t1=(b,t2)):
 Fe bg (k+1) was st=if 1073741824 < was+a+b\/t2.2=true then (none,(t2.1,true)) else Fe (bg++ [(was+a,was+a+b)]) k (was+a+b) t2:=by
 simp only [Fe,ha,hb]
theorem L5 {bg:List PT} {k:Nat} {R m:Int} {st r1 r2:ES} (ha:An 7 st=(R,r1)) (hb:An 1024 r1=(m,r2)):
 Jz (k+1) bg st=O9 (Jz k) bg R (Fe [] m.toNat 0 r2):=by
 simp only [Jz,ha,hb]
def D2 (st:ES):List PT×ES:=Jz (An 8 st).1.toNat [] (An 8 st).2
theorem Kj (g:Nat) (st:ES) (w:World) (h:EY w g st) (P:List PT) (s9:ES) (hx:D2 st=(P,s9)):
 Calls Tryz.prog 59 #[.pointer (some ⟨g,0,none⟩)] w fun e w'=>∃ A c L,e= .returned (.slice A (List.length (α:=Aq) L) c)/\L.map Aq.pt=P/\Da w' w.heap.size A c L/\(∀ x∈L,M1 x)/\L.length<=8/\EY w' g s9/\Ah g w w':=by
 obtain⟨i0,cr,cb,cu,cq⟩:=info_parts R7;have ai:=h.lt;have kj:=Aa ai;have fs:=Aa (Nat.le_of_lt ai);unfold D2 at hx;obtain⟨n,s1,h1⟩:∃ x s,An 8 st=(x,s):=⟨_,_,rfl⟩;rw [h1] at hx;simp only at hx;have H1:=Aa h1;have HX:=Aa hx;have HE:=Aa h;clear h1 hx h ai;go_enter Tryz.func59,Tryz.ntmps59;have hmf:∀ (fn:Fn) (first cap:Array Value) (W:World),(Instr.makeFunc fn first cap).run Tryz.prog W= .ok (.func fn first cap) W:=fun _ _ _ _=>rfl;go_wp2_with fail;refine (Dx g 8 st w HE.out n s1 H1.out (by decide)).mono ?_;rintro e w2 ⟨rfl,j9,dy,x0,x1⟩;have m7:=Aa j9;have td:=Aa dy;obtain⟨N,rfl⟩:∃ N:Nat,n=N:=⟨n.toNat,by omega⟩;have DF:=HX;rw [Int.toNat_natCast] at DF;clear j9 dy HX HE;go_wp2_with fail
 go_loopw [2,11] (fun v i wr=>∃ (j:Nat) (A:Option Addr) (c:Nat) (L:List Aq) (sj:ES),j<=N/\i= .int .i64 (j:Int)/\v= .slice A j c/\Hid (L.length=j)/\Hid (Jz (N - j) (L.map Aq.pt) sj=(P,s9))/\Hid (Da wr w.heap.size A c L)/\Hid (∀ x∈L,M1 x)/\Hid (EY wr g sj)/\Hid (Ah g w wr)) (fun _ i _=>N - (intOf i).toNat)
 case atStart=>exact⟨0,none,0, [],s1,by omega,rfl,rfl,Aa rfl,DF,Aa (Da.nil _ _),Aa (fun x hx=>by cases hx),m7,td⟩
 case round=>
  obtain⟨j,A,c,L,sj,hj,rfl,rfl,AQ,HP,HT,HK,mz,tc⟩:=hrel;clear DF m7 td;by_cases ai:j < N
  ·have z0:(j:Int) < N:=by omega
   have BY:=HP;rw [show N - j=(N - (j+1))+1 by omega] at BY;obtain⟨R,r1,hR⟩:∃ x s,An 7 sj=(x,s):=⟨_,_,rfl⟩;obtain⟨m,r2,hm⟩:∃ x s,An 1024 r1=(x,s):=⟨_,_,rfl⟩;rw [L5 hR hm] at BY;have ov:=Aa BY.out;have HR:=Aa hR;have Hm:=Aa hm;clear HP BY hR hm;go_wp2_with fail;refine (Dx g 7 sj wr mz.out R r1 HR.out (by decide)).mono ?_;rintro e w3 ⟨rfl,lm,gj,R0,R1⟩;have gd:=Aa lm;have im:=Aa (tc.out.trans gj);have YJ:=Aa (HT.out.at kj.out gj);have hRu:IntKind.u8.wrap R=R:=by simp [IntKind.wrap,IntKind.bits,IntKind.signed];omega
   obtain⟨w4,eo,F4,NC,aw⟩:=Dr w3 (.int .u8 R) (.slice none 0 0) 123;have DR:=gd.out.lt;obtain⟨gx,an⟩:∃ q,q=w3.heap.size:=⟨_,rfl⟩;have av:=Aa an;have Hg:=Aa (show g < gx by rw [an];exact DR);have me:=Aa (show w.heap.size<=gx by rw [an];exact im.out.1.size);have mf:=Aa (gd.out.below aw);have wk:=Aa (Ah.below aw (Nat.le_of_lt DR));obtain⟨y0,y1⟩:=F4.cells;have g0:=F4.fr 0;have g1:=F4.fr 1;have ca:Hid (PB w4 gx (.int .u8 R) (.slice none 0 0) 123):=Aa (by rw [an];exact F4);have JU:=Aa eo;clear HT tc mz lm gj F4 aw DR an eo y0 y1 g0 g1;go_wp2_with fail;rw [JU.out,<-av.out];clear JU;refine (Dx g 1024 r1 w4 mf.out m r2 Hm.out (by decide)).mono ?_;rintro e w5 ⟨rfl,hE5,qf,m0,m1⟩;have jt:=Aa hE5;have jm:=Aa (wk.out.trans qf);have cl:=Aa (ca.out.only qf (by have:=Hg.out;omega));obtain⟨M,rfl⟩:∃ M:Nat,m=M:=⟨m.toNat,by omega⟩;rw [Int.toNat_natCast] at ov;clear hE5 qf mf wk ca;go_wp2_with fail
   go_loopw [2,5,19] (fun q v i wr=>∃ (k:Nat) (was:Int) (A2:Option Addr) (c2:Nat) (l:List Sp) (sk:ES),q= .slice A j c/\k<=M/\i= .int .i64 (k:Int)/\v= .int .i64 was/\0<=was/\was<=1073741824/\Hid (l.length=k)/\Hid (Fe l (M - k) was sk=Fe [] M 0 r2)/\Hid (PB wr gx (.int .u8 R) (.slice A2 (List.length (α:=Sp) l) c2) 123)/\Hid (wr.ownsRow gx 129 2 (.slice A2 (List.length (α:=Sp) l) c2) l.length (Lp l))/\Hid (∀ x∈l,Zr x)/\Hid (EY wr g sk)/\Hid (Ah g w3 wr)) (fun _ _ i _=>M - (intOf i).toNat)
   case atStart=>exact⟨0,0,none,0, [],r2,rfl,by omega,rfl,rfl,by decide,by decide,Aa rfl,Aa rfl,cl,Aa (World.ownsRow_nil _ _ _ _),Aa (fun x hx=>by cases hx),jt,jm⟩
   case round=>
    obtain⟨k,was,A2,c2,l,sk,rfl,hk,rfl,rfl,ZX,dq,GB,HS,HF,ta,OI,OK,KH⟩:=hrel;clear jt jm cl;by_cases nf:k < M
    ·have z1:(k:Int) < M:=by omega
     have OG:=HS;rw [show M - k=(M - (k+1))+1 by omega] at OG;obtain⟨a,t1,ha⟩:∃ x s,An 1073741824 sk=(x,s):=⟨_,_,rfl⟩;obtain⟨b,t2,hb⟩:∃ x s,An 1073741824 t1=(x,s):=⟨_,_,rfl⟩;rw [L6 ha hb] at OG;have OF:=Aa OG.out;have Ha:=Aa ha;have Hb:=Aa hb;clear HS OG ha hb;go_wp2_with fail;refine (Dx g 1073741824 sk _ OK.out a t1 Ha.out (by decide)).mono ?_;rintro e w6 ⟨rfl,EQ,uh,a0,a1⟩;have iz:=Aa EQ;have fa:=Aa (KH.out.trans uh);have bj:=Aa (HF.out.only uh (by have:=Hg.out;omega));have p8:=Aa (Fu ta.out Hg.out uh);have ha64:IntKind.i64.wrap (was+a)=was+a:=IntWalk.i64_in _ (by omega);clear EQ uh OK KH HF ta;go_wp2_with fail;refine (Dx g 1073741824 t1 w6 iz.out b t2 Hb.out (by decide)).mono ?_;rintro e w7 ⟨rfl,hE7,mi,b0,b1⟩;have kz:=Aa hE7;have kp:=Aa (fa.out.trans mi);have HO7x:=kp;have dg:=Aa (bj.out.only mi (by have:=Hg.out;omega));have oh:=Aa (Fu p8.out Hg.out mi);have hb64:IntKind.i64.wrap (was+a+b)=was+a+b:=IntWalk.i64_in _ (by omega);clear hE7 mi iz fa bj p8;by_cases jv:(1073741824:Int) < was+a+b\/t2.2=true
     ·have HQ:=Aa (show Fe [] M 0 r2=(none,(t2.1,true)) by rw [<-OF.out,if_pos jv])
      have QX:=Aa (show P= []/\s9=(t2.1,true) by
       have:=ov.out
       rw [HQ.out] at this
       simp only [O9,Prod.mk.injEq] at this
       exact⟨this.1.symm,this.2.symm⟩)
      have qy:=Aa (kz.out.setBad true);have jj:=Aa ((im.out.trans HO7x.out).trans (Ah.set g 1 w7 (.bool true)));have f1:=kz.out.fr1;have c1:=kz.out.cell1;obtain⟨bb,ll⟩:∃ q,q=t2.2:=⟨_,rfl⟩;rw [<-ll] at c1;have fu:(1073741824:Int) < was+a+b\/¬ (1073741824:Int) < was+a+b/\bb=true:=by
       by_cases h:(1073741824:Int) < was+a+b
       ·exact .inl h
       ·exact .inr ⟨h,by rw [ll];exact jv.resolve_left h⟩
      clear OF ov HQ YJ OI gd jv ll;rcases fu with fu | ⟨fu,rfl⟩
      all_goals
       go_wp2_with fail;go_ret;exact⟨none,0, [],rfl,QX.out.1.symm,Da.nil _ _,fun x hx=>(by cases hx),Nat.zero_le _,by rw [QX.out.2];exact qy.out,jj.out⟩
     ·obtain⟨hbg,xa⟩:¬ (1073741824:Int) < was+a+b/\t2.2=false:=by
       refine⟨fun h=>jv (.inl h),?_⟩;cases h:t2.2
       ·rfl
       ·exact absurd (.inr h) jv
      have sz:=Aa (show Fe (l++ [(was+a,was+a+b)]) (M - (k+1)) (was+a+b) t2=Fe [] M 0 r2 by rw [<-OF.out,if_neg jv]);obtain⟨w8,ug,F8,AC,dj⟩:=Dr w7 (.int .u32 (was+a)) (.int .u32 (was+a+b)) 129;have jf:RD w8 w8.heap.size 2 (some ⟨w7.heap.size,0,none⟩) 1 [.int .u32 (was+a),.int .u32 (was+a+b)]:=by rw [<-ug];exact O7 _ _ _ _
      have dp:=Aa (dg.out.below dj);have pa:=Ai oh.out dj (Nat.le_refl _);have qy:=Aa (kz.out.below dj);have jj:=Aa (kp.out.trans (Ah.below dj (Nat.le_of_lt kz.out.lt)));have c1:=kz.out.cell1;rw [xa] at c1;obtain⟨y0,y1⟩:=dg.out.cells;have hau:IntKind.u32.wrap (was+a)=was+a:=IntWalk.u32_in _ (by omega);have fw:IntKind.u32.wrap (was+a+b)=was+a+b:=IntWalk.u32_in _ (by omega);have KV:gx<=w8.heap.size:=by
       have:=jj.out.1.size;have:=(Array.getElem?_eq_some_iff.1 dp.out).1;omega
      have ay:l.length+1<=1073741824:=by have:=GB.out;omega
      have EU:=Aa ug;clear OF jv xa F8 ug AC dj;go_wp2_with (at_builtin;refine Ar _ rfl (.tmp 41) (.tmp 47) 121 rfl gx 129 i0 (.agg #[.int .u32 0,.int .u32 0]) 2 8 Tryz.underlying121 cr cb cu cq rfl (by decide) _ l.length (Lp l) rfl (by rw [EU.out];exact pa) w8.heap.size (some ⟨w7.heap.size,0,none⟩) 1 1 [.int .u32 (was+a),.int .u32 (was+a+b)] rfl (by rw [EU.out];exact jf) (Mg [(was+a,was+a+b)]) ay (by decide) (by rw [EU.out];exact KV) ?_;rw [EU.out];intro v9 w9 ev ez mx;obtain⟨A9,c9,rfl,-,-,-⟩:=Ao ev;have eg:=Aa (mx gx _ dp.out (fun bh e=>by simp at e));clear y0 y1 c1;obtain⟨y0,y1⟩:=PB.cells eg.out;have q1:=PB.fr eg.out 1);go_roundw
      case rel=>
       refine⟨k+1,was+a+b,A9,c9,l++ [(was+a,was+a+b)],t2,rfl,by omega,by go_num,rfl,by omega,by omega,Aa ?_,sz,Aa ?_,Aa ?_,Aa ?_,Aa ?_,Aa ?_⟩
       ·rw [List.length_append,GB.out];rfl
       ·rw [List.length_append,List.length_singleton];exact PB.set1 eg.out _
       ·rw [List.length_append,List.length_singleton,<-Pd];exact Pf ev eg.out (by decide) 1 _
       ·intro x hx;rcases List.mem_append.1 hx with h | h
        ·exact OI.out x h
        ·simp only [List.mem_singleton] at h;subst h;exact⟨by simp only;omega,by simp only;omega,by simp only;omega,by simp only;omega⟩
       ·exact (qy.out.belowB ez Hg.out).other Hg.out 1 _
       ·exact (jj.out.more (by rw [<-av.out];exact ez) (by have:=Hg.out;rw [<-av.out];omega)).setNew (Nat.le_of_eq av.out.symm) (by have:=Hg.out;rw [<-av.out];omega) 1 _
      case measure=>simp [intOf];omega
    ·have z1:¬ (k:Int) < M:=by omega
     obtain rfl:k=M:=by omega
     have qj:=Aa (show Jz (N - (j+1)) ((L++ [(⟨R,A2,c2,l⟩:Aq)]).map Aq.pt) sk=(P,s9) by
      have:=ov.out
      rw [<-HS.out,Nat.sub_self] at this
      rw [List.map_append]
      exact this)
     obtain⟨y0,y1⟩:=HF.out.cells;have HTr:=Aa (YJ.out.at kj.out KH.out);have jj:=Aa (im.out.trans KH.out);have zv:=Aa (Bq ta.out me.out);clear HS ov YJ im KH ta;have el:w.heap.size<=wr.heap.size:=jj.out.1.size;have jf:=O7 wr (.int .u8 R) (.slice A2 l.length c2) 123;have HEx:=Aa (OK.out.below (Bf wr (.cells #[.int .u8 R,.slice A2 l.length c2] 123)));have OH:=Aa (jj.out.trans (Ah.below (Bf wr (.cells #[.int .u8 R,.slice A2 l.length c2] 123)) (Nat.le_of_lt OK.out.lt)));have DZ:=Aa (show M1 ⟨R,A2,c2,l⟩ from⟨R0,by show R < 256;omega,OI.out,by have:=GB.out;show l.length < _;omega⟩);go_wp2_with (at_builtin;refine Jc _ rfl (.tmp 51) (.tmp 53) rfl w.heap.size A c j L AQ.out rfl (HTr.out.below (Bf _ _)) ⟨R,A2,c2,l⟩ (Ai zv.out (Bf _ _) (Nat.le_refl _)) (some ⟨wr.heap.size,0,none⟩) rfl jf (by omega) (Nat.le_trans el (Bf wr _).size) ?_;intro A3 c3 w9 hT9 ez);go_roundw
     case rel=>
      refine⟨j+1,A3,c3,L++ [⟨R,A2,c2,l⟩],sk,by omega,by go_num,rfl,Aa ?_,qj,Aa hT9,Aa ?_,Aa (HEx.out.belowB ez kj.out),Aa (OH.out.more ez fs.out)⟩
      ·rw [List.length_append,AQ.out];rfl
      ·intro x hx;rcases List.mem_append.1 hx with h | h
       ·exact HK.out x h
       ·simp only [List.mem_singleton] at h;subst h;exact DZ.out
     case measure=>simp [intOf];omega
  ·have z0:¬ (j:Int) < N:=by omega
   obtain rfl:j=N:=by omega
   have FD:=Aa (show L.map Aq.pt=P/\sj=s9 by
    have:=HP.out
    rw [Nat.sub_self] at this
    simp only [Jz,Prod.mk.injEq] at this
    exact this)
   clear HP;go_wp2_with fail;go_ret;exact⟨A,c,L,by rw [AQ.out];rfl,FD.out.1,HT.out,HK.out,by rw [AQ.out];omega,by rw [<-FD.out.2];exact mz.out,tc.out⟩
theorem Et (A:Option Addr) (b:List UInt8) (n c g a:Nat) (bad:Bool) (lo hi:Int) (w:World) (h:Fr w g A n c a bad) (hr:RB w w.heap.size A b) (hn:b.length=n) (hl:n < 1073741824) (ha:a<=n) (hc:n<=c) (hA:A=none->c=0) (hlh:lo<=hi):
 Calls Tryz.prog 135 #[.pointer (some ⟨g,0,none⟩),.int .i64 lo,.int .i64 hi] w fun e w'=>∃ x a' bd,e= .returned (.int .i64 x)/\Fr w' g A n c a' bd/\Ah g w w'/\a'<=n/\lo<=x/\x<=hi/\
  (bad=false->∀ y q,Eb b a lo hi=some (y,q)->x=y/\a'=q/\bd=false)/\(bad=false->Eb b a lo hi=none->bd=true)/\(bad=true->bd=true):=by
 cases bad with
 | true=>
   refine (Abd A n c g a lo hi w h).mono ?_;rintro e w' ⟨rfl,rfl⟩;exact⟨lo,a,true,rfl,h,Ah.refl _ _,ha,Int.le_refl _,hlh,fun e=>(by cases e),fun e=>(by cases e),fun _=>rfl⟩
 | false=>
   refine (Xu A b n c g a lo hi w h hr hn hl ha hc hA).mono ?_;rintro e w' ⟨x,a',bd,he,h1,h2,h3,h4,h5⟩;have hx:lo<=x/\x<=hi:=by
    cases hq:Eb b a lo hi with
    | none=>
      rw [(h5 hq).1];exact⟨Int.le_refl _,hlh⟩
    | some q=>
      obtain⟨y,q⟩:=q;rw [(h4 y q hq).1];exact⟨(Em hq).1,(Em hq).2.1⟩
   exact⟨x,a',bd,he,h1,h2,h3,hx.1,hx.2,fun _=>h4,fun _ h=>(h5 h).2,fun e=>(by cases e)⟩
theorem D8 {α:Type} {G:Option α} {b:List UInt8} {a a':Nat} {lo hi x:Int} {bd bd':Bool} {K:Int×Nat->Option α} (h1:bd=false->G=(Eb b a lo hi).bind K) (h2:bd=true->G=none)
 (hs:bd=false->∀ y q,Eb b a lo hi=some (y,q)->x=y/\a'=q/\bd'=false) (hn:bd=false->Eb b a lo hi=none->bd'=true) (hb:bd=true->bd'=true):(bd'=false->G=K (x,a'))/\(bd'=true->G=none):=by
 cases bd with
 | true=>
   have:=hb rfl;subst this;exact⟨fun e=>(by cases e),fun _=>h2 rfl⟩
 | false=>
   have h1:=h1 rfl
   cases hq:Eb b a lo hi with
   | none=>
     have:=hn rfl hq;subst this;rw [hq] at h1;exact⟨fun e=>(by cases e),fun _=>h1⟩
   | some q=>
     obtain⟨y,q⟩:=q;obtain⟨rfl,rfl,rfl⟩:=hs rfl y q hq;rw [hq] at h1;exact⟨fun _=>h1,fun e=>(by cases e)⟩
def Iu (o:Rd):Option Rd:=if Dz o.1 o.2.1 o.2.2.1 o.2.2.2.1 o.2.2.2.2.1 then some o else none
theorem Wy (b:List UInt8):Bz b=(Eb b 0 1 4).bind fun k=>(Eb b k.2 1 64).bind fun m=>(Dd b m.1.toNat m.2 0).bind fun q=>(Dc b k.1 q.1 q.2.1 q.2.2).bind Iu:=rfl
theorem Yf {b:List UInt8} {m a:Nat} {was:Int} {k:Int} {p:List Rn}:
 ((Dd b (m+1) a was).bind fun q=>(Dc b k (p++q.1) q.2.1 q.2.2).bind Iu)=
   (Eb b a 1 1073741824).bind fun d=>(Eb b d.2 0 7).bind fun r=>(Eb b r.2 1 4096).bind fun mm=>
     if 1073741824 < was+d.1+mm.1 - 1 then none else (Dd b m mm.2 (was+d.1+mm.1 - 1)).bind fun q=>(Dc b k ((p++ [(was+d.1,r.1,mm.1)])++q.1) q.2.1 q.2.2).bind Iu:=by
 simp only [Dd,Option.bind_assoc]
 congr 1
 funext d
 congr 1
 funext r
 congr 1
 funext mm
 split
 ·rfl
 ·rw [Option.bind_map]
  congr 1
  funext q
  simp
def Ek:Option Rd->Int×Int×Int×List Rn×Int×Nat×Int
 | some (k,t,r,p,z,n)=>(k,t,r,p,z,n,0)
 | none=>(0,0,0, [],0,0,8)
theorem Es {w w':World} {aa g n c ub size k:Nat} {A:Option Addr} {bad:Bool} {v:Value} {L:List Value} (h:w.ownsRow aa 120 size v k L) (hR:Fr w g A n c ub bad) (ho:Ah g w w'):w'.ownsRow aa 120 size v k L:=by
 refine⟨h.1,?_⟩;rcases h.2 with h0 | ⟨q,cap,bh,h1,h2,h3,h4⟩
 ·exact .inl h0
 ·have ak:q≠g:=by
   intro e;unfold Fr at hR;rw [<-e,h3] at hR;simp at hR
  exact .inr ⟨q,cap,bh,h1,h2,(ho.2 q ak (Array.getElem?_eq_some_iff.1 h3).1).trans h3,h4⟩
theorem Fr.kept {w w':World} {g n c ub:Nat} {A:Option Addr} {bad:Bool} (h:Fr w g A n c ub bad) (hk:∀ (b:Nat) (o:Obj),w.heap[b]?=some o->(∀ bh,o≠ .cells bh 120 (0,0))->w'.heap[b]?=some o):Fr w' g A n c ub bad:=hk g _ h (fun bh e=>by simp at e)
theorem FB.keptR {w w':World} {g:Nat} {k t r s z:Value} (h:FB w g k t r s z) (hk:∀ (b:Nat) (o:Obj),w.heap[b]?=some o->(∀ bh,o≠ .cells bh 120 (0,0))->w'.heap[b]?=some o):FB w' g k t r s z:=hk g _ h (fun bh e=>by simp at e)
theorem FB.set0 {w:World} {g:Nat} {k t r s z:Value} (h:FB w g k t r s z) (v:Value):FB (w.setCell ⟨g,0,none⟩ v) g v t r s z:=heap_setCell_same _ _ _ _ _ _ h
theorem FB.set12 {w:World} {g:Nat} {k t r s z:Value} (h:FB w g k t r s z) (u v:Value):FB ((w.setCell ⟨g,1,none⟩ u).setCell ⟨g,2,none⟩ v) g k u v s z:=heap_setCell_same _ _ _ _ _ _ (heap_setCell_same _ _ _ _ _ _ h)
theorem Fr.other {w:World} {g n c ub:Nat} {A:Option Addr} {bad:Bool} (h:Fr w g A n c ub bad) {g':Nat} (ak:g≠g') (off:Nat) (v:Value):Fr (w.setCell ⟨g',off,none⟩ v) g A n c ub bad:=(heap_setCell_other _ _ _ _ ak).trans h
theorem K3 {w:World} {aa g size n:Nat} {v:Value} {L:List Value} {k t r s z:Value} (h:w.ownsRow aa 120 size v n L) (hF:FB w g k t r s z) (off:Nat) (u:Value):(w.setCell ⟨g,off,none⟩ u).ownsRow aa 120 size v n L:=by
 refine⟨h.1,?_⟩;rcases h.2 with h0 | ⟨q,cap,bh,h1,h2,h3,h4⟩
 ·exact .inl h0
 ·have ak:q≠g:=by
   intro e;unfold FB at hF;rw [<-e,h3] at hF;simp at hF
  exact .inr ⟨q,cap,bh,h1,h2,(heap_setCell_other _ _ _ _ ak).trans h3,h4⟩
theorem Fi {w:World} {aa g size n:Nat} {v:Value} {L:List Value} {k t r s z k' t' r' s' z':Value} (h:w.ownsRow aa 120 size v n L) (hF:FB w g k t r s z):(Di w g k' t' r' s' z').ownsRow aa 120 size v n L:=by
 refine⟨h.1,?_⟩;rcases h.2 with h0 | ⟨q,cap,bh,h1,h2,h3,h4⟩
 ·exact .inl h0
 ·have ak:q≠g:=by
   intro e;unfold FB at hF;rw [<-e,h3] at hF;simp at hF
  exact .inr ⟨q,cap,bh,h1,h2,(Eg ak).trans h3,h4⟩
theorem D5 {w:World} {aa g size n:Nat} {v:Value} {L:List Value} {k t r s z:Value} (h:w.ownsRow aa 120 size v n L) (hF:FB w g k t r s z) (x y:Value):((w.setCell ⟨g,1,none⟩ x).setCell ⟨g,2,none⟩ y).ownsRow aa 120 size v n L:=by
 have h1:FB (w.setCell ⟨g,1,none⟩ x) g k x r s z:=heap_setCell_same _ _ _ _ _ _ hF;exact K3 (K3 h hF 1 x) h1 2 y
end Go.Proofs.YtmkpfdcnikgokaaGreat
