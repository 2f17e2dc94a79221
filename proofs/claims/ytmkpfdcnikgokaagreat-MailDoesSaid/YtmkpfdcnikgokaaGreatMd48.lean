/-
  Texts of this claim, put together: RefTwin, TwinKeep, Clones. What each theorem asks stands in its statement.
-/
import Derived.Test.YtmkpfdcnikgokaaGreatMd23
import Derived.Test.YtmkpfdcnikgokaaGreatMd24
import Derived.Test.YtmkpfdcnikgokaaGreatMd30
import Derived.Test.YtmkpfdcnikgokaaGreatMd47
set_option linter.unusedVariables false
set_option linter.unusedSimpArgs false
set_option maxRecDepth 100000
set_option maxHeartbeats 25600000
namespace Go.Proofs.YtmkpfdcnikgokaaGreat
open Go.RowKit
def cpT (L:List Aq):Prop:=L.length < 1000000/\∀ y∈L,y.s.length < 1073741824
theorem Ad7 (w:World) (y:Ay):RD (w.alloc (.cells y.cells.toArray 79)) (w.alloc (.cells y.cells.toArray 79)).heap.size 7 (some ⟨w.heap.size,0,none⟩) 1 y.cells:=by
 refine⟨rfl,fun _=>⟨w.heap.size,0,rfl,by simp,fun j u hu=>?_⟩⟩;rw [Nat.zero_add,cell_of_row _ _ _ _ _ _ (heap_alloc_new _ _),<-Array.getElem?_toList];exact hu
theorem Xk (y:Ay):∀ u∈y.cells,u.oneCell'=true:=by
 intro u hu;simp only [Ay.cells,List.mem_cons,List.not_mem_nil,or_false] at hu;rcases hu with rfl | rfl | rfl | rfl | rfl | rfl | rfl <;> rfl
theorem No (w:World) {ops:Array Oper} {rest:List Oper} {o:Oper} {a:Act} {Q:Exit->Act->World->Prop} (CL:o.guard=none) (s x:Operand)
 (ho:o.op= .call { callee:= .builtin .append,args:=#[s,x],argTypes:=#[49,49] })
 (aa:Nat) (A:Option Addr) (c n:Nat) (L:List Ay) (hn:L.length=n) (hs:a.eval s= .slice A n c) (hO:Lh w aa A n c L)
 (y:Ay) (hy:OW w aa y) (B:Option Addr) (hx:a.eval x= .slice B 1 1) (hr:RD w w.heap.size 7 B 1 y.cells)
 (uk:n+1<=1073741824) (ao:aa<=w.heap.size)
 (h:∀ A' c' w',Lh w' aa A' (n+1) c' (L++ [y])->Below aa w w'->wpList Tryz.prog ops Q rest (a.put o.dst (.slice A' (n+1) c')) w'):wpList Tryz.prog ops Q (o :: rest) a w:=by
 obtain⟨i0,cr,cb,cu,cq⟩:=info_parts Oz;subst hn;refine Ar w CL s x 49 ho aa 79 i0 (.agg #[.int .u32 0,.int .u8 0,.bool false,.slice none 0 0,.bool false,.slice none 0 0,.slice none 0 0]) 7 96 Tryz.underlying49 cr cb cu cq rfl (by decide) _ L.length (Jw L) hs hO.1 w.heap.size B 1 1 y.cells hx hr (Xk y) uk (by decide) ao fun v' w' h1 h2 h3=>?_;obtain⟨A',c',rfl,-,-,-⟩:=Ao h1;refine h A' c' w' ⟨?_,fun q hq=>?_⟩ h2
 ·rw [<-Pa];exact h1
 ·rcases List.mem_append.1 hq with hq | hq
  ·exact (hO.2 q hq).kept h3
  ·simp only [List.mem_singleton] at hq;subst hq;exact hy.kept h3
theorem Aef (x:Av) (w:World) (hr:RM w w.heap.size x) (h1:cpT x.i) (h2:x.o.length < 1000000/\∀ y∈x.o,y.p.length < 8796093022208) (h3:x.s.length < 1000000/\∀ y∈x.s,cpT y.h/\cpT y.s/\y.g.length < 1000000):
 Calls Tryz.prog 20 #[x.val] w fun e w'=>∃ y:Av,e= .returned y.val/\y.mp=x.mp/\M0 w' w.heap.size y/\Below w.heap.size w w':=by
 obtain⟨k,t,r,ix,iA,ic,i,oA,oc,o,sA,sc,s⟩:=x;simp only at h1 h2 h3;obtain⟨w1,au,F1,af,ac⟩:=Am w (.int .u8 k) (.int .u32 t) (.int .u8 r) (.int .i64 ix) (.slice iA i.length ic) (.slice oA o.length oc) (.slice sA s.length sc);obtain⟨w2,fc,F2,cd,ae⟩:=Am w1 (.int .u8 0) (.int .u32 0) (.int .u8 0) (.int .i64 0) (.slice none 0 0) (.slice none 0 0) (.slice none 0 0);obtain⟨gx,an⟩:∃ q,q=w.heap.size:=⟨_,rfl⟩;obtain⟨gy,fe⟩:∃ q,q=w1.heap.size:=⟨_,rfl⟩;have av:=Aa an;have km:=Aa (show gy=w.heap.size+1 by rw [fe,<-au,World.size_alloc]);have jy:gx < gy:=by rw [an,fe];exact af
 rw [<-an] at F1;rw [<-fe] at F2;have db:=Aa (F1.below ae);have QU:=Aa F2;have fh:=Aa (Ad ac ae);have dn:=Aa au;have GA:=Aa fc;have HR:=Aa hr;have FM:gy < w2.heap.size:=by rw [fe];exact cd
 obtain⟨y0,y1,y2,y3,y4,y5,y6⟩:=db.out.cells;obtain⟨p0,p1,p2,p3,p4,p5,p6⟩:=F1.cells;have DE:=Aa h3;have HT:=Aa (Lz iA i.length ic i w2 ((hr.1.below fh.out).more fh.out.size) rfl h1.1 h1.2);have HO:=Aa (fun W (hb:Below w.heap.size w W)=>S9 oA o.length oc o W ((HR.out.2.1.below hb).more hb.size) rfl h2.2 (by omega));have YB:=db.out.fr 4;clear hr h1 h2 h3 F1 F2 au fc af cd ac ae an fe;show Calls Tryz.prog 20 #[Ci k t r ix (.slice iA i.length ic) (.slice oA o.length oc) (.slice sA s.length sc)] w _;go_enter Tryz.func20,Tryz.ntmps20;go_wp2_with fail;rw [dn.out,<-km.out,GA.out,<-av.out];refine HT.out.mono ?_;rintro e w3 ⟨ef,ee,i',rfl,QH,hO3,ag⟩;obtain⟨ni,XY⟩:∃ q,i'.length=q:=⟨_,rfl⟩;rw [XY];have Hni:=Aa XY;have HI3:=Aa hO3;have Hi':=Aa QH;have bz:=Aa (db.out.below ag);have p7:=Aa (QU.out.below ag);have dk:=Aa (Ad fh.out ag);have YB:=bz.out.fr 4;obtain⟨w4,eo⟩:∃ q,w3.setCell ⟨gx,4,none⟩ (.slice ef ni ee)=q:=⟨_,rfl⟩;have ca:=Aa (show MB w4 gx _ _ _ _ _ _ _ by rw [<-eo];exact bz.out.set4 (.slice ef ni ee));have NP:=Aa (show MB w4 gy _ _ _ _ _ _ _ by rw [<-eo];exact p7.out.other (by omega) 4 (.slice ef ni ee));have HI4:=Aa (show Da w4 w2.heap.size ef ee i' by rw [<-eo];exact HI3.out.setO bz.out (by decide) (by decide) 4 (.slice ef ni ee));have ed:=Aa (show Below w.heap.size w w4 by rw [<-eo];exact dk.out.setCell (by simp only;rw [av.out];exact Nat.le_refl _) _);have JU:=Aa eo;have hgx4:gx < w4.heap.size:=ca.out.lt;obtain⟨q0,q1,q2,q3,q4,q5,q6⟩:=ca.out.cells;obtain⟨z0,z1,z2,z3,z4,z5,z6⟩:=bz.out.cells;clear XY hO3 QH ag eo HT y0 y1 y2 y3 y4 y5 y6 p0 p1 p2 p3 p4 p5 p6;go_wp2_with fail;rw [JU.out];refine (HO.out w4 ed.out).mono ?_;rintro e w5 ⟨ji,jh,o',rfl,QD,hO5,bq⟩;have NG:o'.length=o.length:=by rw [<-List.length_map Bj.op,QD,List.length_map]
 have kd:=Aa NG;have jm:=Aa hO5;have Ho':=Aa QD;have cl:=Aa (ca.out.below bq);have rp:=Aa (NP.out.below bq);have VG:=Aa (HI4.out.below bq);have ja:=Aa (Ad ed.out bq);obtain⟨w6,it⟩:∃ q,w5.setCell ⟨gx,5,none⟩ (.slice ji o.length jh)=q:=⟨_,rfl⟩;have hf5:=cl.out.fr 5;have bj:=Aa (show MB w6 gx _ _ _ _ _ _ _ by rw [<-it];exact cl.out.set5 (.slice ji o.length jh));have pz:=Aa (show MB w6 gy _ _ _ _ _ _ _ by rw [<-it];exact rp.out.other (by omega) 5 (.slice ji o.length jh));have GD:=Aa (show Da w6 w2.heap.size ef ee i' by rw [<-it];exact VG.out.setO cl.out (by decide) (by decide) 5 (.slice ji o.length jh));have fa:=Aa (show OO w6 w4.heap.size ji jh o' by rw [<-it];exact jm.out.setO cl.out (by decide) (by decide) 5 (.slice ji o.length jh));have dx:=Aa (show Below w.heap.size w w6 by rw [<-it];exact ja.out.setCell (by simp only;rw [av.out];exact Nat.le_refl _) _);have Hw6:=Aa it;have hgx6:gx < w6.heap.size:=bj.out.lt;obtain⟨u0,u1,u2,u3,u4,u5,u6⟩:=cl.out.cells;clear NG hO5 QD bq it q0 q1 q2 q3 q4 q5 q6 z0 z1 z2 z3 z4 z5 z6 YB bz p7 dk HI3 db QU JU;go_wp2_with fail;rw [Hw6.out];obtain⟨B5,tl⟩:∃ q,q=w6.heap.size:=⟨_,rfl⟩;have GW:=Aa tl;clear u0 u1 u2 u3 u4 u5 u6 hf5 tl
 go_loopw [3,4] (fun v i wr=>∃ (j:Nat) (A':Option Addr) (c':Nat) (L':List Ay),j<=s.length/\i= .int .i64 (j:Int)/\v= .slice A' j c'/\Hid (L'.length=j)/\Hid (L'.map Ay.wp=(s.take j).map Ay.wp)/\Hid (Lh wr B5 A' j c' L')/\Hid (Below B5 w6 wr)) (fun _ i _=>s.length - (intOf i).toNat)
 case atStart=>exact⟨0,none,0, [],by omega,rfl,rfl,Aa rfl,Aa rfl,Aa (Lh.nil _ _),Aa (Below.refl _ _)⟩
 case round=>
  obtain⟨j,A',c',L',hj,rfl,rfl,tk,CP,hOl,kv⟩:=hrel;have hF7:=bj.out.belowB kv.out (by rw [GW.out];exact hgx6);have dg:=Aa hF7;obtain⟨q0,q1,q2,q3,q4,q5,q6⟩:=hF7.cells;have RH:=Aa (show Below w.heap.size w wr from dx.out.trans (kv.out.mono (by rw [GW.out];exact dx.out.size)));have WO:B5<=wr.heap.size:=by rw [GW.out];exact kv.out.size
  clear hF7;by_cases ai:j < s.length
  ·have z0:(j:Int) < s.length:=by omega
   have zj:(0:Int)<=j:=by omega
   obtain⟨bb,bo,rfl,hB,fg⟩:=RW.cell (HR.out.2.2.below RH.out) (show 0 < s.length by omega);obtain⟨d0,d1,d2,d3,d4,d5,d6⟩:=fg j ai;obtain⟨x,hx⟩:∃ x,s[j]=x:=⟨_,rfl⟩;rw [hx] at d0 d1 d2 d3 d4 d5 d6;have ba:x∈s:=by rw [<-hx];exact List.getElem_mem ai
   obtain⟨k1,k2,k3⟩:=DE.out.2 x ba;have BO:=DE.out.1;have og:=Aa (HR.out.2.2.2 x ba);have T0:=Aa (show (s.take (j+1)).map Ay.wp=(s.take j).map Ay.wp++ [x.wp] by rw [List.take_succ_eq_append_getElem ai,hx,List.map_append];rfl);obtain⟨w7,cc,F7,IM,bu⟩:=Ct wr (.int .u32 x.t) (.int .u8 x.r) (.bool x.rd) (.slice x.hA x.h.length x.hc) (.bool x.kn) (.slice x.sA x.s.length x.sc) (.slice x.gA x.g.length x.gc);obtain⟨gs,kt⟩:∃ q,q=wr.heap.size:=⟨_,rfl⟩;have ml:=Aa kt;rw [<-kt] at F7;have HW7:=Aa F7;have Hb7:=Aa bu;have Hw7:=Aa cc;have P3:=Aa (Lz x.hA x.h.length x.hc x.h w7 ((og.out.1.below (Ad RH.out bu)).more (Ad RH.out bu).size) rfl k1.1 k1.2);have P5:=Aa (fun W (hb:Below wr.heap.size wr W)=>Lz x.sA x.s.length x.sc x.s W ((og.out.2.1.below (Ad RH.out hb)).more (Ad RH.out hb).size) rfl k2.1 k2.2);have PG:=Aa (fun W (hb:Below wr.heap.size wr W)=>show RD W W.heap.size 1 x.gA x.g.length (N6 x.g) from (RD.below og.out.2.2 (Ad RH.out hb)).more (Ad RH.out hb).size);have TZ:x.g.length < 1000000:=k3;obtain⟨e0,e1,e2,e3,e4,e5,e6⟩:=F7.cells;clear fg hx ba k1 k2 k3 bu IM cc F7 kt;go_wp2_with fail;rw [Hw7.out,<-ml.out];refine P3.out.mono ?_;rintro e w8 ⟨jc,tj,h',rfl,hh',hO8,dj⟩;obtain⟨nh,hnh⟩:∃ q,h'.length=q:=⟨_,rfl⟩;rw [hnh];have Hnh:=Aa hnh;have HH8:=Aa hO8;have Hh':=Aa hh';have HW8:=Aa (HW7.out.below dj);have Hb8:=Aa (Ad Hb7.out dj);obtain⟨w9,dq⟩:∃ q,w8.setCell ⟨gs,3,none⟩ (.slice jc nh tj)=q:=⟨_,rfl⟩;have hf3:=HW8.out.fr 3;have KB:=Aa (show WB w9 gs _ _ _ _ _ _ _ by rw [<-dq];exact HW8.out.set3 (.slice jc nh tj));have HH9:=Aa (show Da w9 w7.heap.size jc tj h' by rw [<-dq];exact HH8.out.setO HW8.out (by decide) (by decide) 3 (.slice jc nh tj));have Hb9:=Aa (show Below wr.heap.size wr w9 by rw [<-dq];exact Hb8.out.setCell (by simp only;rw [ml.out];exact Nat.le_refl _) _);have Hw9:=Aa dq;obtain⟨f0,f1,f2,f3,f4,f5,f6⟩:=HW8.out.cells;clear e0 e1 e2 e3 e4 e5 e6 d0 d1 d2 d3 d4 d5 d6 hO8 hh' dj hnh P3;obtain⟨e0,e1,e2,e3,e4,e5,e6⟩:=KB.out.cells;clear dq;go_wp2_with fail;rw [Hw9.out];refine (P5.out w9 Hb9.out).mono ?_;rintro e lk ⟨dz,ec,s',rfl,xw,hO10,fx⟩;obtain⟨ns,hns⟩:∃ q,s'.length=q:=⟨_,rfl⟩;rw [hns];have Hns:=Aa hns;have xb:=Aa hO10;have Hs':=Aa xw;have LP:=Aa (KB.out.below fx);have HH10:=Aa (HH9.out.below fx);have Hb10:=Aa (Ad Hb9.out fx);obtain⟨ra,GK⟩:∃ q,lk.setCell ⟨gs,5,none⟩ (.slice dz ns ec)=q:=⟨_,rfl⟩;have hf5:=LP.out.fr 5;have HW11:=Aa (show WB ra gs _ _ _ _ _ _ _ by rw [<-GK];exact LP.out.set5 (.slice dz ns ec));have HH11:=Aa (show Da ra w7.heap.size jc tj h' by rw [<-GK];exact HH10.out.setO LP.out (by decide) (by decide) 5 (.slice dz ns ec));have HS11:=Aa (show Da ra w9.heap.size dz ec s' by rw [<-GK];exact xb.out.setO LP.out (by decide) (by decide) 5 (.slice dz ns ec));have PH:=Aa (show Below wr.heap.size wr ra by rw [<-GK];exact Hb10.out.setCell (by simp only;rw [ml.out];exact Nat.le_refl _) _);have Hw11:=Aa GK;have HPG:=Aa (PG.out ra PH.out);clear e0 e1 e2 e3 e4 e5 e6 f0 f1 f2 f3 f4 f5 f6 hO10 xw fx hns hf3 P5 PG Hw9;obtain⟨e0,e1,e2,e3,e4,e5,e6⟩:=LP.out.cells;obtain⟨f0,f1,f2,f3,f4,f5,f6⟩:=HW11.out.cells;obtain⟨ib,hib,hbz0,hbz1,hbz2⟩:=info_parts Sc;obtain⟨iw,hiw,hwz0,hwz1,hwz2⟩:=info_parts Oz;have hszb:B5<=ra.heap.size:=Nat.le_trans WO PH.out.size;clear GK
   go_wp2_with (first
    | (at_builtin;rw [Hw11.out];refine Ba _ rfl (.tmp 35) (.tmp 37) 77 rfl ra.heap.size 4 ib (.bool false) 1 1 Tryz.underlying77 hib hbz0 hbz1 hbz2 rfl (by decide) _ 0 [] rfl (World.ownsRow_nil _ _ _ _) ra.heap.size x.gA x.g.length x.gc (N6 x.g) rfl HPG.out (Om x.g) (by omega) (by decide) (Nat.le_refl _) ?_;intro v12 TC OR cg;simp only [Nat.zero_add,List.nil_append] at OR;obtain⟨my,od,rfl,-,-,-⟩:=Ao OR;have HG12:=Aa OR;have LO:=Aa (HW11.out.below cg);have HH12:=Aa (HH11.out.below cg);have HS12:=Aa (HS11.out.below cg);have Hb12:=Aa (Ad PH.out cg);obtain⟨t0,t1,t2,t3,t4,t5,t6⟩:=LO.out.cells;have hf6:=LO.out.fr 6;clear OR cg e0 e1 e2 e3 e4 e5 e6 f0 f1 f2 f3 f4 f5 f6)
    | (at_builtin
       obtain⟨r7,DO⟩:∃ q,TC.setCell ⟨gs,6,none⟩ (.slice my x.g.length od)=q:=⟨_,rfl⟩
       rw [DO]
       have hs13:TC.heap.size=r7.heap.size:=by rw [<-DO];simp [World.setCell]
       rw [hs13]
       have HH13:=Aa (show Da r7 w7.heap.size jc tj h' by rw [<-DO];exact HH12.out.setO LO.out (by decide) (by decide) 6 (.slice my x.g.length od))
       have HS13:=Aa (show Da r7 w9.heap.size dz ec s' by rw [<-DO];exact HS12.out.setO LO.out (by decide) (by decide) 6 (.slice my x.g.length od))
       have HG13:=Aa (show r7.ownsRow ra.heap.size 4 1 (.slice my x.g.length od) x.g.length (N6 x.g) by rw [<-DO];exact Bl HG12.out LO.out (by decide) 6 (.slice my x.g.length od))
       have Hb13:=Aa (show Below wr.heap.size wr r7 by rw [<-DO];exact Hb12.out.setCell (by simp only;rw [ml.out];exact Nat.le_refl _) _)
       have HR14:=Aa (show RD (r7.alloc (.cells #[.int .u32 x.t,.int .u8 x.r,.bool x.rd,.slice jc nh tj,.bool x.kn,.slice dz ns ec,.slice my x.g.length od] 79)) (r7.alloc (.cells #[.int .u32 x.t,.int .u8 x.r,.bool x.rd,.slice jc nh tj,.bool x.kn,.slice dz ns ec,.slice my x.g.length od] 79)).heap.size 7 (some ⟨r7.heap.size,0,none⟩) 1 (Ay.cells ⟨x.t,x.r,x.rd,x.kn,jc,tj,h',dz,ec,s',my,od,x.g⟩) by
        have h9:=Ad7 r7 ⟨x.t,x.r,x.rd,x.kn,jc,tj,h',dz,ec,s',my,od,x.g⟩
        simp only [Ay.cells,Hnh.out,Hns.out] at h9 |-
        exact h9)
       obtain⟨pv,GJ⟩:∃ q,r7.alloc (.cells #[.int .u32 x.t,.int .u8 x.r,.bool x.rd,.slice jc nh tj,.bool x.kn,.slice dz ns ec,.slice my x.g.length od] 79)=q:=⟨_,rfl⟩
       rw [GJ] at HR14 |-
       have fk:Below r7.heap.size r7 pv:=by rw [<-GJ];exact Bf _ _
       have WY:=Aa (Ad Hb13.out fk)
       have l7:wr.heap.size<=w7.heap.size:=Hb7.out.size
       have l9:wr.heap.size<=w9.heap.size:=Hb9.out.size
       have l11:wr.heap.size<=ra.heap.size:=PH.out.size
       have HOW:=Aa (show OW pv B5 ⟨x.t,x.r,x.rd,x.kn,jc,tj,h',dz,ec,s',my,od,x.g⟩ from⟨(HH13.out.below fk).less (by omega),(HS13.out.below fk).less (by omega),Bq (Ai HG13.out fk (Nat.le_refl _)) (by omega)⟩)
       refine No _ rfl (.tmp 40) (.tmp 42) rfl B5 A' c' j L' tk.out rfl (hOl.out.below WY.out) ⟨x.t,x.r,x.rd,x.kn,jc,tj,h',dz,ec,s',my,od,x.g⟩ HOW.out (some ⟨r7.heap.size,0,none⟩) rfl HR14.out (by omega) (Nat.le_trans WO WY.out.size) ?_
       intro A15 c15 w15 hO15 pp
       have HO15:=Aa hO15
       have LY:=Aa ((kv.out.trans (WY.out.mono WO)).trans pp)
       clear hO15 pp DO GJ fk t0 t1 t2 t3 t4 t5 t6 hf6))
   go_roundw
   case rel=>
    refine⟨j+1,A15,c15,L'++ [⟨x.t,x.r,x.rd,x.kn,jc,tj,h',dz,ec,s',my,od,x.g⟩],by omega,by go_num,rfl,Aa ?_,Aa ?_,HO15,LY⟩
    ·rw [List.length_append,tk.out];rfl
    ·rw [T0.out,List.map_append,CP.out];have:Ay.wp ⟨x.t,x.r,x.rd,x.kn,jc,tj,h',dz,ec,s',my,od,x.g⟩=x.wp:=by
      unfold Ay.wp;simp only [Hh'.out,Hs'.out]
     rw [List.map_singleton,this]
   case measure=>simp [intOf];omega
  ·have z0:¬ (j:Int) < s.length:=by omega
   obtain rfl:j=s.length:=by omega
   rw [List.take_of_length_le (Nat.le_refl _)] at CP;obtain⟨w7,cc⟩:∃ q,wr.setCell ⟨gx,6,none⟩ (.slice A' s.length c')=q:=⟨_,rfl⟩;have hf6:=dg.out.fr 6;have dp:=Aa (show MB w7 gx _ _ _ _ _ _ _ by rw [<-cc];exact dg.out.set6 (.slice A' s.length c'));have hyr:gy < B5:=by rw [GW.out];exact (pz.out).lt
   have BW:=Aa (pz.out.belowB kv.out hyr);have KA:=Aa (show MB w7 gy _ _ _ _ _ _ _ by rw [<-cc];exact BW.out.other (by omega) 6 (.slice A' s.length c'))
   have HX8:=Aa (show M0 w7 w.heap.size ⟨k,t,r,ix,ef,ee,i',ji,jh,o',A',c',L'⟩ by
    rw [<-cc]
    have bf:Below w6.heap.size w6 wr:=by rw [<-GW.out];exact kv.out
    have e:M0 wr w.heap.size ⟨k,t,r,ix,ef,ee,i',ji,jh,o',A',c',L'⟩:=by
     refine⟨(GD.out.below bf).less fh.out.size,(fa.out.below bf).lessB ed.out.size,?_⟩
     have h9:=hOl.out
     rw [<-tk.out] at h9
     have yc:w.heap.size<=B5:=by rw [GW.out];exact dx.out.size
     exact⟨Bq h9.1 yc,fun q hq=>(h9.2 q hq).less yc⟩
    exact e.setM dg.out 6 (.slice A' s.length c'))
   have lg:=Aa (show Below w.heap.size w w7 by rw [<-cc];exact RH.out.setCell (by simp only;rw [av.out];exact Nat.le_refl _) _);have VX:w.heap.size<=gy:=by rw [km.out];omega
   obtain⟨f0,f1,f2,f3,f4,f5,f6,FZ,ch⟩:=Kb (.int .u8 k) (.int .u32 t) (.int .u8 r) (.int .i64 ix) (.slice ef ni ee) (.slice ji o.length jh) (.slice A' s.length c') KA.out lg.out VX;have da:=Aa FZ;have fb:=Aa ch;have HXZ:=Aa (HX8.out.fill (.int .u8 k) (.int .u32 t) (.int .u8 r) (.int .i64 ix) (.slice ef ni ee) (.slice ji o.length jh) (.slice A' s.length c') KA.out);obtain⟨x0,x1,x2,x3,x4,x5,x6⟩:=dp.out.cells;rw [<-cc] at f0 f1 f2 f3 f4 f5 f6 x0 x1 x2 x3 x4 x5 x6;obtain⟨s0,s1,s2,s3,s4,s5,s6⟩:=BW.out.cells;have Hw7:=Aa cc;clear FZ ch cc;go_wp2_with fail;rw [Hw7.out];obtain⟨v0,v1,v2,v3,v4,v5,v6⟩:=da.out.cells;refine bodyPost_ret (v:=Ci k t r ix (.slice ef ni ee) (.slice ji o.length jh) (.slice A' s.length c')) (by simp [results,Tryz.results20,go_sem,v0,v1,v2,v3,v4,v5,v6]) rfl ?_;refine⟨⟨k,t,r,ix,ef,ee,i',ji,jh,o',A',c',L'⟩,?_,?_,HXZ.out,fb.out⟩
   ·simp only [Av.val,Hni.out,kd.out,tk.out]
   ·simp only [Av.mp,Hi'.out,Ho'.out,CP.out]
structure TK (w0:World) (gx gy:Nat) (k t r ix:Int) (iA:Option Addr) (ic:Nat) (i:List Aq) (oA:Option Addr) (n oc:Nat) (Q P:List Bj) (sA:Option Addr) (m sc:Nat) (S T:List Ay) (W:World):Prop where
 b:Below w0.heap.size w0 W
 x:MB W gx (.int .u8 k) (.int .u32 t) (.int .u8 r) (.int .i64 ix) (.slice iA i.length ic) (.slice oA n oc) (.slice sA m sc)
 y:MB W gy (.int .u8 0) (.int .u32 0) (.int .u8 0) (.int .i64 0) (.slice none 0 0) (.slice none 0 0) (.slice none 0 0)
 i:Da W w0.heap.size iA ic i
 o:W.ownsRow w0.heap.size 104 5 (.slice oA n oc) n (Ec Q)
 s:W.ownsRow w0.heap.size 79 7 (.slice sA m sc) m (Jw S)
 po:∀ x∈P,W.ownsRow w0.heap.size 120 3 (.slice x.A x.p.length x.c) x.p.length (Ed x.p)
 ps:∀ x∈T,OW W w0.heap.size x
 q:Q.length=n
 z:S.length=m
section
variable {w0:World} {gx gy:Nat} {k t r ix:Int} {iA:Option Addr} {ic:Nat} {i:List Aq} {oA:Option Addr} {n oc:Nat} {Q P:List Bj} {sA:Option Addr} {m sc:Nat} {S T:List Ay} {W W':World}
theorem TK.below (h:TK w0 gx gy k t r ix iA ic i oA n oc Q P sA m sc S T W) (hb:Below W.heap.size W W'):TK w0 gx gy k t r ix iA ic i oA n oc Q P sA m sc S T W':=
 ⟨Ad h.b hb,h.x.below hb,h.y.below hb,h.i.below hb,Ai h.o hb (Nat.le_refl _),Ai h.s hb (Nat.le_refl _),fun x hx=>Ai (h.po x hx) hb (Nat.le_refl _),fun x hx=>(h.ps x hx).below hb,h.q,h.z⟩
theorem I5 {w:World} {aa:Nat} {e:TypeId} {size n c:Nat} {A:Option Addr} {xs:List Value} (h:w.ownsRow aa e size (.slice A n c) n xs) (hn:0 < n):∃ g,A=some ⟨g,0,none⟩:=by
 rcases h.2 with⟨h1,h2⟩ | ⟨q,cap,bh,h1,-⟩
 ·simp only [Value.slice.injEq] at h1;omega
 ·simp only [Value.slice.injEq] at h1;exact⟨q,h1.1⟩
theorem Jk {w:World} {aa g:Nat} {e:TypeId} {size n c:Nat} {xs:List Value} (h:w.ownsRow aa e size (.slice (some ⟨g,0,none⟩) n c) n xs) (hn:0 < n) (q:Nat) (u:Value) (hq:xs[q]?=some u):w.cell? ⟨g,q,none⟩=some u:=by
 obtain⟨b,off,e1,-,hc⟩:=(RD.of_own h).2 hn;simp only [Option.some.injEq,Addr.mk.injEq,and_true] at e1;obtain⟨rfl,rfl⟩:=e1;have:=hc q u hq;rwa [Nat.zero_add] at this
theorem TK.cellO (h:TK w0 gx gy k t r ix iA ic i oA n oc Q P sA m sc S T W) {g j:Nat} {x:Bj} (hA:oA=some ⟨g,0,none⟩) (hx:Q[j]?=some x):g < W.heap.size/\w0.heap.size<=g/\W.cell? ⟨g,j * 5,none⟩=some (.int .u8 x.k)/\W.cell? ⟨g,j * 5+1,none⟩=some (.int .u32 x.t)/\W.cell? ⟨g,j * 5+2,none⟩=some (.int .u8 x.r)/\W.cell? ⟨g,j * 5+3,none⟩=some (.slice x.A x.p.length x.c)/\W.cell? ⟨g,j * 5+4,none⟩=some (.int .i64 x.z):=by
 have ho:=h.o;rw [hA] at ho;obtain⟨hj,e⟩:=List.getElem?_eq_some_iff.1 hx;have hn:=h.q;have G:∀ i,i < 5->∀ u,(x.cells)[i]?=some u->W.cell? ⟨g,j * 5+i,none⟩=some u:=fun i hi u hu=>Jk ho (by omega) _ _ (by rw [Ph Q j hj i hi,e,hu]);obtain⟨cs,h1,h2,-,-⟩:=Ld ho;exact⟨(Array.getElem?_eq_some_iff.1 h1).1,h2,G 0 (by decide) _ rfl,G 1 (by decide) _ rfl,G 2 (by decide) _ rfl,G 3 (by decide) _ rfl,G 4 (by decide) _ rfl⟩
theorem TK.cellS (h:TK w0 gx gy k t r ix iA ic i oA n oc Q P sA m sc S T W) {g j:Nat} {x:Ay} (hA:sA=some ⟨g,0,none⟩) (hx:S[j]?=some x):g < W.heap.size/\w0.heap.size<=g/\W.cell? ⟨g,j * 7,none⟩=some (.int .u32 x.t)/\W.cell? ⟨g,j * 7+1,none⟩=some (.int .u8 x.r)/\W.cell? ⟨g,j * 7+2,none⟩=some (.bool x.rd)/\W.cell? ⟨g,j * 7+3,none⟩=some (.slice x.hA x.h.length x.hc)/\W.cell? ⟨g,j * 7+4,none⟩=some (.bool x.kn)/\W.cell? ⟨g,j * 7+5,none⟩=some (.slice x.sA x.s.length x.sc)/\W.cell? ⟨g,j * 7+6,none⟩=some (.slice x.gA x.g.length x.gc):=by
 have ho:=h.s;rw [hA] at ho;obtain⟨hj,e⟩:=List.getElem?_eq_some_iff.1 hx;have hn:=h.z;have G:∀ i,i < 7->∀ u,(x.cells)[i]?=some u->W.cell? ⟨g,j * 7+i,none⟩=some u:=fun i hi u hu=>Jk ho (by omega) _ _ (by rw [Jw,Hk _ 7 (fun _=>rfl) S j hj i hi,e,hu]);obtain⟨cs,h1,h2,-,-⟩:=Ld ho;exact⟨(Array.getElem?_eq_some_iff.1 h1).1,h2,G 0 (by decide) _ rfl,G 1 (by decide) _ rfl,G 2 (by decide) _ rfl,G 3 (by decide) _ rfl,G 4 (by decide) _ rfl,G 5 (by decide) _ rfl,G 6 (by decide) _ rfl⟩
theorem Of {α:Type} (Q o:List α) (j:Nat) (x:α) (hQ:Q.length=j) (hx:o[j]?=some x):(Q++o.drop j)[j]?=some x:=by
 rw [List.getElem?_append_right (by omega),hQ,Nat.sub_self,List.getElem?_drop,Nat.add_zero,hx]
theorem Xv {α:Type} (Q o:List α) (j:Nat) (y:α) (hQ:Q.length=j) (hj:j < o.length):(Q++o.drop j).set j y=(Q++ [y])++o.drop (j+1):=by
 have h:=Gg Q (o.drop j) 0 y;rw [Nat.add_zero,hQ] at h;rw [h,List.drop_eq_getElem_cons hj,List.set_cons_zero,List.append_assoc];rfl
theorem TK.putO {g j:Nat} {a b c e:Int} {A:Option Addr} {d:Nat} {p:List Rn} (h:TK w0 gx gy k t r ix iA ic i oA n oc Q P sA m sc S T W) (hA:oA=some ⟨g,0,none⟩) (hj:j < n) (hy:W.ownsRow w0.heap.size 120 3 (.slice A p.length d) p.length (Ed p)):
 (W.frozen? ⟨g,j * 5,none⟩=false/\(W.setCell ⟨g,j * 5,none⟩ (.int .u8 a)).frozen? ⟨g,j * 5+1,none⟩=false/\((W.setCell ⟨g,j * 5,none⟩ (.int .u8 a)).setCell ⟨g,j * 5+1,none⟩ (.int .u32 b)).frozen? ⟨g,j * 5+2,none⟩=false/\(((W.setCell ⟨g,j * 5,none⟩ (.int .u8 a)).setCell ⟨g,j * 5+1,none⟩ (.int .u32 b)).setCell ⟨g,j * 5+2,none⟩ (.int .u8 c)).frozen? ⟨g,j * 5+3,none⟩=false/\((((W.setCell ⟨g,j * 5,none⟩ (.int .u8 a)).setCell ⟨g,j * 5+1,none⟩ (.int .u32 b)).setCell ⟨g,j * 5+2,none⟩ (.int .u8 c)).setCell ⟨g,j * 5+3,none⟩ (.slice A p.length d)).frozen? ⟨g,j * 5+4,none⟩=false)/\TK w0 gx gy k t r ix iA ic i oA n oc (Q.set j ⟨a,b,c,A,d,p,e⟩) (P++ [⟨a,b,c,A,d,p,e⟩]) sA m sc S T (((((W.setCell ⟨g,j * 5,none⟩ (.int .u8 a)).setCell ⟨g,j * 5+1,none⟩ (.int .u32 b)).setCell ⟨g,j * 5+2,none⟩ (.int .u8 c)).setCell ⟨g,j * 5+3,none⟩ (.slice A p.length d)).setCell ⟨g,j * 5+4,none⟩ (.int .i64 e)):=by
 have ho:=h.o;rw [hA] at ho;obtain⟨f,⟨cs,hF⟩,hg,hO,hk⟩:=Aet (⟨a,b,c,A,d,p,e⟩:Bj) _ _ _ _ _ rfl ho h.q hj;rw [<-hA] at hO;refine⟨f,((((h.b.setCell hg _).setCell hg _).setCell hg _).setCell hg _).setCell hg _,h.x.ne hF (by decide) hk,h.y.ne hF (by decide) hk,h.i.ne hF (by decide) (by decide) hk,hO,H9 h.s hF (by decide) hk,fun x hx=>?_,fun x hx=>⟨(h.ps x hx).1.ne hF (by decide) (by decide) hk,(h.ps x hx).2.1.ne hF (by decide) (by decide) hk,H9 (h.ps x hx).2.2 hF (by decide) hk⟩,by rw [List.length_set];exact h.q,h.z⟩;rcases List.mem_append.1 hx with hx | hx
 ·exact H9 (h.po x hx) hF (by decide) hk
 ·rw [List.mem_singleton] at hx;subst hx;exact H9 hy hF (by decide) hk
theorem TK.putW {g j:Nat} {a b:Int} {c d:Bool} {hA zA gA:Option Addr} {hc zc gc:Nat} {h' z':List Aq} {g':List Bool} (h:TK w0 gx gy k t r ix iA ic i oA n oc Q P sA m sc S T W) (hsA:sA=some ⟨g,0,none⟩) (hj:j < m) (hy:OW W w0.heap.size ⟨a,b,c,d,hA,hc,h',zA,zc,z',gA,gc,g'⟩):
 (W.frozen? ⟨g,j * 7,none⟩=false/\(W.setCell ⟨g,j * 7,none⟩ (.int .u32 a)).frozen? ⟨g,j * 7+1,none⟩=false/\((W.setCell ⟨g,j * 7,none⟩ (.int .u32 a)).setCell ⟨g,j * 7+1,none⟩ (.int .u8 b)).frozen? ⟨g,j * 7+2,none⟩=false/\(((W.setCell ⟨g,j * 7,none⟩ (.int .u32 a)).setCell ⟨g,j * 7+1,none⟩ (.int .u8 b)).setCell ⟨g,j * 7+2,none⟩ (.bool c)).frozen? ⟨g,j * 7+3,none⟩=false/\((((W.setCell ⟨g,j * 7,none⟩ (.int .u32 a)).setCell ⟨g,j * 7+1,none⟩ (.int .u8 b)).setCell ⟨g,j * 7+2,none⟩ (.bool c)).setCell ⟨g,j * 7+3,none⟩ (.slice hA h'.length hc)).frozen? ⟨g,j * 7+4,none⟩=false/\(((((W.setCell ⟨g,j * 7,none⟩ (.int .u32 a)).setCell ⟨g,j * 7+1,none⟩ (.int .u8 b)).setCell ⟨g,j * 7+2,none⟩ (.bool c)).setCell ⟨g,j * 7+3,none⟩ (.slice hA h'.length hc)).setCell ⟨g,j * 7+4,none⟩ (.bool d)).frozen? ⟨g,j * 7+5,none⟩=false/\((((((W.setCell ⟨g,j * 7,none⟩ (.int .u32 a)).setCell ⟨g,j * 7+1,none⟩ (.int .u8 b)).setCell ⟨g,j * 7+2,none⟩ (.bool c)).setCell ⟨g,j * 7+3,none⟩ (.slice hA h'.length hc)).setCell ⟨g,j * 7+4,none⟩ (.bool d)).setCell ⟨g,j * 7+5,none⟩ (.slice zA z'.length zc)).frozen? ⟨g,j * 7+6,none⟩=false)/\TK w0 gx gy k t r ix iA ic i oA n oc Q P sA m sc (S.set j ⟨a,b,c,d,hA,hc,h',zA,zc,z',gA,gc,g'⟩) (T++ [⟨a,b,c,d,hA,hc,h',zA,zc,z',gA,gc,g'⟩]) (((((((W.setCell ⟨g,j * 7,none⟩ (.int .u32 a)).setCell ⟨g,j * 7+1,none⟩ (.int .u8 b)).setCell ⟨g,j * 7+2,none⟩ (.bool c)).setCell ⟨g,j * 7+3,none⟩ (.slice hA h'.length hc)).setCell ⟨g,j * 7+4,none⟩ (.bool d)).setCell ⟨g,j * 7+5,none⟩ (.slice zA z'.length zc)).setCell ⟨g,j * 7+6,none⟩ (.slice gA g'.length gc)):=by
 have ho:=h.s;rw [hsA] at ho;obtain⟨f,⟨cs,hF⟩,hg,hO,hk⟩:=Ad8 (⟨a,b,c,d,hA,hc,h',zA,zc,z',gA,gc,g'⟩:Ay) _ _ _ _ _ _ _ rfl ho h.z hj;rw [<-hsA] at hO;have hw:∀ x,OW W w0.heap.size x->OW (((((((W.setCell ⟨g,j * 7,none⟩ (.int .u32 a)).setCell ⟨g,j * 7+1,none⟩ (.int .u8 b)).setCell ⟨g,j * 7+2,none⟩ (.bool c)).setCell ⟨g,j * 7+3,none⟩ (.slice hA h'.length hc)).setCell ⟨g,j * 7+4,none⟩ (.bool d)).setCell ⟨g,j * 7+5,none⟩ (.slice zA z'.length zc)).setCell ⟨g,j * 7+6,none⟩ (.slice gA g'.length gc)) w0.heap.size x:=fun x hx=>⟨hx.1.ne hF (by decide) (by decide) hk,hx.2.1.ne hF (by decide) (by decide) hk,H9 hx.2.2 hF (by decide) hk⟩;refine⟨f,((((((h.b.setCell hg _).setCell hg _).setCell hg _).setCell hg _).setCell hg _).setCell hg _).setCell hg _,h.x.ne hF (by decide) hk,h.y.ne hF (by decide) hk,h.i.ne hF (by decide) (by decide) hk,H9 h.o hF (by decide) hk,hO,fun x hx=>H9 (h.po x hx) hF (by decide) hk,fun x hx=>?_,h.q,by rw [List.length_set];exact h.z⟩;rcases List.mem_append.1 hx with hx | hx
 ·exact hw x (h.ps x hx)
 ·rw [List.mem_singleton] at hx;subst hx;exact hw _ hy
end
structure Va (w0:World) (la lb c s ix t:Nat) (C:Value->World->Prop) (P:World->Prop) (done:Nat->Bool) (ρ:Nat->Value) (W:World):Prop where
 b:done t=false->Below w0.heap.size w0 W
 k:done c=true->done t=false->C (ρ s) W
 zt:done t=true->done c=true/\done ix=true
 zi:done ix=true->done la=true
 zc:done c=true->done lb=true
 p:done t=true->P W
section
variable {w0:World} {la lb c s ix t:Nat} {C:Value->World->Prop} {P:World->Prop} {done:Nat->Bool} {ρ:Nat->Value} {W W':World}
theorem Va.start (he:Below w0.heap.size w0 W):Va w0 la lb c s ix t C P (fun _=>false) ρ W:=⟨fun _=>he,fun h=>(by cases h),fun h=>(by cases h),fun h=>(by cases h),fun h=>(by cases h),fun h=>(by cases h)⟩
theorem Va.no (h:Va w0 la lb c s ix t C P done ρ W):(done c=false->done t=false)/\(done ix=false->done t=false)/\(done la=false->done t=false)/\(done lb=false->done t=false):=by
 have h1:=h.zt;have h2:=h.zi;have h3:=h.zc;revert h1 h2 h3;cases done t <;> cases done c <;> cases done ix <;> cases done la <;> cases done lb <;> simp
theorem Va.plain (h:Va w0 la lb c s ix t C P done ρ W) (i d:Nat) (v:Value) (ha:c≠i/\t≠i/\s≠d) (hi:i=ix->done la=true):Va w0 la lb c s ix t C P (Bo done i) (Bn ρ (some d) v) W:=by
 have u1:Bo done i c=done c:=Bp ha.1;have u2:Bo done i t=done t:=Bp ha.2.1;have u3:Bn ρ (some d) v s=ρ s:=Fm ha.2.2;refine⟨by rw [u2];exact h.b,by rw [u1,u2,u3];exact h.k,by rw [u1,u2];exact fun e=>⟨(h.zt e).1,B9 (h.zt e).2⟩,fun e=>?_,by rw [u1];exact fun e=>B9 (h.zc e),by rw [u2];exact h.p⟩;by_cases hx:i=ix
 ·exact B9 (hi hx)
 ·rw [Bp (fun e=>hx e.symm)] at e;exact B9 (h.zi e)
theorem Va.call (h:Va w0 la lb c s ix t C P done ρ W) (hct:c≠t/\ix≠c) (hn:done c=false) (XZ:done lb=true) {v:Value} (hv:C v W') (hb:Below W.heap.size W W'):Va w0 la lb c s ix t C P (Bo done c) (Bn ρ (some s) v) W':=by
 have ht:=h.no.1 hn;have u2:Bo done c t=false:=by rw [Bp hct.1.symm];exact ht
 refine⟨fun _=>Ad (h.b ht) hb,fun _ _=>by rw [Ot];exact hv,fun e=>(by rw [u2] at e;cases e),fun e=>?_,fun _=>B9 XZ,fun e=>(by rw [u2] at e;cases e)⟩;rw [Bp hct.2] at e;exact B9 (h.zi e)
theorem Va.store (h:Va w0 la lb c s ix t C P done ρ W) (hct:c≠t/\ix≠t) (hc:done c=true/\done ix=true) (hP:P W') {u:Value}:Va w0 la lb c s ix t C P (Bo done t) (Bn ρ none u) W':=by
 have u1:Bo done t c=true:=by rw [Bp hct.1];exact hc.1
 have u3:Bo done t ix=true:=by rw [Bp hct.2];exact hc.2
 have u2:Bo done t t=true:=Oq _ _;exact⟨fun e=>(by rw [u2] at e;cases e),fun _ e=>(by rw [u2] at e;cases e),fun _=>⟨u1,u3⟩,fun _=>B9 (h.zi hc.2),fun _=>B9 (h.zc hc.1),fun _=>hP⟩
end
theorem RD.none_zero {w:World} {B size n:Nat} {xs:List Value} (h:RD w B size none n xs):n=0:=by
 rcases Nat.eq_zero_or_pos n with h0 | h0
 ·exact h0
 ·obtain⟨b,off,e,-⟩:=h.2 h0;cases e
theorem Ru (w:World) (a:Option Addr) (n c:Nat):(binOp .eql 77 (.slice a n c) (.slice none 0 0)).run Tryz.prog w= .ok (.bool a.isNone) w:=by
 unfold binOp;simp [run_equal_slice_nil w 77 4 a n c Tryz.underlying77]
theorem Adj (A:Option Addr) (n c:Nat) (xs:List Value) (w:World) (hr:RD w w.heap.size 1 A n xs) (fy:∀ u∈xs,u.oneCell'=true) (hl:n < 1073741824) (ff:A=none->c=0):
 Calls Tryz.prog 68 #[.slice A n c] w fun e w'=>∃ v,e= .returned v/\w'.ownsRow w.heap.size 4 1 v n xs/\Below w.heap.size w w':=by
 obtain⟨i0,cr,cb,cu,cq⟩:=info_parts Sc;rcases A with _ | a
 ·have NU:=hr.none_zero;subst NU;obtain rfl:=ff rfl;have hx:xs= []:=List.eq_nil_of_length_eq_zero (by rw [hr.1,Nat.zero_mul]);subst hx;clear ff;have AH:=fun w:World=>Ru w none 0 0;go_enter Tryz.func68,Tryz.ntmps68;go_wp2_with fail;go_ret;exact⟨_,rfl,World.ownsRow_nil _ _ _ _,Below.refl _ _⟩
 ·clear ff;have AH:=fun w:World=>Ru w (some a) n c;go_enter Tryz.func68,Tryz.ntmps68;go_wp2_with (at_builtin;refine Ba _ rfl (.tmp 5) (.tmp 6) 77 rfl w.heap.size 4 i0 (.bool false) 1 1 Tryz.underlying77 cr cb cu cq rfl (by decide) _ 0 [] rfl (Fx w _ _ _ (Nat.le_refl _)) w.heap.size (some a) n c xs rfl (RD.alloc hr (Nat.le_refl _) _) fy (by omega) (by decide) (by simp) ?_;intro v1 w1 aq ac;simp only [Nat.zero_add,List.nil_append] at aq);go_ret;exact⟨_,rfl,aq,(Bf w _).trans ac⟩
theorem Q4 (w:World) (a:Option Addr) (n c:Nat):(binOp .eql 48 (.slice a n c) (.slice none 0 0)).run Tryz.prog w= .ok (.bool a.isNone) w:=by
 unfold binOp;simp [run_equal_slice_nil w 48 104 a n c Tryz.underlying48]
theorem Acp (A:Option Addr) (n c:Nat) (xs:List Value) (w:World) (hr:RD w w.heap.size 5 A n xs) (fy:∀ u∈xs,u.oneCell'=true) (hl:n < 1073741824) (ff:A=none->c=0):
 Calls Tryz.prog 65 #[.slice A n c] w fun e w'=>∃ v,e= .returned v/\w'.ownsRow w.heap.size 104 5 v n xs/\Below w.heap.size w w':=by
 obtain⟨i0,cr,cb,cu,cq⟩:=info_parts Sa;rcases A with _ | a
 ·have NU:=hr.none_zero;subst NU;obtain rfl:=ff rfl;have hx:xs= []:=List.eq_nil_of_length_eq_zero (by rw [hr.1,Nat.zero_mul]);subst hx;clear ff;have AH:=fun w:World=>Q4 w none 0 0;go_enter Tryz.func65,Tryz.ntmps65;go_wp2_with fail;go_ret;exact⟨_,rfl,World.ownsRow_nil _ _ _ _,Below.refl _ _⟩
 ·clear ff;have AH:=fun w:World=>Q4 w (some a) n c;go_enter Tryz.func65,Tryz.ntmps65;go_wp2_with (at_builtin;refine Ba _ rfl (.tmp 5) (.tmp 6) 48 rfl w.heap.size 104 i0 (.agg #[.int .u8 0,.int .u32 0,.int .u8 0,.slice none 0 0,.int .i64 0]) 5 48 Tryz.underlying48 cr cb cu cq rfl (by decide) _ 0 [] rfl (Fx w _ _ _ (Nat.le_refl _)) w.heap.size (some a) n c xs rfl (RD.alloc hr (Nat.le_refl _) _) fy (by omega) (by decide) (by simp) ?_;intro v1 w1 aq ac;simp only [Nat.zero_add,List.nil_append] at aq);go_ret;exact⟨_,rfl,aq,(Bf w _).trans ac⟩
theorem Qn (w:World) (a:Option Addr) (n c:Nat):(binOp .eql 49 (.slice a n c) (.slice none 0 0)).run Tryz.prog w= .ok (.bool a.isNone) w:=by
 unfold binOp;simp [run_equal_slice_nil w 49 79 a n c Tryz.underlying49]
theorem Acb (A:Option Addr) (n c:Nat) (xs:List Value) (w:World) (hr:RD w w.heap.size 7 A n xs) (fy:∀ u∈xs,u.oneCell'=true) (hl:n < 1073741824) (ff:A=none->c=0):
 Calls Tryz.prog 66 #[.slice A n c] w fun e w'=>∃ v,e= .returned v/\w'.ownsRow w.heap.size 79 7 v n xs/\Below w.heap.size w w':=by
 obtain⟨i0,cr,cb,cu,cq⟩:=info_parts Oz;rcases A with _ | a
 ·have NU:=hr.none_zero;subst NU;obtain rfl:=ff rfl;have hx:xs= []:=List.eq_nil_of_length_eq_zero (by rw [hr.1,Nat.zero_mul]);subst hx;clear ff;have AH:=fun w:World=>Qn w none 0 0;go_enter Tryz.func66,Tryz.ntmps66;go_wp2_with fail;go_ret;exact⟨_,rfl,World.ownsRow_nil _ _ _ _,Below.refl _ _⟩
 ·clear ff;have AH:=fun w:World=>Qn w (some a) n c;go_enter Tryz.func66,Tryz.ntmps66;go_wp2_with (at_builtin;refine Ba _ rfl (.tmp 5) (.tmp 6) 49 rfl w.heap.size 79 i0 (.agg #[.int .u32 0,.int .u8 0,.bool false,.slice none 0 0,.bool false,.slice none 0 0,.slice none 0 0]) 7 96 Tryz.underlying49 cr cb cu cq rfl (by decide) _ 0 [] rfl (Fx w _ _ _ (Nat.le_refl _)) w.heap.size (some a) n c xs rfl (RD.alloc hr (Nat.le_refl _) _) fy (by omega) (by decide) (by simp) ?_;intro v1 w1 aq ac;simp only [Nat.zero_add,List.nil_append] at aq);go_ret;exact⟨_,rfl,aq,(Bf w _).trans ac⟩
end Go.Proofs.YtmkpfdcnikgokaaGreat
