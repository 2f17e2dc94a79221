/-
  Texts of this claim, put together: RefGet, Open, OpenRuns, OpenOp, OpenOps, OpenMail. What each theorem asks stands in its statement.
-/
import Derived.Lib.SmallJoins
import Derived.Deep.SlicePairs
import Derived.Test.YtmkpfdcnikgokaaGreatMd50
set_option linter.unusedVariables false
set_option linter.unusedSimpArgs false
set_option maxRecDepth 100000
set_option maxHeartbeats 25600000
namespace Go.Proofs.YtmkpfdcnikgokaaGreat
open Go.RowKit
def Ab5 (w w':World) (e:Ending) (b:List UInt8):Prop:=∃ x:Av,e= .returned (.tuple #[x.val,.int .i64 (I3 b)])/\x.mp=(Jx b).getD mp0/\RM w' w'.heap.size x/\Gm x/\Below w.heap.size w w'
theorem Tt {w w':World} {b:List UInt8} {k:Int} (h:I3 b=k) (hk:k≠0) (hb:Below w.heap.size w w'):Ab5 w w' (.returned (.tuple #[Ci 0 0 0 0 (.slice none 0 0) (.slice none 0 0) (.slice none 0 0),.int .i64 k])) b:=by
 have hm:Jx b=none:=by
  cases hx:Jx b with
  | none=>rfl
  | some x=>exact (hk (by rw [<-h];exact (Rr b).2 (by rw [hx];rfl))).elim
 exact⟨m0L,by rw [h];rfl,by rw [hm];rfl,Xj _ _,To,hb⟩
theorem Ack {w w':World} {b:List UInt8} {x:Av} {v:Value} (h:Jx b=some x.mp) (hv:v=x.val) (hr:RM w' w'.heap.size x) (ho:Gm x) (hb:Below w.heap.size w w'):Ab5 w w' (.returned (.tuple #[v,.int .i64 0])) b:=
 ⟨x,by rw [(Rr b).2 (by rw [h];rfl),hv],by rw [h];rfl,hr,ho,hb⟩
theorem Aau (A:Option Addr) (n c:Nat) (b:List UInt8) (w:World) (hr:RB w w.heap.size A b) (hn:b.length=n) (hc:n<=c) (hl:n < 30000):
 Calls Tryz.prog 24 #[.slice A n c] w fun e w'=>Ab5 w w' e b:=by
 subst hn;obtain⟨w1,au,F1,af,ac⟩:=Am w (.int .u8 0) (.int .u32 0) (.int .u8 0) (.int .i64 0) (.slice none 0 0) (.slice none 0 0) (.slice none 0 0);obtain⟨gx,an⟩:∃ q,q=w.heap.size:=⟨_,rfl⟩;have av:=Aa an;rw [<-an] at F1;have az:=Aa F1;have hO:=Aa (Us A c b w1 ((RD.below hr ac).more ac.size) hc hl);have dn:=Aa au;have eu:=Aa ac;have jz:gx < w1.heap.size:=by rw [an];exact af
 clear hr hc F1 au af ac an;go_enter Tryz.func24,Tryz.ntmps24;go_wp2_with fail;rw [dn.out,<-av.out];refine hO.out.mono ?_;rintro e w2 ⟨ho,ae⟩;unfold Ex at ho;have db:=Aa (az.out.below ae);have fh:=Aa (Ad eu.out ae)
 cases hm:J3 b with
 | none=>
   rw [hm] at ho;subst ho;have MF:=Aa (show I3 b=30 by unfold I3;rw [hm]);obtain⟨f0,f1,f2,f3,f4,f5,f6,FZ,ch⟩:=Fl db.out fh.out (w:=w) (Nat.le_of_eq av.out.symm);obtain⟨y0,y1,y2,y3,y4,y5,y6⟩:=db.out.cells;have da:=Aa FZ;have fb:=Aa ch;clear FZ ch hO hm ae;go_wp2_with fail;obtain⟨v0,v1,v2,v3,v4,v5,v6⟩:=da.out.cells;refine bodyPost_ret (v:= .tuple #[Ci 0 0 0 0 (.slice none 0 0) (.slice none 0 0) (.slice none 0 0),.int .i64 30]) (by simp [results,Tryz.results24,go_sem,v0,v1,v2,v3,v4,v5,v6]) rfl ?_;exact Tt MF.out (by decide) fb.out
 | some m=>
   rw [hm] at ho;obtain⟨v,rfl,ah⟩:=ho;obtain⟨-,hm16⟩:=He hm;obtain⟨A2,c2,rfl,pc,dy,gj⟩:=Ao ah;have n7:A2=none->c2=0:=by
    intro h;subst h;rcases ah.2 with⟨h1,-⟩ | ⟨k,cap,bh,h1,-⟩
    ·simp only [Value.slice.injEq] at h1;exact h1.2.2
    ·simp at h1
   have hP:=Aa (Aee A2 m.length c2 m w2 (Gp.of_own ah (Nat.le_refl _)) rfl pc n7 (by omega));have Hcm:=Aa (show I3 b=Ow m by unfold I3;rw [hm]);have Hmm:=Aa (show Jx b=G1 m by unfold Jx;rw [hm];rfl);clear ah hm hm16 hO ae pc dy gj n7;go_wp2_with fail;refine hP.out.mono ?_;rintro e w3 ⟨x,rfl,ba,IN,ZC,ag⟩;obtain⟨k,t,r,ix,iA,ic,i,oA,oc,o,sA,sc,s⟩:=x;obtain⟨w5,b9,F5,fi,bq⟩:=Am w3 (.int .u8 k) (.int .u32 t) (.int .u8 r) (.int .i64 ix) (.slice iA i.length ic) (.slice oA o.length oc) (.slice sA s.length sc);obtain⟨gy,fe⟩:∃ q,q=w3.heap.size:=⟨_,rfl⟩;have km:=Aa fe;rw [<-fe] at F5;have GO:=Ad ag bq;have cl:=Aa (db.out.below GO);have ja:=Aa (Ad fh.out GO);have rp:=Aa F5;have HX5:=Aa (IN.below bq);have js:=Aa ZC;have OB:=Aa b9;obtain⟨is,his⟩:∃ q,(G1 m).isSome=q:=⟨_,rfl⟩;rw [his];have His:=Aa his;have YG:=Aa ba;obtain⟨y0,y1,y2,y3,y4,y5,y6⟩:=cl.out.cells;obtain⟨z0,z1,z2,z3,z4,z5,z6⟩:=rp.out.cells;clear F5 fi bq ag GO IN ZC ba his fe hP db fh az eu b9;simp only [Av.val]
   cases is with
   | false=>
     have MF:=Aa (show I3 b=8 by
      rw [Hcm.out]
      have:=His.out
      cases hg:G1 m with
      | none=>unfold Ow;rw [hg];rfl
      | some q=>rw [hg] at this;cases this)
     obtain⟨f0,f1,f2,f3,f4,f5,f6,FZ,ch⟩:=Fl cl.out ja.out (w:=w) (Nat.le_of_eq av.out.symm);have da:=Aa FZ;have fb:=Aa ch;have b9:=OB.out;rw [<-b9] at f0 f1 f2 f3 f4 f5 f6 y0 y1 y2 y3 y4 y5 y6;clear FZ ch b9 HX5 YG z0 z1 z2 z3 z4 z5 z6;go_wp2_with fail;rw [OB.out];obtain⟨v0,v1,v2,v3,v4,v5,v6⟩:=da.out.cells;refine bodyPost_ret (v:= .tuple #[Ci 0 0 0 0 (.slice none 0 0) (.slice none 0 0) (.slice none 0 0),.int .i64 8]) (by simp [results,Tryz.results24,go_sem,v0,v1,v2,v3,v4,v5,v6]) rfl ?_;exact Tt MF.out (by decide) fb.out
   | true=>
     have hmail:=Aa (show Jx b=some (Av.mp ⟨k,t,r,ix,iA,ic,i,oA,oc,o,sA,sc,s⟩) by
      rw [Hmm.out]
      have h1:=His.out
      have h2:=YG.out
      cases hg:G1 m with
      | none=>rw [hg] at h1;cases h1
      | some q=>rw [hg] at h2;rw [h2];rfl)
     obtain⟨f0,f1,f2,f3,f4,f5,f6,FZ,ch⟩:=Kb (.int .u8 k) (.int .u32 t) (.int .u8 r) (.int .i64 ix) (.slice iA i.length ic) (.slice oA o.length oc) (.slice sA s.length sc) cl.out ja.out (Nat.le_of_eq av.out.symm);have da:=Aa FZ;have fb:=Aa ch;have HXZ:=Aa (HX5.out.fill (.int .u8 k) (.int .u32 t) (.int .u8 r) (.int .i64 ix) (.slice iA i.length ic) (.slice oA o.length oc) (.slice sA s.length sc) cl.out).rm;have b9:=OB.out;rw [<-b9] at f0 f1 f2 f3 f4 f5 f6 y0 y1 y2 y3 y4 y5 y6 z0 z1 z2 z3 z4 z5 z6;rw [km.out] at z0 z1 z2 z3 z4 z5 z6;clear FZ ch b9 HX5 YG;go_wp2_with fail;rw [OB.out];obtain⟨v0,v1,v2,v3,v4,v5,v6⟩:=da.out.cells;refine bodyPost_ret (v:= .tuple #[Ci k t r ix (.slice iA i.length ic) (.slice oA o.length oc) (.slice sA s.length sc),.int .i64 0]) (by simp [results,Tryz.results24,go_sem,v0,v1,v2,v3,v4,v5,v6]) rfl ?_;exact Ack (x:=⟨k,t,r,ix,iA,ic,i,oA,oc,o,sA,sc,s⟩) hmail.out rfl HXZ.out js.out fb.out
end Go.Proofs.YtmkpfdcnikgokaaGreat
namespace Go.Proofs.YtmkpfdcnikgokaaGreat
open Go.ChangeShapes Go.WideShapes Go.ChangeAt Go.RowKit
theorem own:ownKnob Tryz.prog.godebug=none:=by kernel_rfl
theorem Sn:laidOutB Tryz.prog=true:=by kernel_rfl
theorem Wu {H:Type} {enc:TypeId×Value->H} {P:Program} {W:World} {b0 aa:Nat} {r:Reach} {spare:Nat->Bool} {held:Bool} {t e:TypeId} {v:Value} {d:DataW H} {p:List MemPlace}
 (ht:P.underlying t=some (.slice e)) (he:P.underlying e=some (.int .u8)) (hC:P.cellsOf e=1) (hv:Value.okWide P W r b0 t v) (h:DataW.Trod enc P W aa spare held t v d p):
 ∃ A l c,v= .slice A (List.length (α:=UInt8) l) c/\RB W W.heap.size A l/\l.length<=c/\c<=maxLen:=by
 obtain⟨A,n,c,rfl⟩:=okWide_slice ht hv;obtain⟨dv,hf⟩:=h;rcases open_ints ht he hC hf with⟨fu,_⟩ | ⟨x,l,c',zs,fu,_,hl,hm,hz,_,nu,BN⟩
 ·simp [Value.cells] at fu;obtain⟨rfl,rfl,rfl⟩:=fu;exact⟨none, [],0,rfl,RD.nil_,Nat.le_refl _,Nat.zero_le _⟩
 ·simp [Value.cells] at fu;obtain⟨rfl,rfl,rfl⟩:=fu;have xg:n<=zs.length:=by rw [hz];split <;> omega
  have hb:∀ n:Int,(Lit.int .u8 n).wf=true->((UInt8.ofNat n.toNat).toNat:Int)=n:=by
   intro k hn;simp [Lit.wf,IntKind.min,IntKind.max,IntKind.signed,IntKind.bits] at hn;rw [UInt8.toNat_ofNat',Nat.mod_eq_of_lt (by omega)];omega
  refine⟨some x,(zs.take n).map (fun n=>UInt8.ofNat n.toNat),c,?_,?_,by simp;omega,hm⟩
  ·simp [Nat.min_eq_left xg]
  ·refine⟨by simp [Ob],fun hn=>?_⟩;simp only [List.length_map,List.length_take,Nat.min_eq_left xg] at hn;have h0:=nu 0 (by omega);have NB:x.spot=none:=by
    have:=World.cell?_spot h0;simpa [Addr.add] using this
   obtain⟨b,off,spot⟩:=x;simp only at NB;subst NB;refine⟨b,off,rfl,by have:=World.block_lt_of_cell? W _ h0;simpa [Addr.add] using this,fun j u hu=>?_⟩;have hj:j < n:=by
    have:=(List.getElem?_eq_some_iff.1 hu).1;simp [Ob] at this;omega
   have hc:=nu j (by omega);rw [Fk] at hc;rw [hc,<-hu];have hjz:j < zs.length:=by omega
   simp only [Cw,List.map_map,List.getElem?_map,List.getElem?_take,if_pos hj,List.getElem?_eq_getElem hjz,List.getD_eq_getElem?_getD,Option.getD_some,Option.map_some,Function.comp];rw [hb _ (BN _ (List.getElem_mem hjz))]
end Go.Proofs.YtmkpfdcnikgokaaGreat
namespace Go.Proofs.YtmkpfdcnikgokaaGreat
open Go.Joins Go.ChangeShapes Go.WideShapes Go.ChangeAt Go.RowKit Go.Deep
theorem Aeu {t r m:Int} (h1:(Lit.int .u32 t).wf=true) (h2:(Lit.int .u8 r).wf=true) (h3:(Lit.int .i64 m).wf=true):Gl (t,r,m):=by
 simp [Lit.wf,IntKind.min,IntKind.max,IntKind.signed,IntKind.bits] at h1 h2 h3;unfold Gl;simp only;omega
theorem Aev {t r:Int} (h1:(Lit.int .u32 t).wf=true) (h2:(Lit.int .u8 r).wf=true):X5 (t,r):=by
 simp [Lit.wf,IntKind.min,IntKind.max,IntKind.signed,IntKind.bits] at h1 h2;unfold X5;simp only;omega
theorem S8 {H:Type} {enc:TypeId×Value->H} {P:Program} {W:World} {aa:Nat} {spare:Nat->Bool} {held:Bool} {t e:TypeId} {f0 f1 f2:Field} {cs:List Value} {y:DataW H×List MemPlace} {dv:Nat}
 (ht:P.underlying t=some (.slice e)) (he:P.underlying e=some (.struct #[f0,f1,f2])) (ce:P.cellsOf e=3) (o0:f0.offset=0) (o1:f1.offset=1) (o2:f2.offset=2) (c0:P.cellsOf f0.type=1) (c1:P.cellsOf f1.type=1) (c2:P.cellsOf f2.type=1)
 (h0:P.underlying f0.type=some (.int .u32)) (h1:P.underlying f1.type=some (.int .u8)) (h2:P.underlying f2.type=some (.int .i64)) (hf:DataW.trod enc P W aa spare held dv t cs=some y):
 ∃ A l c,cs= [.slice A (List.length (α:=Rn) l) c]/\RR W W.heap.size A l/\l.length<=c/\c<=maxLen/\(∀ x∈l,Gl x)/\(A=none->c=0):=by
 rcases open_slice ht hf with⟨fu,_⟩ | ⟨x,n,c,m,n',D,Pl,fu,_,hl,hm,hmm,_,hx⟩
 ·subst fu;exact⟨none, [],0,rfl,RD.nil_,Nat.le_refl _,Nat.zero_le _,fun a ha=>(by cases ha),fun _=>rfl⟩
 ·subst fu;have FQ:n<=m:=by rw [hmm];split <;> omega
  have xy:∀ i,∃ q:Rn,i < n->Gl q/\W.cell? (x.add (i * 3))=some (.int .u32 q.1)/\W.cell? (x.add (i * 3+1))=some (.int .u8 q.2.1)/\W.cell? (x.add (i * 3+2))=some (.int .i64 q.2.2):=by
   intro i;by_cases hi:i < n
   ·obtain⟨cs',k1,k2⟩:=hx i (by omega);rw [ce] at k1;obtain⟨_,cn,nu⟩:=World.cells?_some k1;obtain⟨xs,k,hk,jy,_,hxl,hg⟩:=DataW.trod_struct he k2
    match xs,hxl,cs',cn with
    | [y0,y1,y2],_, [v0,v1,v2],_=>
      have g0:=hg 0 f0 rfl;have g1:=hg 1 f1 rfl;have g2:=hg 2 f2 rfl;simp [o0,o1,o2,c0,c1,c2] at g0 g1 g2;have e0:=nu 0 (by omega);have e1:=nu 1 (by omega);have e2:=nu 2 (by omega);rw [add_add] at e0 e1 e2;obtain⟨a,q0,-,wa⟩:=DataW.trod_int h0 g0;obtain⟨b,q1,-,wb⟩:=DataW.trod_int h1 g1;obtain⟨d,q2,-,wd⟩:=DataW.trod_int h2 g2;simp only [List.cons.injEq,and_true] at q0 q1 q2;subst q0 q1 q2;exact⟨(a,b,d),fun _=>⟨Aeu wa wb wd,by simpa using e0,by simpa using e1,by simpa using e2⟩⟩
   ·exact⟨(0,0,0),fun h=>absurd h hi⟩
  obtain⟨F,hF⟩:=Classical.axiomOfChoice xy;refine⟨some x,(List.range n).map F,c,by simp,?_,by simpa using hl,hm,?_,fun h=>(by cases h)⟩
  ·unfold RR;rw [List.length_map,List.length_range];refine⟨by rw [Sd];simp,fun hn=>?_⟩;obtain⟨_,k0,_⟩:=hF 0 hn;have NB:x.spot=none:=by
    have:=World.cell?_spot k0;simpa [Addr.add] using this
   obtain⟨bk,off,spot⟩:=x;simp only at NB;subst NB;refine⟨bk,off,rfl,by have:=World.block_lt_of_cell? W _ k0;simpa [Addr.add] using this,fun j u hu=>?_⟩;have hj:j < n * 3:=by
    have:=(List.getElem?_eq_some_iff.1 hu).1;rw [Sd] at this;simpa using this
   have hi:j / 3 < n:=by omega
   obtain⟨_,k0,k1,k2⟩:=hF (j / 3) hi;obtain⟨g0,g1,g2⟩:=Od ((List.range n).map F) (j / 3) (by simpa using hi);simp only [List.getElem_map,List.getElem_range] at g0 g1 g2;rw [Fk] at k0 k1 k2;have VR:j % 3=0\/j % 3=1\/j % 3=2:=by omega
   rcases VR with hp | hp | hp
   ·have e:j / 3 * 3=j:=by omega
    rw [e] at k0 g0;rw [k0,<-hu,g0]
   ·have e:j / 3 * 3+1=j:=by omega
    rw [e] at k1 g1;rw [k1,<-hu,g1]
   ·have e:j / 3 * 3+2=j:=by omega
    rw [e] at k2 g2;rw [k2,<-hu,g2]
  ·intro a ha;simp only [List.mem_map,List.mem_range] at ha;obtain⟨i,hi,rfl⟩:=ha;exact (hF i hi).1
theorem Lo {H:Type} {P:Program} {e:TypeId}:∀ {l:List (DataW H)} {d:DataW H},d∈l->∀ n∈d.weights P e,n∈DataW.weightsAll P e l
 | d' :: r,d,hd,n,hn=>by
   simp only [DataW.weightsAll,List.mem_append];rcases List.mem_cons.1 hd with rfl | h
   ·exact Or.inl hn
   ·exact Or.inr (Lo h n hn)
theorem Mu {H:Type} {enc:TypeId×Value->H} {P:Program} {W:World} {aa:Nat} {spare:Nat->Bool} {held:Bool} {t e:TypeId} {A:Option Addr} {n c:Nat} {y:DataW H×List MemPlace} {dv N:Nat}
 (ht:P.underlying t=some (.slice e)) (hf:DataW.trod enc P W aa spare held dv t [.slice A n c]=some y) (hN:∀ n∈y.1.weights P t,n<=N):n * P.bytesOf e<=N:=by
 rcases open_slice ht hf with⟨fu,_⟩ | ⟨x,l,c',m,n',D,Pl,fu,_,hl,hm,hmm,hy,hx⟩
 ·simp at fu;obtain⟨-,rfl,-⟩:=fu;simp
 ·simp only [List.cons.injEq,Value.slice.injEq,and_true] at fu;obtain⟨-,rfl,-⟩:=fu;rw [hy] at hN;have h:=hN _ (by simp only [DataW.weights,ht];exact List.mem_cons_self);refine Nat.le_trans ?_ h;refine Nat.mul_le_mul_right _ ?_;rw [List.length_map,List.length_range];exact Nat.le_add_right _ _
theorem Wt {H:Type} {enc:TypeId×Value->H} {P:Program} {W:World} {aa:Nat} {spare:Nat->Bool} {held:Bool} {t e:TypeId} {f0 f1 f2 f3 g0 g1 k0 k1 k2:Field} {cs:List Value} {y:DataW H×List MemPlace} {dv:Nat}
 (hs:P.underlying t=some (.struct #[f0,f1,f2,f3])) (hC:P.cellsOf t=5) (a0:f0.offset=0) (a1:f1.offset=1) (a2:f2.offset=3) (a3:f3.offset=4)
 (d0:P.cellsOf f0.type=1) (d1:P.cellsOf f1.type=2) (d2:P.cellsOf f2.type=1) (d3:P.cellsOf f3.type=1)
 (u0:P.underlying f0.type=some (.int .u8)) (u1:P.underlying f1.type=some (.struct #[g0,g1])) (ht:P.underlying f2.type=some (.slice e)) (u3:P.underlying f3.type=some (.int .i64))
 (b0':g0.offset=0) (b1':g1.offset=1) (x0:P.cellsOf g0.type=1) (x1:P.cellsOf g1.type=1) (y0:P.underlying g0.type=some (.int .u32)) (y1:P.underlying g1.type=some (.int .u8))
 (he:P.underlying e=some (.struct #[k0,k1,k2])) (ce:P.cellsOf e=3) (o0:k0.offset=0) (o1:k1.offset=1) (o2:k2.offset=2) (c0:P.cellsOf k0.type=1) (c1:P.cellsOf k1.type=1) (c2:P.cellsOf k2.type=1)
 (h0:P.underlying k0.type=some (.int .u32)) (h1:P.underlying k1.type=some (.int .u8)) (h2:P.underlying k2.type=some (.int .i64))
 (hf:DataW.trod enc P W aa spare held dv t cs=some y):
 ∃ x:Bj,cs=x.cells/\(0<=x.k/\X5 (x.t,x.r)/\∀ q∈x.p,Gl q)/\RR W W.heap.size x.A x.p/\(x.A=none->x.c=0)/\∀ N,(∀ n∈y.1.weights P t,n<=N)->x.p.length * P.bytesOf e<=N:=by
 obtain⟨xs,n,_,hy,SK,cn,hg⟩:=DataW.trod_struct hs hf;rw [hC] at SK
 match cs,SK with
 | [v0,v1,v2,v3,v4],_=>
 match xs,cn with
 | [q0,q1,q2,q3],_=>
   have j0:=hg 0 f0 rfl;have j1:=hg 1 f1 rfl;have j2:=hg 2 f2 rfl;have j3:=hg 3 f3 rfl;simp [a0,a1,a2,a3,d0,d1,d2,d3] at j0 j1 j2 j3;obtain⟨k,e0,-,w0⟩:=DataW.trod_int u0 j0;obtain⟨z,e3,-,w3⟩:=DataW.trod_int u3 j3;obtain⟨z0,z1,m,_,_,i0,i1⟩:=trod_struct2 u1 j1;simp [b0',b1',x0,x1] at i0 i1;obtain⟨tt,e1,-,w1⟩:=DataW.trod_int y0 i0;obtain⟨rr,e2,-,w2⟩:=DataW.trod_int y1 i1;simp only [List.cons.injEq,and_true] at e0 e1 e2 e3;subst e0 e1 e2 e3;obtain⟨A,l,c,ea,hr,hc,hm,hw,hn⟩:=S8 ht he ce o0 o1 o2 c0 c1 c2 h0 h1 h2 j2;simp only [List.cons.injEq,and_true] at ea;subst ea;simp [Lit.wf,IntKind.min,IntKind.max,IntKind.signed,IntKind.bits] at w0;refine⟨⟨k,tt,rr,A,c,l,z⟩,rfl,⟨by simp only;omega,Aev w1 w2,hw⟩,hr,hn,fun N hN=>Mu ht j2 fun n hn=>hN n ?_⟩;rw [hy];simp only [DataW.weights,hs];exact DataW.weights_mem_each (j:=2) (t:=f2.type) (d:=q2.1) rfl rfl n hn
theorem Ie {H:Type} {enc:TypeId×Value->H} {P:Program} {W:World} {aa:Nat} {spare:Nat->Bool} {held:Bool} {ts t:TypeId} {k:Nat} {α:Type} (dflt:α) (cells:α->List Value) (ok:α->Prop) (wt:Nat->α->Prop)
 (hts:P.underlying ts=some (.slice t)) (hC:P.cellsOf t=k) (hk:0 < k) (cn:∀ x,(cells x).length=k)
 (helem:∀ dv cs y,DataW.trod enc P W aa spare held dv t cs=some y->∃ x,cs=cells x/\ok x/\∀ N,(∀ n∈y.1.weights P t,n<=N)->wt N x)
 {cs:List Value} {y:DataW H×List MemPlace} {dv:Nat} (hf:DataW.trod enc P W aa spare held dv ts cs=some y):
 ∃ A L c,cs= [.slice A (List.length (α:=α) L) c]/\RD W W.heap.size k A L.length (L.flatMap cells)/\(A=none->c=0)/\(∀ x∈L,ok x)/\∀ N,(∀ n∈y.1.weights P ts,n<=N)->L.length * P.bytesOf t<=N/\∀ x∈L,wt N x:=by
 rcases open_slice hts hf with⟨fu,_⟩ | ⟨x,n,c,m,n',D,Pl,fu,_,hl,hm,hmm,hy,hx⟩
 ·exact⟨none, [],0,fu,RD.nil_,fun _=>rfl,fun a ha=>(by cases ha),fun N _=>⟨by simp,fun a ha=>by cases ha⟩⟩
 ·have hwt:∀ N,(∀ n∈y.1.weights P ts,n<=N)->n * P.bytesOf t<=N:=fun N hN=>Mu hts (fu ▸ hf) hN;have FQ:n<=m:=by rw [hmm];split <;> omega
  have xy:∀ i,∃ q:α,i < n->(∀ j,j < k->∀ u,(cells q)[j]?=some u->W.cell? (x.add (i * k+j))=some u)/\ok q/\∀ N,(∀ n∈(D i).weights P t,n<=N)->wt N q:=by
   intro i;by_cases hi:i < n
   ·obtain⟨cs',k1',ZU⟩:=hx i (by omega);rw [hC] at k1';obtain⟨_,hlen',nu⟩:=World.cells?_some k1';obtain⟨q,rfl,q1,q2⟩:=helem _ _ _ ZU;refine⟨q,fun _=>⟨fun j hj u hu=>?_,q1,q2⟩⟩;have e:=nu j (by omega);rw [add_add] at e;rw [e];simpa using hu
   ·exact⟨dflt,fun h=>absurd h hi⟩
  obtain⟨F,hF⟩:=Classical.axiomOfChoice xy;refine⟨some x,(List.range n).map F,c,by simpa using fu,?_,fun h=>(by cases h),?_,fun N hN=>⟨by simpa using hwt N hN,?_⟩⟩
  ·rw [List.length_map,List.length_range];have QK:((List.range n).map F).length=n:=by simp
   refine⟨by rw [Nl cells k cn,QK],fun hn=>?_⟩;obtain⟨k0',-⟩:=hF 0 hn;obtain⟨u0,hu0⟩:∃ u,(cells (F 0))[0]?=some u:=⟨_,List.getElem?_eq_getElem (by rw [cn];exact hk)⟩;have k0'':=k0' 0 hk _ hu0;have NB:x.spot=none:=by
    have:=World.cell?_spot k0'';simpa [Addr.add] using this
   obtain⟨bk,off,spot⟩:=x;simp only at NB;subst NB;refine⟨bk,off,rfl,by have:=World.block_lt_of_cell? W _ k0'';simpa [Addr.add] using this,fun j u hu=>?_⟩;have hj:j < n * k:=by
    have:=(List.getElem?_eq_some_iff.1 hu).1;rwa [Nl cells k cn,QK] at this
   have hi:j / k < n:=Nat.div_lt_of_lt_mul (by rwa [Nat.mul_comm]);have hjk:j / k * k+j % k=j:=by rw [Nat.mul_comm];exact Nat.div_add_mod j k
   have hg:=Hk cells k cn ((List.range n).map F) (j / k) (by simpa using hi) (j % k) (Nat.mod_lt _ hk);rw [hjk] at hg
   have mj:=(hF (j / k) hi).1 (j % k) (Nat.mod_lt _ hk) u (by
    rw [hg] at hu
    simpa using hu)
   rw [hjk,Fk] at mj;exact mj
  ·intro a ha;simp only [List.mem_map,List.mem_range] at ha;obtain⟨i,hi,rfl⟩:=ha;exact (hF i hi).2.1
  ·intro a ha;simp only [List.mem_map,List.mem_range] at ha;obtain⟨i,hi,rfl⟩:=ha;refine (hF i hi).2.2 N fun n hn=>hN n ?_;rw [hy];simp only [DataW.weights,hts,List.mem_cons,List.mem_append];exact .inr (.inl (Lo (List.mem_map.2 ⟨i,List.mem_range.2 hi,rfl⟩) n hn))
section
variable {H:Type} {enc:TypeId×Value->H} {W:World} {aa:Nat} {spare:Nat->Bool} {held:Bool}
theorem R6 {t:Int} (h:(Lit.int .u32 t).wf=true):0<=t/\t < 4294967296:=by
 simp [Lit.wf,IntKind.min,IntKind.max,IntKind.signed,IntKind.bits] at h;omega
theorem Zx {t:Int} (h:(Lit.int .u8 t).wf=true):0<=t/\t < 256:=by
 simp [Lit.wf,IntKind.min,IntKind.max,IntKind.signed,IntKind.bits] at h;omega
def blc (b:Bool):List Value:= [.bool b]
def spc (x:Sp):List Value:= [.int .u32 x.1,.int .u32 x.2]
theorem Ab0 (l:List Bool):l.flatMap blc=N6 l:=by
 induction l with
 | nil=>rfl
 | cons b l ih=>rw [List.flatMap_cons,ih];rfl
theorem Aaq (l:List Sp):l.flatMap spc=Lp l:=rfl
theorem Aa8 {cs:List Value} {y:DataW H×List MemPlace} {dv:Nat} (hf:DataW.trod enc Tryz.prog W aa spare held dv 77 cs=some y):
 ∃ A l c,cs= [.slice A (List.length (α:=Bool) l) c]/\M3 W W.heap.size A l:=by
 obtain⟨A,l,c,e,hr,-⟩:=Ie (k:=1) false blc (fun _=>True) (fun _ _=>True) Tryz.underlying77 (by kernel_rfl) (by decide) (fun _=>rfl) (fun dv cs y h=>by
  obtain⟨b,rfl,-⟩:=DataW.trod_bool Tryz.underlying4 h
  exact⟨b,rfl,trivial,fun _ _=>trivial⟩) hf
 exact⟨A,l,c,e,by rw [Ab0] at hr;exact hr⟩
theorem Aa6 {cs:List Value} {y:DataW H×List MemPlace} {dv:Nat} (hf:DataW.trod enc Tryz.prog W aa spare held dv 121 cs=some y):
 ∃ A l c,cs= [.slice A (List.length (α:=Sp) l) c]/\RS W W.heap.size A l/\(∀ x∈l,Zr x)/\∀ N,(∀ n∈y.1.weights Tryz.prog 121,n<=N)->l.length * Tryz.prog.bytesOf 129<=N:=by
 obtain⟨A,l,c,e,hr,-,ax,hw⟩:=Ie (k:=2) (0,0) spc Zr (fun _ _=>True) Tryz.underlying121 (by kernel_rfl) (by decide) (fun _=>rfl) (fun dv cs y h=>by
  obtain⟨xs,n,_,_,BE,cn,hg⟩:=DataW.trod_struct Tryz.underlying129 h
  rw [show Tryz.prog.cellsOf 129=2 by kernel_rfl] at BE
  match cs,BE with
  | [v0,v1],_=>
  match xs,cn with
  | [q0,q1],_=>
    have j0:=hg 0 _ rfl
    have j1:=hg 1 _ rfl
    simp [show Tryz.prog.cellsOf 44=1 by kernel_rfl] at j0 j1
    obtain⟨a,e0,-,w0⟩:=DataW.trod_int Tryz.underlying44 j0
    obtain⟨b,e1,-,w1⟩:=DataW.trod_int Tryz.underlying44 j1
    simp only [List.cons.injEq,and_true] at e0 e1
    subst e0 e1
    have:=R6 w0
    have:=R6 w1
    exact⟨(a,b),rfl,⟨by simp only;omega,by simp only;omega,by simp only;omega,by simp only;omega⟩,fun _ _=>trivial⟩) hf
 exact⟨A,l,c,e,by rw [Aaq] at hr;exact hr,ax,fun N hN=>(hw N hN).1⟩
def Zv (x:Aq):Prop:=0<=x.R/\x.R < 256/\∀ y∈x.s,Zr y
theorem Pg {cs:List Value} {y:DataW H×List MemPlace} {dv:Nat} (hf:DataW.trod enc Tryz.prog W aa spare held dv 47 cs=some y):
 ∃ A L c,cs= [.slice A (List.length (α:=Aq) L) c]/\RT W W.heap.size A L/\(∀ x∈L,Zv x)/\∀ N,(∀ n∈y.1.weights Tryz.prog 47,n<=N)->∀ x∈L,x.s.length * Tryz.prog.bytesOf 129<=N:=by
 obtain⟨A,l,c,e,hr,-,ax,hw⟩:=Ie (k:=2) (⟨0,none,0, []⟩:Aq) Aq.cells (fun x=>Zv x/\RS W W.heap.size x.A x.s) (fun N x=>x.s.length * Tryz.prog.bytesOf 129<=N) Tryz.underlying47 (by kernel_rfl) (by decide) (fun _=>rfl) (fun dv cs y h=>by
  obtain⟨xs,n,_,hy,BE,cn,hg⟩:=DataW.trod_struct Tryz.underlying123 h
  rw [show Tryz.prog.cellsOf 123=2 by kernel_rfl] at BE
  match cs,BE with
  | [v0,v1],_=>
  match xs,cn with
  | [q0,q1],_=>
    have j0:=hg 0 _ rfl
    have j1:=hg 1 _ rfl
    simp [show Tryz.prog.cellsOf 5=1 by kernel_rfl,show Tryz.prog.cellsOf 121=1 by kernel_rfl] at j0 j1
    obtain⟨a,e0,-,w0⟩:=DataW.trod_int Tryz.underlying5 j0
    obtain⟨A,l,c,e1,hr,ax,hw⟩:=Aa6 j1
    simp only [List.cons.injEq,and_true] at e0 e1
    subst e0 e1
    have:=Zx w0
    refine⟨⟨a,A,c,l⟩,rfl,⟨⟨by simp only;omega,by simp only;omega,ax⟩,hr⟩,fun N hN=>hw N fun n hn=>hN n ?_⟩
    rw [hy]
    simp only [DataW.weights,Tryz.underlying123]
    exact DataW.weights_mem_each (j:=1) (d:=q1.1) rfl rfl n hn) hf
 exact⟨A,l,c,e,⟨hr,fun x hx=>(ax x hx).2⟩,fun x hx=>(ax x hx).1,fun N hN=>(hw N hN).2⟩
def Ad2 (x:Ay):Prop:=(0<=x.t/\x.t < 4294967296/\0<=x.r/\x.r < 256)/\(∀ z∈x.h,Zv z)/\∀ z∈x.s,Zv z
theorem Aa5 {cs:List Value} {y:DataW H×List MemPlace} {dv:Nat} (hf:DataW.trod enc Tryz.prog W aa spare held dv 49 cs=some y):
 ∃ A L c,cs= [.slice A (List.length (α:=Ay) L) c]/\RW W W.heap.size A L/\(∀ x∈L,Ad2 x)/\∀ N,(∀ n∈y.1.weights Tryz.prog 49,n<=N)->∀ x∈L,(∀ z∈x.h,z.s.length * Tryz.prog.bytesOf 129<=N)/\∀ z∈x.s,z.s.length * Tryz.prog.bytesOf 129<=N:=by
 obtain⟨A,l,c,e,hr,-,ax,hw⟩:=Ie (k:=7) (⟨0,0,false,false,none,0, [],none,0, [],none,0, []⟩:Ay) Ay.cells (fun x=>Ad2 x/\RT W W.heap.size x.hA x.h/\RT W W.heap.size x.sA x.s/\M3 W W.heap.size x.gA x.g) (fun N x=>(∀ z∈x.h,z.s.length * Tryz.prog.bytesOf 129<=N)/\∀ z∈x.s,z.s.length * Tryz.prog.bytesOf 129<=N) Tryz.underlying49 (by kernel_rfl) (by decide) (fun _=>rfl) (fun dv cs y h=>by
  obtain⟨xs,n,_,hy,SJ,cn,hg⟩:=DataW.trod_struct Tryz.underlying79 h
  rw [show Tryz.prog.cellsOf 79=7 by kernel_rfl] at SJ
  match cs,SJ with
  | [v0,v1,v2,v3,v4,v5,v6],_=>
  match xs,cn with
  | [q0,q1,q2,q3,q4,q5],_=>
    have j0:=hg 0 _ rfl
    have j1:=hg 1 _ rfl
    have j2:=hg 2 _ rfl
    have j3:=hg 3 _ rfl
    have j4:=hg 4 _ rfl
    have j5:=hg 5 _ rfl
    simp [show Tryz.prog.cellsOf 46=2 by kernel_rfl,show Tryz.prog.cellsOf 4=1 by kernel_rfl,show Tryz.prog.cellsOf 47=1 by kernel_rfl,show Tryz.prog.cellsOf 77=1 by kernel_rfl] at j0 j1 j2 j3 j4 j5
    obtain⟨z0,z1,m,_,_,i0,i1⟩:=trod_struct2 Tryz.underlying46 j0
    simp [show Tryz.prog.cellsOf 44=1 by kernel_rfl,show Tryz.prog.cellsOf 5=1 by kernel_rfl] at i0 i1
    obtain⟨t,e0,-,w0⟩:=DataW.trod_int Tryz.underlying44 i0
    obtain⟨r,e1,-,w1⟩:=DataW.trod_int Tryz.underlying5 i1
    obtain⟨rd,e2,-⟩:=DataW.trod_bool Tryz.underlying4 j1
    obtain⟨hA,hl,hc,e3,h1,h2,h3⟩:=Pg j2
    obtain⟨kn,e4,-⟩:=DataW.trod_bool Tryz.underlying4 j3
    obtain⟨sA,sl,sc,e5,k1,k2,k3⟩:=Pg j4
    obtain⟨gA,gl,gc,e6,l1⟩:=Aa8 j5
    simp only [List.cons.injEq,and_true] at e0 e1 e2 e3 e4 e5 e6
    subst e0 e1 e2 e3 e4 e5 e6
    have:=R6 w0
    have:=Zx w1
    refine⟨⟨t,r,rd,kn,hA,hc,hl,sA,sc,sl,gA,gc,gl⟩,rfl,⟨⟨⟨by simp only;omega,by simp only;omega,by simp only;omega,by simp only;omega⟩,h2,k2⟩,h1,k1,l1⟩,fun N hN=>⟨h3 N fun n hn=>hN n ?_,k3 N fun n hn=>hN n ?_⟩⟩
    ·rw [hy]
     simp only [DataW.weights,Tryz.underlying79]
     exact DataW.weights_mem_each (j:=2) (d:=q2.1) rfl rfl n hn
    ·rw [hy]
     simp only [DataW.weights,Tryz.underlying79]
     exact DataW.weights_mem_each (j:=4) (d:=q4.1) rfl rfl n hn) hf
 exact⟨A,l,c,e,⟨hr,fun x hx=>(ax x hx).2⟩,fun x hx=>(ax x hx).1,fun N hN=>(hw N hN).2⟩
theorem Aa7 {cs:List Value} {y:DataW H×List MemPlace} {dv:Nat} (hf:DataW.trod enc Tryz.prog W aa spare held dv 48 cs=some y):
 ∃ A L c,cs= [.slice A (List.length (α:=Bj) L) c]/\RO W W.heap.size A L/\∀ x∈L,0<=x.k/\X5 (x.t,x.r)/\∀ q∈x.p,Gl q:=by
 obtain⟨A,l,c,e,hr,-,ax,hw⟩:=Ie (k:=5) (⟨0,0,0,none,0, [],0⟩:Bj) Bj.cells (fun x=>(0<=x.k/\X5 (x.t,x.r)/\∀ q∈x.p,Gl q)/\RR W W.heap.size x.A x.p) (fun _ _=>True) Tryz.underlying48 (by kernel_rfl) (by decide) (fun _=>rfl) (fun dv cs y h=>by
  obtain⟨x,e,h1,h2,-⟩:=Wt Tryz.underlying104 (by kernel_rfl) rfl rfl rfl rfl (by kernel_rfl) (by kernel_rfl) (by kernel_rfl) (by kernel_rfl) Tryz.underlying5 Tryz.underlying46 Tryz.underlying102 Tryz.underlying3 rfl rfl (by kernel_rfl) (by kernel_rfl) Tryz.underlying44 Tryz.underlying5 Tryz.underlying120 (by kernel_rfl) rfl rfl rfl (by kernel_rfl) (by kernel_rfl) (by kernel_rfl) Tryz.underlying44 Tryz.underlying5 Tryz.underlying3 h
  exact⟨x,e,⟨h1,h2⟩,fun _ _=>trivial⟩) hf
 exact⟨A,l,c,e,⟨hr,fun x hx=>(ax x hx).2⟩,fun x hx=>(ax x hx).1⟩
def Ab4 (x:Av):Prop:=(0<=x.t/\x.t < 4294967296/\0<=x.r/\x.r < 256)/\(∀ y∈x.i,Zv y)/\(∀ y∈x.o,0<=y.k/\X5 (y.t,y.r)/\∀ q∈y.p,Gl q)/\∀ y∈x.s,Ad2 y
theorem Aab {x:Av} (h:Ab4 x) (s:Ka x):Gm x:=by
 obtain⟨⟨a,b,c,d⟩,e,f,g⟩:=h;obtain⟨⟨s1,s2⟩,⟨s3,s4⟩,s5,s6⟩:=s;refine⟨⟨a,b,c,by omega⟩,⟨fun y hy=>?_,fun y hy=>?_,fun y hy=>?_⟩,by omega,by omega,by omega⟩
 ·obtain⟨q1,q2,q3⟩:=e y hy;exact⟨q1,q2,q3,by have:=s2 y hy;omega⟩
 ·obtain⟨q1,q2,q3⟩:=f y hy;exact⟨q1,q2,q3,by have:=s4 y hy;omega⟩
 ·obtain⟨⟨q1,q2,q3,q4⟩,q5,q6⟩:=g y hy;obtain⟨⟨u1,u2⟩,⟨u3,u4⟩,u5⟩:=s6 y hy;refine⟨q1,q2,q3,by omega,fun z hz=>?_,fun z hz=>?_,by omega,by omega,by omega⟩
  ·obtain⟨r1,r2,r3⟩:=q5 z hz;exact⟨r1,r2,r3,by have:=u2 z hz;omega⟩
  ·obtain⟨r1,r2,r3⟩:=q6 z hz;exact⟨r1,r2,r3,by have:=u4 z hz;omega⟩
theorem Q6 {b0:Nat} {r:Reach} {v:Value} {d:DataW H} {p:List MemPlace} (hv:Value.okWide Tryz.prog W r b0 51 v) (h:DataW.Trod enc Tryz.prog W aa spare held 51 v d p):
 ∃ x:Av,v=x.val/\RM W W.heap.size x/\Ab4 x/\((∀ n∈d.weights Tryz.prog 51,n<=reachBytes)->Ab8 x):=by
 obtain⟨cs,rfl,ay⟩:=okWide_struct Tryz.underlying51 hv;obtain⟨v0,v1,v2,v3,v4,v5,v6,rfl⟩:∃ v0 v1 v2 v3 v4 v5 v6,cs=#[v0,v1,v2,v3,v4,v5,v6]:=by
  have h7:cs.size=7:=ay.trans (by kernel_rfl);obtain⟨l⟩:=cs
  match l,h7 with
  | [v0,v1,v2,v3,v4,v5,v6],_=>exact⟨v0,v1,v2,v3,v4,v5,v6,rfl⟩
 obtain⟨dv,hf⟩:=h;obtain⟨xs,n,_,hy,_,cn,hg⟩:=DataW.trod_struct Tryz.underlying51 hf
 match xs,cn with
 | [q0,q1,q2,q3,q4,q5],_=>
   have j0:=hg 0 _ rfl;have j1:=hg 1 _ rfl;have j2:=hg 2 _ rfl;have j3:=hg 3 _ rfl;have j4:=hg 4 _ rfl;have j5:=hg 5 _ rfl;simp [Value.cells,show Tryz.prog.cellsOf 46=2 by kernel_rfl,show Tryz.prog.cellsOf 5=1 by kernel_rfl,show Tryz.prog.cellsOf 3=1 by kernel_rfl,show Tryz.prog.cellsOf 47=1 by kernel_rfl,show Tryz.prog.cellsOf 48=1 by kernel_rfl,show Tryz.prog.cellsOf 49=1 by kernel_rfl] at j0 j1 j2 j3 j4 j5;obtain⟨k,e0,-,w0⟩:=DataW.trod_int Tryz.underlying5 j0;obtain⟨z0,z1,m,_,_,i0,i1⟩:=trod_struct2 Tryz.underlying46 j1;simp [show Tryz.prog.cellsOf 44=1 by kernel_rfl,show Tryz.prog.cellsOf 5=1 by kernel_rfl] at i0 i1;obtain⟨t,e1,-,w1⟩:=DataW.trod_int Tryz.underlying44 i0;obtain⟨r,e2,-,w2⟩:=DataW.trod_int Tryz.underlying5 i1;obtain⟨ix,e3,-,w3⟩:=DataW.trod_int Tryz.underlying3 j2;obtain⟨iA,il,ic,e4,h1,h2,h3⟩:=Pg j3;obtain⟨oA,ol,oc,e5,k1,k2⟩:=Aa7 j4;obtain⟨sA,sl,sc,e6,l1,l2,l3⟩:=Aa5 j5;simp only [List.cons.injEq,and_true] at e0 e1 e2 e3 e4 e5 e6;subst e0 e1 e2 e3 e4 e5 e6;have:=R6 w1;have:=Zx w2;have dj:Tryz.prog.bytesOf 129=8:=by kernel_rfl
   refine⟨⟨k,t,r,ix,iA,ic,il,oA,oc,ol,sA,sc,sl⟩,rfl,⟨h1,k1,l1⟩,⟨⟨by simp only;omega,by simp only;omega,by simp only;omega,by simp only;omega⟩,h2,k2,l2⟩,fun hN=>?_⟩;have hd:d= .agg ([q0,q1,q2,q3,q4,q5].map (·.1)):=congrArg Prod.fst hy
   have m3:=h3 reachBytes fun n hn=>hN n (by
    rw [hd]
    simp only [DataW.weights,Tryz.underlying51]
    exact DataW.weights_mem_each (j:=3) (d:=q3.1) rfl rfl n hn)
   have m5:=l3 reachBytes fun n hn=>hN n (by
    rw [hd]
    simp only [DataW.weights,Tryz.underlying51]
    exact DataW.weights_mem_each (j:=5) (d:=q5.1) rfl rfl n hn)
   rw [dj,show reachBytes=140737488351232 from rfl] at m3 m5;exact⟨fun y hy=>by have:=m3 y hy;omega,fun y hy=>(k2 y hy).2.2,fun y hy=>⟨fun z hz=>by have:=(m5 y hy).1 z hz;omega,fun z hz=>by have:=(m5 y hy).2 z hz;omega⟩⟩
end
end Go.Proofs.YtmkpfdcnikgokaaGreat
