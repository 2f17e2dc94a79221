/-
  Texts of this claim, put together: Big, ListRef, ListGreat. What each theorem asks stands in its statement.
-/
import Derived.Test.YtmkpfdcnikgokaaGreatMd7
import Derived.Test.YtmkpfdcnikgokaaGreatMd24
set_option linter.unusedVariables false
set_option linter.unusedSimpArgs false
set_option maxRecDepth 100000
set_option maxHeartbeats 25600000
namespace Go.Proofs.YtmkpfdcnikgokaaGreat
open Go.RowKit
theorem Mz {P:Program} (w:World) {ops:Array Oper} {rest:List Oper} {o:Oper} {a:Act} {Q:Exit->Act->World->Prop} (CL:o.guard=none) (s x:Operand) (t:TypeId)
 (ho:o.op= .call { callee:= .builtin .append,args:=#[s,x],argTypes:=#[t,t] })
 (aa:Nat) (e:TypeId) (i:TypeInfo) (z:Value) (size bytes:Nat) (ht:P.underlying t=some (.slice e)) (hi:P.info? e=some i) (hz:i.zero=some z)
 (jw:i.size=size) (ss:i.bytes=bytes) (CC:z.cells.size=size) (ay:0 < size)
 (v:Value) (n:Nat) (xs:List Value) (hs:a.eval s=v) (ah:w.ownsRow aa e size v n xs)
 (B:Nat) (A:Option Addr) (m c:Nat) (news:List Value) (hx:a.eval x= .slice A m c) (hr:RD w B size A m news) (h1:∀ u∈news,u.oneCell'=true)
 (uk:n+m<=8796093022208) (fm:(n+m) * bytes<=140737488355328) (ao:aa<=w.heap.size)
 (h:∀ v' w',w'.ownsRow aa e size v' (n+m) (xs++news)->Below aa w w'->wpList P ops Q rest (a.put o.dst v') w'):wpList P ops Q (o :: rest) a w:=
 wpList_plain CL fun _ hK=>by
  obtain⟨v',w',je,h2,h3⟩:=Ej (P:=P) w aa t o.type e i z size bytes ht hi hz jw ss CC ay v n xs ah B A m c news hr h1 (by unfold maxLen;omega) fm ao;unfold Oper.wp execOp;simp only [ho,resolve,invoke,builtin,Sem.run_bind,Sem.run_pure,Result.andThen_ok,List.map_toArray,List.map_cons,List.map_nil,hs,hx,je];exact hK _ _ (h v' w' h2 (E8 ah h3 ao))
theorem Ur (A B:Option Addr) (c d n k:Nat) (l m:List Rn) (w:World) (hr:RR w w.heap.size A l) (hs:RR w w.heap.size B m) (hn:l.length=n) (hk:m.length=k) (hl:n < 8796093022208) (hm:k < 8796093022208):
 Calls Tryz.prog 144 #[.slice A n c,.slice B k d] w fun e w'=>e= .returned (.bool (decide (l=m)))/\Below w.heap.size w w':=by
 subst hn hk;by_cases ak:(l.length:Int)=(m.length:Int)
 ·have tg:l.length=m.length:=by omega
  have E:=Aa tg;have ng:((l.length:Int) == (m.length:Int))=true:=by simpa using ak
  have ot:((l.length:Int) != (m.length:Int))=false:=by simpa using ak
  clear ak;go_enter Tryz.func144,Tryz.ntmps144;clear tg;go_wp2_with fail
  go_loopw [5] (fun i wr=>∃ k:Nat,k<=l.length/\i= .int .i64 (k:Int)/\Hid (l.take k=m.take k)/\Below w.heap.size w wr) (fun i _=>l.length - (intOf i).toNat)
  case atStart=>exact⟨0,by omega,rfl,Aa rfl,Below.refl _ _⟩
  case round=>
   obtain⟨k,hk,rfl,hT,hb⟩:=hrel;by_cases ai:k < l.length
   ·have di:k < m.length:=by have:=E.out;omega
    obtain⟨b0,o0,rfl,py,er⟩:=RR.cell (RD.below hr hb) (by omega);obtain⟨b1,o1,rfl,eb,kh⟩:=RR.cell (RD.below hs hb) (by omega);obtain⟨d0,d1,d2⟩:=er k ai;obtain⟨e0,e1,e2⟩:=kh k di;clear er kh;have z0:(k:Int) < l.length:=by omega
    have z1:(k:Int) < m.length:=by omega
    have z4:(0:Int)<=k:=by omega
    obtain⟨x0,qe⟩:∃ x,x=l[k].1:=⟨_,rfl⟩;obtain⟨x1,jz⟩:∃ x,x=l[k].2.1:=⟨_,rfl⟩;obtain⟨x2,l8⟩:∃ x,x=l[k].2.2:=⟨_,rfl⟩;obtain⟨y0,sg⟩:∃ x,x=m[k].1:=⟨_,rfl⟩;obtain⟨y1,vt⟩:∃ x,x=m[k].2.1:=⟨_,rfl⟩;obtain⟨y2,FM⟩:∃ x,x=m[k].2.2:=⟨_,rfl⟩;rw [<-qe] at d0;rw [<-jz] at d1;rw [<-l8] at d2;rw [<-sg] at e0;rw [<-vt] at e1;rw [<-FM] at e2;have hX:=Aa (show l[k]=(x0,x1,x2) by rw [qe,jz,l8]);have hY:=Aa (show m[k]=(y0,y1,y2) by rw [sg,vt,FM]);clear qe jz l8 sg vt FM;by_cases jy:x0=y0/\x1=y1/\x2=y2
    ·obtain⟨rfl,rfl,rfl⟩:=jy;go_wp2_with fail
     go_quiet (fail)
     go_wp2_with fail;go_roundw
     case rel=>
      refine⟨k+1,by omega,by go_num,Aa ?_,Bk hb _⟩;rw [List.take_succ_eq_append_getElem ai,List.take_succ_eq_append_getElem di,hT.out,hX.out,hY.out]
     case measure=>simp [intOf];omega
    ·have fu:(¬ x0=y0)\/(x0=y0/\¬ x1=y1)\/(x0=y0/\x1=y1/\¬ x2=y2):=by
      by_cases h0:x0=y0
      ·by_cases h1:x1=y1
       ·exact .inr (.inr ⟨h0,h1,fun h2=>jy ⟨h0,h1,h2⟩⟩)
       ·exact .inr (.inl ⟨h0,h1⟩)
      ·exact .inl h0
     have hf:=Aa (show decide (l=m)=false by
      rw [decide_eq_false_iff_not]
      intro e
      subst e
      have:=hX.out.symm.trans hY.out
      simp only [Prod.mk.injEq] at this
      exact jy this)
     clear jy;rcases fu with h0 | ⟨rfl,h1⟩ | ⟨rfl,rfl,h2⟩
     all_goals
      go_wp2_with fail
      go_quiet (fail)
      go_wp2_with fail;go_ret;exact⟨Ae hf.out.symm,Bk hb _⟩
   ·have qv:¬ (k:Int) < l.length:=by omega
    have fin:=Aa (show decide (l=m)=true by
     have h1:=hT.out
     rw [List.take_of_length_le (by omega),List.take_of_length_le (by have:=E.out;omega)] at h1
     exact decide_eq_true h1)
    go_wp2_with fail;go_ret;exact⟨Ae fin.out.symm,hb⟩
 ·have ng:((l.length:Int) == (m.length:Int))=false:=by simpa using ak
  have ot:((l.length:Int) != (m.length:Int))=true:=by simpa using ak
  have fin:=Aa (show decide (l=m)=false by
   rw [decide_eq_false_iff_not]
   intro e
   exact ak (by rw [e]))
  clear ak;go_enter Tryz.func144,Tryz.ntmps144;go_wp2_with fail;go_ret;exact⟨Ae fin.out.symm,Below.refl _ _⟩
theorem Uo (A:Option Addr) (n c:Nat) (l:List Rn) (w:World) (hr:RR w w.heap.size A l) (hn:l.length=n) (hl:n < 8796093022208):
 Calls Tryz.prog 121 #[.slice A n c] w fun e w'=>∃ v,e= .returned v/\w'.ownsRow w.heap.size 120 3 v l.length (Ed l)/\Below w.heap.size w w':=by
 subst hn;obtain⟨i0,cr,cb,cu,cq⟩:=info_parts Tm;go_enter Tryz.func121,Tryz.ntmps121;go_wp2_with (at_builtin;refine Mz _ rfl (.tmp 4) (.tmp 5) 102 rfl w.heap.size 120 i0 (.agg #[.int .u32 0,.int .u8 0,.int .i64 0]) 3 16 Tryz.underlying102 cr cb cu cq rfl (by decide) _ 0 [] rfl (World.ownsRow_nil _ _ _ _) w.heap.size A l.length c (Ed l) rfl hr (Mh _) (by omega) (by omega) (Nat.le_refl _) ?_;intro v1 w1 aq ac;simp only [Nat.zero_add,List.nil_append] at aq);go_ret;exact⟨_,rfl,aq,ac⟩
theorem Qh (k t r z k' t' r' z':Int) (A B:Option Addr) (n m c d:Nat) (p q:List Rn) (w:World) (hr:RR w w.heap.size A p) (hs:RR w w.heap.size B q) (hn:p.length=n) (hm:q.length=m) (hl:n < 8796093022208) (NH:m < 8796093022208):
 Calls Tryz.prog 108 #[Gq k t r A n c z,Gq k' t' r' B m d z'] w fun e w'=>e= .returned (.bool (decide (k=k'/\t=t'/\r=r'/\p=q/\z=z')))/\Below w.heap.size w w':=by
 obtain⟨w1,au,a0,a1,a2,a3,a4,af,ac⟩:=D7 w (.int .u8 k) (.int .u32 t) (.int .u8 r) (.slice A n c) (.int .i64 z) 104;obtain⟨w2,fc,b0,b1,b2,b3,b4,cd,ae⟩:=D7 w1 (.int .u8 k') (.int .u32 t') (.int .u8 r') (.slice B m d) (.int .i64 z') 104;have al:=Ad ac ae;replace a0:=Ac ae af a0;replace a1:=Ac ae af a1;replace a2:=Ac ae af a2;replace a3:=Ac ae af a3;replace a4:=Ac ae af a4;replace af:=Nat.lt_of_lt_of_le af ae.size;have C:=Aa (Ur A B c d n m p q w2 (hr.below' al) (hs.below' al) hn hm hl NH);clear hr hs hn hm hl NH;obtain⟨g1,ua⟩:∃ g,g=w1.heap.size:=⟨_,rfl⟩;have hc:((k == k')=false/\¬ k=k')\/((k == k')=true/\k=k'/\(((t == t')=false/\¬ t=t')\/((t == t')=true/\t=t'/\(((r == r')=false/\¬ r=r')\/((r == r')=true/\r=r'/\(((z == z')=false/\¬ z=z')\/((z == z')=true/\z=z'))))))):=by
  simp only [beq_iff_eq,beq_eq_false_iff_ne,ne_eq];omega
 clear ua g1;rcases hc with⟨c1,e1⟩ | ⟨c1,e1,⟨c2,e2⟩ | ⟨c2,e2,⟨c3,e3⟩ | ⟨c3,e3,⟨c4,e4⟩ | ⟨c4,e4⟩⟩⟩⟩
 ·have hf:=Aa (show decide (k=k'/\t=t'/\r=r'/\p=q/\z=z')=false from decide_eq_false fun h=>e1 (by simp only [h]));clear e1;go_enter Tryz.func108,Tryz.ntmps108;go_wp2_with fail;go_ret;exact⟨Ae hf.out.symm,al⟩
 ·have hf:=Aa (show decide (k=k'/\t=t'/\r=r'/\p=q/\z=z')=false from decide_eq_false fun h=>e2 (by simp only [h]));clear e1 e2;go_enter Tryz.func108,Tryz.ntmps108;go_wp2_with fail;go_ret;exact⟨Ae hf.out.symm,al⟩
 ·have hf:=Aa (show decide (k=k'/\t=t'/\r=r'/\p=q/\z=z')=false from decide_eq_false fun h=>e3 (by simp only [h]));clear e1 e2 e3;go_enter Tryz.func108,Tryz.ntmps108;go_wp2_with fail;go_ret;exact⟨Ae hf.out.symm,al⟩
 ·have hf:=Aa (show decide (k=k'/\t=t'/\r=r'/\p=q/\z=z')=false from decide_eq_false fun h=>e4 (by simp only [h]));clear e1 e2 e3 e4;obtain⟨bb,hB⟩:∃ b,b=decide (p=q):=⟨_,rfl⟩;rw [<-hB] at C;clear hB;cases bb
  all_goals
   go_enter Tryz.func108,Tryz.ntmps108;go_wp2_with fail;refine C.out.mono ?_;rintro e w3 ⟨rfl,ag⟩;replace a4:=Ac ag af a4;replace b4:=Ac ag cd b4;go_wp2_with fail;go_ret;exact⟨Ae hf.out.symm,Ad al ag⟩
 ·have hf:=Aa (show decide (k=k'/\t=t'/\r=r'/\p=q/\z=z')=decide (p=q) from decide_eq_decide.2 ⟨fun h=>h.2.2.2.1,fun h=>⟨e1,e2,e3,h,e4⟩⟩);clear e1 e2 e3 e4;obtain⟨bb,hB⟩:∃ b,b=decide (p=q):=⟨_,rfl⟩;rw [<-hB] at C hf;clear hB;cases bb
  all_goals
   go_enter Tryz.func108,Tryz.ntmps108;go_wp2_with fail;refine C.out.mono ?_;rintro e w3 ⟨rfl,ag⟩;replace a4:=Ac ag af a4;replace b4:=Ac ag cd b4;go_wp2_with fail;go_ret;exact⟨Ae hf.out.symm,Ad al ag⟩
theorem S7 (k t r z:Int) (A:Option Addr) (n c:Nat) (p:List Rn) (w:World) (hr:RR w w.heap.size A p) (hn:p.length=n) (hl:n < 8796093022208):
 Calls Tryz.prog 82 #[Gq k t r A n c z] w fun e w'=>∃ A' c',e= .returned (Gq k t r A' p.length c' z)/\(A'=none->c'=0)/\w'.ownsRow w.heap.size 120 3 (.slice A' p.length c') p.length (Ed p)/\Below w.heap.size w w':=by
 obtain⟨w1,au,F1,af,ac⟩:=Cv w (.int .u8 k) (.int .u32 t) (.int .u8 r) (.slice A n c) (.int .i64 z);obtain⟨w2,fc,F2,cd,ae⟩:=Cv w1 (.int .u8 0) (.int .u32 0) (.int .u8 0) (.slice none 0 0) (.int .i64 0);have al:=Ad ac ae;have FG:=F1.below ae;replace af:=FG.lt;have T:=Aa (Uo A n c p w2 (hr.below' al) hn hl);obtain⟨c0,c1,c2,c3,c4⟩:=FG.cells;clear hr hn hl F1;go_enter Tryz.func82,Tryz.ntmps82;go_wp2_with fail;refine T.out.mono ?_;rintro e w3 ⟨v,rfl,ah,ag⟩;have AT:=FG.below ag;have KM:=F2.below ag;obtain⟨g1,ua⟩:∃ g,g=w.heap.size:=⟨_,rfl⟩;obtain⟨g2,oq⟩:∃ g,g=w1.heap.size:=⟨_,rfl⟩
 have ak:g1≠g2:=by rw [ua,oq];have:=ac.size;have:w.heap.size < w1.heap.size:=by rw [<-au];simp
                   omega
 have hg12:g1 < w2.heap.size:=by rw [ua];exact af
 have hg22:g2 < w2.heap.size:=by rw [oq];exact cd
 rw [<-ua] at AT;rw [<-oq] at KM;rw [<-ua,<-oq];clear au fc c0 c1 c2 c3 c4 FG F2;have z3:=AT.fr 3;have KN:=AT.set3 v;have qk:=KM.other (fun h=>ak h.symm) 3 v;have Hb4:=Aa (Ad al ag);obtain⟨w4,eo⟩:∃ w4,w3.setCell ⟨g1,3,none⟩ v=w4:=⟨_,rfl⟩;rw [eo] at KN qk;obtain⟨A',c',rfl,IR,-,-⟩:=Ao ah;have LN:=Aa (Gi ah);obtain⟨d0,d1,d2,d3,d4⟩:=KN.cells;have f0:=qk.fr 0;have f1:=qk.fr 1;have f2:=qk.fr 2;have f3:=qk.fr 3;have f4:=qk.fr 4;have HF:=Aa qk;have HG:=Aa (And.intro ua oq);have Hx:=Aa ak;have yt:=Aa ah;obtain⟨e0,e1,e2,e3,e4⟩:=AT.cells;obtain⟨u0,u1,u2,u3,u4⟩:=qk.cells;clear AT KM KN qk ua oq ak ah IR;go_wp2_with fail
 try rw [eo]
 have F5:=El HF.out (.int .u8 k) (.int .u32 t) (.int .u8 r) (.slice A' p.length c') (.int .i64 z);have tm:Below w.heap.size w (Di w4 g2 (.int .u8 k) (.int .u32 t) (.int .u8 r) (.slice A' p.length c') (.int .i64 z)):=by
  rw [<-eo];refine Cm (Hb4.out.setCell ?_ _) _ _ _ _ _ _ ?_
  ·rw [HG.out.1];exact Nat.le_refl _
  ·rw [HG.out.2];exact ac.size
 have li:(Di w4 g2 (.int .u8 k) (.int .u32 t) (.int .u8 r) (.slice A' p.length c') (.int .i64 z)).ownsRow w.heap.size 120 3 (.slice A' p.length c') p.length (Ed p):=by
  refine Nh yt.out al.size fun g hg=>?_;rw [Eg (by omega),<-eo,heap_setCell_other _ _ _ _ (by simp only;omega)]
 change bodyPost _ _ _ _ _ (Di w4 g2 (.int .u8 k) (.int .u32 t) (.int .u8 r) (.slice A' p.length c') (.int .i64 z));generalize Di w4 g2 (.int .u8 k) (.int .u32 t) (.int .u8 r) (.slice A' p.length c') (.int .i64 z)=W at F5 tm li |-;obtain⟨v0,v1,v2,v3,v4⟩:=F5.cells;refine bodyPost_ret (v:=Gq k t r A' p.length c' z) (by simp [results,Tryz.results82,go_sem,v0,v1,v2,v3,v4]) rfl ⟨A',c',rfl,LN.out,li,tm⟩
theorem Adv {x y:Bj}:x.op=y.op↔x.k=y.k/\x.t=y.t/\x.r=y.r/\x.p=y.p/\x.z=y.z:=by
 simp only [Bj.op,Prod.mk.injEq]
theorem Ta (A B:Option Addr) (n m c d:Nat) (L M:List Bj) (w:World) (hr:RO w w.heap.size A L) (hs:RO w w.heap.size B M) (hn:L.length=n) (hm:M.length=m) (hl:∀ x∈L,x.p.length < 8796093022208) (NH:∀ x∈M,x.p.length < 8796093022208) (AF:n < 1073741824):
 Calls Tryz.prog 70 #[.slice A n c,.slice B m d] w fun e w'=>e= .returned (.bool (decide (L.map Bj.op=M.map Bj.op)))/\Below w.heap.size w w':=by
 have HR:=Aa hr;have HS:=Aa hs;have Hl:=Aa (And.intro hl NH);have EV:=Aa (And.intro hn hm);clear hr hs hl NH;by_cases ak:(n:Int)=(m:Int)
 ·have FQ:n=m:=by omega
  have ng:((n:Int) == (m:Int))=true:=by simpa using ak
  have ot:((n:Int) != (m:Int))=false:=by simpa using ak
  have E:=Aa FQ;clear ak hn hm FQ;go_enter Tryz.func70,Tryz.ntmps70;go_wp2_with fail
  go_loopw [5] (fun i wr=>∃ j:Nat,j<=n/\i= .int .i64 (j:Int)/\Hid ((L.take j).map Bj.op=(M.take j).map Bj.op)/\Below w.heap.size w wr) (fun i _=>n - (intOf i).toNat)
  case atStart=>exact⟨0,by omega,rfl,Aa rfl,Below.refl _ _⟩
  case round=>
   obtain⟨j,hj,rfl,hT,hb⟩:=hrel;by_cases ai:j < n
   ·have z0:(j:Int) < n:=by omega
    have z1:(j:Int) < m:=by have:=E.out;omega
    have zj:(0:Int)<=j:=by omega
    have ap:j < L.length:=by rw [EV.out.1];exact ai
    have qn:j < M.length:=by rw [EV.out.2,<-E.out];exact ai
    obtain⟨b0,o0,rfl,py,er⟩:=RO.cell (HR.out.below hb) (by omega);obtain⟨b1,o1,rfl,eb,kh⟩:=RO.cell (HS.out.below hb) (by omega);obtain⟨x,hx⟩:∃ x,L[j]=x:=⟨_,rfl⟩;obtain⟨y,hy⟩:∃ y,M[j]=y:=⟨_,rfl⟩;obtain⟨d0,d1,d2,d3,d4⟩:=er j ap;obtain⟨e0,e1,e2,e3,e4⟩:=kh j qn;rw [hx] at d0 d1 d2 d3 d4;rw [hy] at e0 e1 e2 e3 e4;have ba:x∈L:=by rw [<-hx];exact List.getElem_mem ap
    have m9:y∈M:=by rw [<-hy];exact List.getElem_mem qn
    have S:=Aa (fun u=>Qh x.k x.t x.r x.z y.k y.t y.r y.z x.A y.A x.p.length y.p.length x.c y.c x.p y.p (Bs wr u) (RR.below' (((HR.out.below hb).more hb.size).2 x ba) (Af wr u)) (RR.below' (((HS.out.below hb).more hb.size).2 y m9) (Af wr u)) rfl rfl (Hl.out.1 x ba) (Hl.out.2 y m9));have T0:=Aa (show (L.take (j+1)).map Bj.op=(L.take j).map Bj.op++ [x.op] by rw [List.take_succ_eq_append_getElem ap,hx,List.map_append];rfl);have T1:=Aa (show (M.take (j+1)).map Bj.op=(M.take j).map Bj.op++ [y.op] by rw [List.take_succ_eq_append_getElem qn,hy,List.map_append];rfl);have X0:=Aa (And.intro hx hy);have hB0r:b0 < wr.heap.size:=by have:=hb.size;omega
    have hB1r:b1 < wr.heap.size:=by have:=hb.size;omega
    clear er kh ba m9 hx hy;obtain⟨bv,iu⟩:∃ bv,decide (x.k=y.k/\x.t=y.t/\x.r=y.r/\x.p=y.p/\x.z=y.z)=bv:=⟨_,rfl⟩;rw [iu] at S;have QS:=Aa iu;clear iu;go_wp2_with fail;refine Ei (by kernel_rfl) (by kernel_rfl) ?_
    repeat (quiet_step ((go_at_call 108;with_reducible exact Al (Ag S _))))
    refine wpQuiet_nil ?_;intro w3 b8;obtain⟨u,rfl⟩:=b8;have ag:=Ad hb (Af wr u);clear d0 d1 d2 d3 d4 e0 e1 e2 e3 e4;cases bv
    ·have hf:=Aa (show decide (L.map Bj.op=M.map Bj.op)=false from decide_eq_false fun h=>by
      have h1:=congrArg (fun l=>l[j]?) h
      simp only [List.getElem?_map,List.getElem?_eq_getElem ap,List.getElem?_eq_getElem qn,X0.out.1,X0.out.2,Option.map_some,Option.some.injEq] at h1
      exact (of_decide_eq_false QS.out) (Adv.1 h1))
     go_wp2_with fail;go_ret;exact⟨Ae hf.out.symm,ag⟩
    ·go_wp2_with fail;go_roundw
     case rel=>
      refine⟨j+1,by omega,by go_num,Aa ?_,ag⟩;rw [T0.out,T1.out,hT.out,Adv.2 (of_decide_eq_true QS.out)]
     case measure=>simp [intOf];omega
   ·have z0:¬ (j:Int) < n:=by omega
    have fin:=Aa (show decide (L.map Bj.op=M.map Bj.op)=true by
     have h1:=hT.out
     rw [List.take_of_length_le (by rw [EV.out.1];omega),List.take_of_length_le (by rw [EV.out.2,<-E.out];omega)] at h1
     exact decide_eq_true h1)
    go_wp2_with fail;go_ret;exact⟨Ae fin.out.symm,hb⟩
 ·have ng:((n:Int) == (m:Int))=false:=by simpa using ak
  have ot:((n:Int) != (m:Int))=true:=by simpa using ak
  have fin:=Aa (show decide (L.map Bj.op=M.map Bj.op)=false by
   rw [decide_eq_false_iff_not]
   intro e
   have:=congrArg List.length e
   rw [List.length_map,List.length_map,hn,hm] at this
   exact ak (by rw [this]))
  clear ak hn hm;go_enter Tryz.func70,Tryz.ntmps70;go_wp2_with fail;go_ret;exact⟨Ae fin.out.symm,Below.refl _ _⟩
theorem S9 (A:Option Addr) (n c:Nat) (L:List Bj) (w:World) (hr:RO w w.heap.size A L) (hn:L.length=n) (hl:∀ x∈L,x.p.length < 8796093022208) (AF:n < 1000000000):
 Calls Tryz.prog 47 #[.slice A n c] w fun e w'=>∃ A' c' L',e= .returned (.slice A' n c')/\L'.map Bj.op=L.map Bj.op/\OO w' w.heap.size A' c' L'/\Below w.heap.size w w':=by
 obtain⟨i0,cr,cb,cu,cq⟩:=info_parts Sa;have HR:=Aa hr;have Hl:=Aa hl;have Hn:=Aa hn;clear hr hl hn;go_enter Tryz.func47,Tryz.ntmps47;go_wp2_with fail
 go_loopw [3,4] (fun v i wr=>∃ (j:Nat) (A':Option Addr) (c':Nat) (L':List Bj),j<=n/\i= .int .i64 (j:Int)/\v= .slice A' j c'/\Hid (L'.length=j)/\Hid (L'.map Bj.op=(L.take j).map Bj.op)/\Hid (OO wr w.heap.size A' c' L')/\Below w.heap.size w wr) (fun _ i _=>n - (intOf i).toNat)
 case atStart=>exact⟨0,none,0, [],by omega,rfl,rfl,Aa rfl,Aa rfl,Aa (OO.nil _ _),Below.refl _ _⟩
 case round=>
  obtain⟨j,A',c',L',hj,rfl,rfl,tk,CP,NL,hb⟩:=hrel;by_cases ai:j < n
  ·have z0:(j:Int) < n:=by omega
   have zj:(0:Int)<=j:=by omega
   have ap:j < L.length:=by rw [Hn.out];exact ai
   obtain⟨b0,o0,rfl,py,er⟩:=RO.cell (HR.out.below hb) (by omega);obtain⟨x,hx⟩:∃ x,L[j]=x:=⟨_,rfl⟩;obtain⟨d0,d1,d2,d3,d4⟩:=er j ap;rw [hx] at d0 d1 d2 d3 d4;have ba:x∈L:=by rw [<-hx];exact List.getElem_mem ap
   have T:=Aa (S7 x.k x.t x.r x.z x.A x.p.length x.c x.p wr (((HR.out.below hb).more hb.size).2 x ba) rfl (Hl.out x ba));have T0:=Aa (show (L.take (j+1)).map Bj.op=(L.take j).map Bj.op++ [x.op] by rw [List.take_succ_eq_append_getElem ap,hx,List.map_append];rfl);clear er ba hx;go_wp2_with fail;refine T.out.mono ?_;rintro e w2 ⟨A2,c2,rfl,-,cm,ae⟩;have al:=Ad hb ae;have HOO2:=Aa (NL.out.below ae);have Hown2:=Aa cm;clear d0 d1 d2 d3 d4 cm;go_wp2_with (at_builtin;refine Jd _ rfl (.tmp 11) (.tmp 17) rfl w.heap.size A' c' j L' tk.out rfl (HOO2.out.below (Bf _ _)) ⟨x.k,x.t,x.r,A2,c2,x.p,x.z⟩ (Bq (Ai Hown2.out (Bf _ _) (Nat.le_refl _)) hb.size) (some ⟨w2.heap.size,0,none⟩) rfl (Z9 w2 ⟨x.k,x.t,x.r,A2,c2,x.p,x.z⟩) (by omega) (Nat.le_trans al.size (Bf w2 _).size) ?_;intro A3 c3 w3 WN ag ui);go_roundw
   case rel=>
    refine⟨j+1,A3,c3,L'++ [⟨x.k,x.t,x.r,A2,c2,x.p,x.z⟩],by omega,by go_num,rfl,Aa ?_,Aa ?_,Aa WN,(Ad al (Bf w2 _)).trans ag⟩
    ·rw [List.length_append,tk.out];rfl
    ·rw [T0.out,List.map_append,CP.out];rfl
   case measure=>simp [intOf];omega
  ·have z0:¬ (j:Int) < n:=by omega
   have CJ:j=n:=by omega
   subst CJ;rw [List.take_of_length_le (by rw [Hn.out];omega)] at CP;go_wp2_with fail;refine bodyPost_ret (v:= .slice A' j c') (by simp [results,Tryz.results47,go_sem]) rfl ?_;exact⟨A',c',rfl,L',CP.out,NL.out,hb⟩
def Ae6 (n:Nat) (m:Int) (L:List Bj) (v:Value):Prop:=∃ g,v= .bool g/\(g=false->(n:Int)<=m/\(n<=300->∀ x∈L,x.p.length<=100))
theorem Zb (A:Option Addr) (n c:Nat) (m:Int) (L:List Bj) (w:World) (hr:RO w w.heap.size A L) (hn:L.length=n) (ax:∀ x∈L,∀ y∈x.p,Gl y):
 Calls Tryz.prog 45 #[.slice A n c,.int .i64 m] w fun e w'=>∃ v,e= .returned v/\Ae6 n m L v/\Below w.heap.size w w':=by
 have js:=Aa ax;have Hn:=Aa hn;have HR:=Aa hr;clear ax hn hr;go_enter Tryz.func45,Tryz.ntmps45;go_wp2_with fail
 go_loopw [5,6] (fun s i wr=>∃ (j:Nat) (sv:Int),j<=n/\(j:Int)<=300/\i= .int .i64 (j:Int)/\s= .int .i64 sv/\0<=sv/\sv<=j * 51000/\Hid (∀ x∈L.take j,x.p.length<=100)/\Below w.heap.size w wr) (fun _ i _=>n - (intOf i).toNat)
 case atStart=>exact⟨0,0,by omega,by omega,rfl,rfl,by omega,by omega,Aa (fun x hx=>by cases hx),Below.refl _ _⟩
 case round=>
  obtain⟨j,sv,hj,hj3,rfl,rfl,hs0,af,hP,hb⟩:=hrel;by_cases ai:j < n
  ·have z0:(j:Int) < n:=by omega
   by_cases z3:(j:Int) < 300
   ·have ap:j < L.length:=by rw [Hn.out];exact ai
    have zj:(0:Int)<=j:=by omega
    obtain⟨bb,bo,rfl,hB,hC⟩:=RO.cell (HR.out.below hb) (by omega);obtain⟨x,hx⟩:∃ x,L[j]=x:=⟨_,rfl⟩;obtain⟨d0,d1,d2,d3,d4⟩:=hC j ap;rw [hx] at d0 d1 d2 d3 d4;have ba:x∈L:=by rw [<-hx];exact List.getElem_mem ap
    have QQ:=Aa (show RR wr wr.heap.size x.A x.p from ((HR.out.below hb).more hb.size).2 x ba);have HoX:=Aa (js.out x ba);have jk:=Aa (show L.take (j+1)=L.take j++ [x] by rw [List.take_succ_eq_append_getElem ap,hx]);clear hC hx d0 d1 d2 d4 ba;by_cases hg:(100:Int) < x.p.length
    ·go_wp2_with fail;go_ret;exact⟨_,rfl,⟨true,rfl,fun h=>(Bool.noConfusion h)⟩,hb⟩
    ·have SL:=Aa (show x.p.length<=100 by omega);go_wp2_with fail
     go_loopw [5,7] (fun s k wi=>∃ (q:Nat) (sq:Int),q<=x.p.length/\k= .int .i64 (q:Int)/\s= .int .i64 sq/\0<=sq/\sq<=sv+q * 501/\wi=wr) (fun _ k _=>x.p.length - (intOf k).toNat)
     case atStart=>exact⟨0,sv,by omega,rfl,rfl,by omega,by omega,rfl⟩
     case round=>
      obtain⟨q,sq,hq,rfl,rfl,AD,NE,rfl⟩:=hrel;by_cases hltq:q < x.p.length
      ·have zq:(q:Int) < x.p.length:=by omega
       have zq0:(0:Int)<=q:=by omega
       obtain⟨rb,ro,hA,-,rC⟩:=RR.cell QQ.out (by omega);obtain⟨-,-,e2⟩:=rC q hltq;have NF:=HoX.out x.p[q] (List.getElem_mem hltq);obtain⟨y,hy⟩:∃ y,x.p[q].2.2=y:=⟨_,rfl⟩;unfold Gl at NF;rw [hy] at e2 NF;obtain⟨-,-,-,-,sg,vt⟩:=NF;rw [hA] at d3;clear rC hy;clear hA;go_wp2_with fail;refine⟨⟨q+1,_,by omega,by go_num,rfl,?_,?_,trivial⟩,by simp [intOf];omega⟩
       ·split <;> (try split) <;> omega
       ·split <;> (try split) <;> omega
      ·have zq:¬ (q:Int) < x.p.length:=by omega
       have hqe:q=x.p.length:=by omega
       have hx100:=SL.out;go_wp2_with fail;go_roundw
       case rel=>
        refine⟨j+1,sq,by omega,by omega,by go_num,rfl,AD,by omega,Aa ?_,hb⟩;rw [jk.out];intro u hu;rcases List.mem_append.1 hu with h | h
        ·exact hP.out u h
        ·simp only [List.mem_singleton] at h;subst h;exact SL.out
       case measure=>simp [intOf];omega
   ·have hj9:j=300:=by omega
    have GS:=Aa (show ¬ n<=300 by omega);go_wp2_with fail
    all_goals
     go_ret;refine⟨_,rfl,⟨_,rfl,fun h=>?_⟩,hb⟩;simp at h
    try exact⟨h.1,fun h3=>absurd h3 GS.out⟩
  ·have CJ:j=n:=by omega
   have z0:¬ (j:Int) < n:=by omega
   have IL:L.take j=L:=List.take_of_length_le (by rw [Hn.out];omega);rw [IL] at hP;clear IL;go_wp2_with fail
   all_goals
    go_ret;refine⟨_,rfl,⟨_,rfl,fun h=>?_⟩,hb⟩;simp at h
   try exact⟨h.1,fun _=>hP.out⟩
end Go.Proofs.YtmkpfdcnikgokaaGreat
