/-
  Texts of this claim, put together: PlaceUnder, PlaceRef, OpCheck, NumMath, NumBackMath, PlaceIds, PlaceChildMath. What each theorem asks stands in its statement.
-/
import Derived.Deep.RegionHeld3
import Derived.Deep.DeepCutAuto
import Derived.IntWalk
import Derived.Laws.EntriesVeiled
import Derived.Test.YtmkpfdcnikgokaaGreatMd2
set_option linter.unusedVariables false
set_option linter.unusedSimpArgs false
set_option maxRecDepth 100000
set_option maxHeartbeats 25600000
namespace Go.Proofs.YtmkpfdcnikgokaaGreat
open Go.RowKit
def Aae (p:List Rn) (t r:Int):Prop:=p≠ []/\r=(Bw p).2/\t=(Bw p).1+1
instance (p:List Rn) (t r:Int):Decidable (Aae p t r):=by unfold Aae;infer_instance
theorem Xp (t r m:Int) (w:World):RR (w.alloc (.cells #[.int .u32 t,.int .u8 r,.int .i64 m] 120)) (w.alloc (.cells #[.int .u32 t,.int .u8 r,.int .i64 m] 120)).heap.size (some ⟨w.heap.size,0,none⟩) [(t,r,m)]:=RR.new w _ _ _ rfl
theorem Qp (w:World) (a b c:Value) (T:TypeId):∃ w2,w.alloc (.cells #[a,b,c] T)=w2/\w2.cell? ⟨w.heap.size,0,none⟩=some a/\w2.cell? ⟨w.heap.size,1,none⟩=some b/\w2.cell? ⟨w.heap.size,2,none⟩=some c/\w.heap.size < w2.heap.size/\Below w.heap.size w w2:=by
 refine⟨_,rfl,?_,?_,?_,by simp,Bf _ _⟩
 ·rw [World.cell?_alloc_new];rfl
 ·rw [World.cell?_alloc_new];rfl
 ·rw [World.cell?_alloc_new];rfl
theorem Aah (t r m:Int) (w:World) (h1:0<=t) (h2:t<=1073741824) (h3:1<=m) (h4:m<=4096):
 Calls Tryz.prog 184 #[.agg #[.int .u32 t,.int .u8 r,.int .i64 m]] w fun e w'=>e= .returned (.int .i64 (t+m - 1))/\Below w.heap.size w w':=by
 go_enter Tryz.func184,Tryz.ntmps184;go_wp2_with fail;go_ret;exact⟨rfl,Bf _ _⟩
theorem L0 (t r m:Int) (w:World) (ax:Gl (t,r,m)):
 Calls Tryz.prog 183 #[.agg #[.int .u32 t,.int .u8 r,.int .i64 m]] w fun e w'=>e= .returned (.bool (decide (J6 (t,r,m))))/\Below w.heap.size w w':=by
 obtain⟨i1,i2,i3,i4,i5,i6⟩:=ax;simp only at i1 i2 i3 i4 i5 i6;by_cases hh:1<=t/\t<=1073741824/\r < 8/\1<=m/\m<=4096
 ·obtain⟨g1,g2,g3,g4,g5⟩:=hh;have E:=Aa (fun w=>Aah t r m w i1 g2 g4 g5);by_cases g6:t+m - 1<=1073741824
  ·have hf:=Aa (show decide (J6 (t,r,m))=true from decide_eq_true ⟨g1,g2,g3,g4,g5,g6⟩);go_enter Tryz.func183,Tryz.ntmps183;go_wp2_with fail;obtain⟨w1,au,k0,k1,k2,af,ac⟩:=Qp w (.int .u32 t) (.int .u8 r) (.int .i64 m) 120;simp only [au];clear au;refine (Ag E w1).mono ?_;rintro e w2 ⟨rfl,ae⟩;go_wp2_with fail;go_ret;exact⟨Ae hf.out.symm,Ad ac ae⟩
  ·have hf:=Aa (show decide (J6 (t,r,m))=false from decide_eq_false (fun h=>g6 h.2.2.2.2.2));go_enter Tryz.func183,Tryz.ntmps183;go_wp2_with fail;obtain⟨w1,au,k0,k1,k2,af,ac⟩:=Qp w (.int .u32 t) (.int .u8 r) (.int .i64 m) 120;simp only [au];clear au;refine (Ag E w1).mono ?_;rintro e w2 ⟨rfl,ae⟩;go_wp2_with fail;go_ret;exact⟨Ae (by rw [hf.out];exact decide_eq_false (by omega)),Ad ac ae⟩
 ·have hf:=Aa (show decide (J6 (t,r,m))=false from decide_eq_false (fun h=>hh ⟨h.1,h.2.1,h.2.2.1,h.2.2.2.1,h.2.2.2.2.1⟩));have hc:(¬ 1<=t)\/(1<=t/\¬ t<=1073741824)\/(1<=t/\t<=1073741824/\¬ r < 8)\/(1<=t/\t<=1073741824/\r < 8/\¬ 1<=m)\/(1<=t/\t<=1073741824/\r < 8/\1<=m/\¬ m<=4096):=by omega
  clear hh;rcases hc with h1 | ⟨h1,h2⟩ | ⟨h1,h2,h3⟩ | ⟨h1,h2,h3,h4⟩ | ⟨h1,h2,h3,h4,h5⟩
  all_goals
   go_enter Tryz.func183,Tryz.ntmps183;go_wp2_with fail;go_ret;exact⟨Ae hf.out.symm,Bf _ _⟩
theorem Ut (A:Option Addr) (n c:Nat) (p:List Rn) (w:World) (hr:RR w w.heap.size A p) (hn:p.length=n) (hl:n<=65536) (hm:∀ x∈p,0<=x.2.2/\x.2.2<=4097):
 Calls Tryz.prog 185 #[.slice A n c] w fun e w'=>e= .returned (.int .i64 (Ou p))/\Below w.heap.size w w':=by
 subst hn;have Hm:=Aa hm;clear hm;go_enter Tryz.func185,Tryz.ntmps185;go_wp2_with fail
 go_loopw [3,4] (fun s i wr=>∃ (k:Nat) (y:Int),k<=p.length/\i= .int .i64 (k:Int)/\s= .int .i64 y/\0<=y/\y<=4097 * (k:Int)/\Hid (y=Ou (p.take k))/\Below w.heap.size w wr) (fun _ i _=>p.length - (intOf i).toNat)
 case atStart=>exact⟨0,0,by omega,rfl,rfl,by decide,by decide,Aa rfl,Below.refl _ _⟩
 case round=>
  obtain⟨k,y,hk,rfl,rfl,sg,vt,hy,hb⟩:=hrel;by_cases ai:k < p.length
  ·obtain⟨b0,o0,rfl,py,er⟩:=RR.cell (RD.below hr hb) (by omega);obtain⟨d0,d1,d2⟩:=er k ai;clear er;have z0:(k:Int) < p.length:=by omega
   have fy:=Hm.out p[k] (List.getElem_mem ai);obtain⟨m,hm⟩:∃ m,p[k].2.2=m:=⟨_,rfl⟩;rw [hm] at fy d2;obtain⟨e4,e5⟩:=fy;have gw:=Aa (show y+m=Ou (p.take (k+1)) by rw [List.take_succ_eq_append_getElem ai,Ra,hy.out,hm]);clear d0 d1 hm;go_wp2_with fail;go_roundw
   case rel=>exact⟨k+1,y+m,by omega,by go_num,rfl,by omega,by omega,gw,hb⟩
   case measure=>simp [intOf];omega
  ·have hz:¬ (k:Int) < p.length:=by omega
   have hyn:=Aa (show y=Ou p by rw [hy.out,List.take_of_length_le (by omega)]);go_wp2_with fail;go_ret;exact⟨Cu hyn.out,hb⟩
def J7 (z:Int):Prop:=0<=z/\z<=1114111/\(z < 55296\/57343 < z)
instance (z:Int):Decidable (J7 z):=by unfold J7;infer_instance
abbrev Gq (k t r:Int) (A:Option Addr) (n c:Nat) (z:Int):Value:= .agg #[.int .u8 k,.int .u32 t,.int .u8 r,.slice A n c,.int .i64 z]
def Cl (k t r:Int) (p:List Rn) (z:Int):Prop:=
 (k=1/\Bw p=(t,r)/\J7 z)\/(k=2/\Bw p=(t,r)/\z=0)\/((k=3\/k=4)/\z=0/\(Bw p).1 < t)
instance (k t r:Int) (p:List Rn) (z:Int):Decidable (Cl k t r p z):=by unfold Cl;infer_instance
def Dz (k t r:Int) (p:List Rn) (z:Int):Prop:=Ep t r/\E9 p/\Cl k t r p z
instance (k t r:Int) (p:List Rn) (z:Int):Decidable (Dz k t r p z):=by unfold Dz;infer_instance
def Gt (k t r:Int) (p:List Rn) (z:Int):Int:=if Dz k t r p z then 0 else 8
theorem D7 (w:World) (k t r s z:Value) (T:TypeId):∃ w2,w.alloc (.cells #[k,t,r,s,z] T)=w2/\w2.cell? ⟨w.heap.size,0,none⟩=some k/\w2.cell? ⟨w.heap.size,1,none⟩=some t/\w2.cell? ⟨w.heap.size,2,none⟩=some r/\w2.cell? ⟨w.heap.size,3,none⟩=some s/\w2.cell? ⟨w.heap.size,4,none⟩=some z/\w.heap.size < w2.heap.size/\Below w.heap.size w w2:=by
 refine⟨_,rfl,?_,?_,?_,?_,?_,by simp,Bf _ _⟩
 ·rw [World.cell?_alloc_new];rfl
 ·rw [World.cell?_alloc_new];rfl
 ·rw [World.cell?_alloc_new];rfl
 ·rw [World.cell?_alloc_new];rfl
 ·rw [World.cell?_alloc_new];rfl
theorem Wv (z:Int) (w:World) (h:J7 z):
 Calls Tryz.prog 179 #[.int .i64 z] w fun e w'=>e= .returned (.int .i64 0)/\w=w':=by
 obtain⟨h1,h2,h2'⟩:=h;have h3:¬ z < 0:=by omega
 have h4:¬ 1114111 < z:=by omega
 rcases h2' with h2' | h2'
 ·go_enter Tryz.func179,Tryz.ntmps179;go_wp2;go_ret;exact⟨rfl,rfl⟩
 ·have h6:¬ z < 55296:=by omega
  go_enter Tryz.func179,Tryz.ntmps179;go_wp2;go_ret;exact⟨rfl,rfl⟩
theorem Y0 (z:Int) (w:World) (h:¬ J7 z):
 Calls Tryz.prog 179 #[.int .i64 z] w fun e w'=>e= .returned (.int .i64 40)/\w=w':=by
 have hc:z < 0\/1114111 < z\/(55296<=z/\z<=57343):=by unfold J7 at h;omega
 clear h;rcases hc with h1 | h1 | ⟨h1,h2⟩
 ·go_enter Tryz.func179,Tryz.ntmps179;go_wp2;go_ret;exact⟨rfl,rfl⟩
 ·have h3:¬ z < 0:=by omega
  go_enter Tryz.func179,Tryz.ntmps179;go_wp2;go_ret;exact⟨rfl,rfl⟩
 ·have h3:¬ z < 0:=by omega
  have h4:¬ (1114111:Int) < z:=by omega
  have h5:¬ z < 55296:=by omega
  have h6:¬ (57343:Int) < z:=by omega
  go_enter Tryz.func179,Tryz.ntmps179;go_wp2;go_ret;exact⟨rfl,rfl⟩
theorem Z7 (k t r z:Int) (A:Option Addr) (n c:Nat) (p:List Rn) (w:World) (hr:RR w w.heap.size A p) (hn:p.length=n) (hl:n < 1073741824) (ax:∀ x∈p,Gl x):
 Calls Tryz.prog 176 #[Gq k t r A n c z] w fun e w'=>e= .returned (.bool (decide (Bw p=(t,r))))/\Below w.heap.size w w':=by
 obtain⟨w1,au,k0,k1,k2,k3,k4,af,ac⟩:=D7 w (.int .u8 k) (.int .u32 t) (.int .u8 r) (.slice A n c) (.int .i64 z) 104;have E:=Aa (fun W=>Ng A n c p (Bs w1 W) ((hr.below' ac).below' (Af _ W)) hn hl ax);obtain⟨lt,ai⟩:∃ a,a=(Bw p).1:=⟨_,rfl⟩;obtain⟨lr,IT⟩:∃ a,a=(Bw p).2:=⟨_,rfl⟩;rw [<-ai,<-IT] at E;have hd:=Aa (show decide (Bw p=(t,r))=decide (lt=t/\lr=r) from decide_eq_decide.2 ⟨fun h=>by rw [ai,IT,h];exact⟨rfl,rfl⟩,fun h=>Prod.ext (ai ▸ h.1) (IT ▸ h.2)⟩);clear ai IT;have hc:((lt == t)=true/\(lr == r)=true)\/(lt == t)=false\/((lt == t)=true/\(lr == r)=false):=by
  cases (lt == t) <;> cases (lr == r) <;> simp
 rcases hc with⟨c1,c2⟩ | c1 | ⟨c1,c2⟩
 all_goals
  go_enter Tryz.func176,Tryz.ntmps176;go_wp2_with fail
  try simp only [au]
  refine Ei (by kernel_rfl) (by kernel_rfl) ?_
  repeat (quiet_step ((go_at_call 167;with_reducible exact Al (Ag E _))))
  refine wpQuiet_nil ?_;intro w3 b8;obtain⟨u,rfl⟩:=b8;go_wp2_with fail;go_ret;refine⟨?_,Ad ac (Af _ u)⟩;exact Ae (by rw [hd.out];simp_all)
theorem Ac9 (x y:Int) (W:World):Sem.run Tryz.prog (Instr.field 46 (.agg #[.int .u32 x,.int .u8 y]) 0) W=Result.ok (.int .u32 x) W:=by
 simp [Instr.field,asAgg,go_sem]
theorem Vx (k t r z:Int) (A:Option Addr) (n c:Nat) (p:List Rn) (w:World) (hr:RR w w.heap.size A p) (hn:p.length=n) (hl:n < 1073741824) (ax:∀ x∈p,Gl x):
 Calls Tryz.prog 177 #[Gq k t r A n c z] w fun e w'=>e= .returned (.bool (decide (z=0/\(Bw p).1 < t)))/\Below w.heap.size w w':=by
 obtain⟨w1,au,k0,k1,k2,k3,k4,af,ac⟩:=D7 w (.int .u8 k) (.int .u32 t) (.int .u8 r) (.slice A n c) (.int .i64 z) 104;have E:=Aa (fun W=>Ng A n c p (Bs w1 W) ((hr.below' ac).below' (Af _ W)) hn hl ax);obtain⟨lt,ai⟩:∃ a,a=(Bw p).1:=⟨_,rfl⟩;obtain⟨lr,IT⟩:∃ a,a=(Bw p).2:=⟨_,rfl⟩;rw [<-ai,<-IT] at E;rw [<-ai];clear ai IT;have hc:((z == 0)=true/\lt < t)\/(z == 0)=false\/((z == 0)=true/\¬ lt < t):=by
  by_cases h:lt < t <;> cases (z == 0) <;> simp [h]
 have hfd:=fun W=>Ac9 lt lr W;rcases hc with⟨c1,c2⟩ | c1 | ⟨c1,c2⟩
 all_goals
  go_enter Tryz.func177,Tryz.ntmps177;go_wp2_with fail
  try simp only [au]
  refine Ei (by kernel_rfl) (by kernel_rfl) ?_
  repeat (quiet_step ((go_at_call 167;with_reducible exact Al (Ag E _))))
  refine wpQuiet_nil ?_;intro w3 b8;obtain⟨u,rfl⟩:=b8;go_wp2_with fail;go_ret;refine⟨?_,Ad ac (Af _ u)⟩;exact Ae (by simp_all)
theorem Ae5 (k t r z:Int) (A:Option Addr) (n c:Nat) (p:List Rn) (g:Nat) (w:World) (hr:RR w w.heap.size A p) (hn:p.length=n) (hl:n < 1073741824) (ax:∀ x∈p,Gl x) (hg:g < w.heap.size) (hv:w.cell? ⟨g,0,none⟩=some (.func (.func 176) #[] #[])):
 Calls Tryz.prog 178 #[Gq k t r A n c z,.pointer (some ⟨g,0,none⟩)] w fun e w'=>e= .returned (.bool (decide (Bw p=(t,r)/\J7 z)))/\Below w.heap.size w w':=by
 obtain⟨w1,au,k0,k1,k2,k3,k4,af,ac⟩:=D7 w (.int .u8 k) (.int .u32 t) (.int .u8 r) (.slice A n c) (.int .i64 z) 104;have hE:=Aa (Z7 k t r z A n c p w1 (hr.below' ac) hn hl ax);have QC:=Ac ac hg hv;go_enter Tryz.func178,Tryz.ntmps178;go_wp2_with fail;refine hE.out.mono ?_;rintro e w2 ⟨rfl,ae⟩;have hb:=Ad ac ae;have q4:=Ac ae af k4;clear k0 k1 k2 k3 k4;by_cases ho:Bw p=(t,r)
 ·simp only [decide_eq_true ho];by_cases hz:J7 z
  ·go_wp2_with fail;refine (Wv z _ hz).mono ?_;rintro e w3 ⟨rfl,rfl⟩;go_wp2_with fail;go_ret;exact⟨Ae (decide_eq_true ⟨ho,hz⟩).symm,hb⟩
  ·go_wp2_with fail;refine (Y0 z _ hz).mono ?_;rintro e w3 ⟨rfl,rfl⟩;go_wp2_with fail;go_ret;exact⟨Ae (decide_eq_false fun h=>hz h.2).symm,hb⟩
 ·simp only [decide_eq_false ho];go_wp2_with fail;go_ret;exact⟨Ae (decide_eq_false fun h=>ho h.1).symm,hb⟩
theorem Ac0 (k t r z:Int) (A:Option Addr) (n c:Nat) (p:List Rn) (g:Nat) (w:World) (hr:RR w w.heap.size A p) (hn:p.length=n) (hl:n < 1073741824) (ax:∀ x∈p,Gl x) (hg:g < w.heap.size) (hv:w.cell? ⟨g,0,none⟩=some (.func (.func 176) #[] #[])):
 Calls Tryz.prog 180 #[Gq k t r A n c z,.pointer (some ⟨g,0,none⟩)] w fun e w'=>e= .returned (.bool (decide (Bw p=(t,r)/\z=0)))/\Below w.heap.size w w':=by
 obtain⟨w1,au,k0,k1,k2,k3,k4,af,ac⟩:=D7 w (.int .u8 k) (.int .u32 t) (.int .u8 r) (.slice A n c) (.int .i64 z) 104;have hE:=Aa (Z7 k t r z A n c p w1 (hr.below' ac) hn hl ax);have QC:=Ac ac hg hv;go_enter Tryz.func180,Tryz.ntmps180;go_wp2_with fail;refine hE.out.mono ?_;rintro e w2 ⟨rfl,ae⟩;have hb:=Ad ac ae;have q4:=Ac ae af k4;clear k0 k1 k2 k3 k4;by_cases ho:Bw p=(t,r)
 ·simp only [decide_eq_true ho];by_cases hz:z=0
  ·go_wp2_with fail;go_ret;exact⟨Ae (by rw [decide_eq_true (And.intro ho hz)]),hb⟩
  ·go_wp2_with fail;go_ret;exact⟨Ae (by rw [decide_eq_false fun h=>hz h.2];simp [hz]),hb⟩
 ·simp only [decide_eq_false ho];go_wp2_with fail;go_ret;exact⟨Ae (decide_eq_false fun h=>ho h.1).symm,hb⟩
theorem Agd (w:World):∃ w2,(w.alloc (.cells #[.nilFunc] 167)).setCell ⟨w.heap.size,0,none⟩ (.func (.func 176) #[] #[])=w2/\w2.cell? ⟨w.heap.size,0,none⟩=some (.func (.func 176) #[] #[])/\w.heap.size < w2.heap.size/\Below w.heap.size w w2:=by
 have hh:(w.alloc (.cells #[.nilFunc] 167)).heap[w.heap.size]?=some (.cells #[.nilFunc] 167 (0,0)):=heap_alloc_new _ _;refine⟨_,rfl,?_,by simp,(Bf _ _).setCell (Nat.le_refl _) _⟩;rw [cell_of_row _ _ _ _ _ _ (heap_setCell_same _ _ _ _ _ _ hh)];rfl
def Vn (k:Int) (g:Nat):Value:=
 if k=1 then .func (.func 178) #[] #[.pointer (some ⟨g,0,none⟩)] else if k=2 then .func (.func 180) #[] #[.pointer (some ⟨g,0,none⟩)] else if k=3\/k=4 then .func (.func 177) #[] #[] else .nilFunc
theorem ix0 (a b c d e:Value) (W:World):(Instr.index 203 (.agg #[a,b,c,d,e]) (.int .u8 0)).run Tryz.prog W=Result.ok a W:=by kernel_rfl
theorem ix1 (a b c d e:Value) (W:World):(Instr.index 203 (.agg #[a,b,c,d,e]) (.int .u8 1)).run Tryz.prog W=Result.ok b W:=by kernel_rfl
theorem Xi (a b c d e:Value) (W:World):(Instr.index 203 (.agg #[a,b,c,d,e]) (.int .u8 2)).run Tryz.prog W=Result.ok c W:=by kernel_rfl
theorem ix3 (a b c d e:Value) (W:World):(Instr.index 203 (.agg #[a,b,c,d,e]) (.int .u8 3)).run Tryz.prog W=Result.ok d W:=by kernel_rfl
theorem ix4 (a b c d e:Value) (W:World):(Instr.index 203 (.agg #[a,b,c,d,e]) (.int .u8 4)).run Tryz.prog W=Result.ok e W:=by kernel_rfl
theorem V8 (w:World) (k:Int) (hk:k=1\/k=2\/k=3\/k=4\/k=0):
 Calls Tryz.prog 156 #[.int .u8 k] w fun e w'=>e= .returned (Vn k w.heap.size)/\w'.cell? ⟨w.heap.size,0,none⟩=some (.func (.func 176) #[] #[])/\w.heap.size < w'.heap.size/\Below w.heap.size w w':=by
 have hmf:∀ (fn:Fn) (first cap:Array Value) (W:World),(Instr.makeFunc fn first cap).run Tryz.prog W= .ok (.func fn first cap) W:=fun _ _ _ _=>rfl;obtain⟨w2,fc,c0,cd,ae⟩:=Agd w;have i0:=ix0;have i1:=ix1;have i2:=Xi;have i3:=ix3;have i4:=ix4;rcases hk with rfl | rfl | rfl | rfl | rfl
 all_goals
  go_enter Tryz.func156,Tryz.ntmps156;go_wp2_with fail;go_ret;exact⟨rfl,c0,cd,ae⟩
theorem V9 (w:World) (k:Int) (hk:5<=k):
 Calls Tryz.prog 156 #[.int .u8 k] w fun e w'=>e= .returned .nilFunc/\w'=w:=by
 go_enter Tryz.func156,Tryz.ntmps156;go_wp2_with fail;go_ret;exact⟨rfl,rfl⟩
theorem Ada (W:World):(binOp .eql 167 .nilFunc .nilFunc).run Tryz.prog W=Result.ok (.bool true) W:=by kernel_rfl
theorem Afb (f:Fn) (a b:Array Value) (W:World):(binOp .eql 167 (.func f a b) .nilFunc).run Tryz.prog W=Result.ok (.bool false) W:=by kernel_rfl
theorem Wb (t r z:Int) (p:List Rn):Cl 1 t r p z↔(Bw p=(t,r)/\J7 z):=by simp [Cl]
theorem Wa (t r z:Int) (p:List Rn):Cl 2 t r p z↔(Bw p=(t,r)/\z=0):=by simp [Cl]
theorem Un (k t r z:Int) (p:List Rn) (h:k=3\/k=4):Cl k t r p z↔(z=0/\(Bw p).1 < t):=by rcases h with rfl | rfl <;> simp [Cl]
theorem Yh (k t r z:Int) (A:Option Addr) (n c:Nat) (p:List Rn) (hn:p.length=n) (hl:n < 1073741824) (ax:∀ x∈p,Gl x) (g:Nat) (hk:k=1\/k=2\/k=3\/k=4):
 ∃ f b,Vn k g= .func (.func f) #[] b/\(∀ (x:Array Value) (W:World),Sem.run Tryz.prog (callFunc f x) W= .ok (.enter f x) W)/\∀ w:World,RR w w.heap.size A p->g < w.heap.size->w.cell? ⟨g,0,none⟩=some (.func (.func 176) #[] #[])->
  Calls Tryz.prog f (#[Gq k t r A n c z]++b) w fun e w'=>e= .returned (.bool (decide (Cl k t r p z)))/\Below w.heap.size w w':=by
 rcases hk with rfl | rfl | h
 ·refine⟨_,_,rfl,fun _ _=>by kernel_rfl,fun w hr hg hv=>?_⟩;rw [decide_eq_decide.2 (Wb t r z p)];exact Ae5 1 t r z A n c p g w hr hn hl ax hg hv
 ·refine⟨_,_,rfl,fun _ _=>by kernel_rfl,fun w hr hg hv=>?_⟩;rw [decide_eq_decide.2 (Wa t r z p)];exact Ac0 2 t r z A n c p g w hr hn hl ax hg hv
 ·refine⟨177,#[],by rcases h with rfl | rfl <;> rfl,fun _ _=>by kernel_rfl,fun w hr hg hv=>?_⟩;rw [decide_eq_decide.2 (Un k t r z p h)];exact Vx k t r z A n c p w hr hn hl ax
theorem Ku (k t r z:Int) (A:Option Addr) (n c:Nat) (p:List Rn) (w:World) (hr:RR w w.heap.size A p) (hn:p.length=n) (hl:n < 1073741824) (ax:∀ x∈p,Gl x) (k0:0<=k):
 Calls Tryz.prog 122 #[Gq k t r A n c z] w fun e w'=>e= .returned (.int .i64 (Gt k t r p z))/\Below w.heap.size w w':=by
 obtain⟨w1,au,c0,c1,c2,c3,c4,af,ac⟩:=D7 w (.int .u8 k) (.int .u32 t) (.int .u8 r) (.slice A n c) (.int .i64 z) 104;have fq:=Ada;have fq2:=Afb;by_cases hk:5<=k
 ·have hf:=Aa (show Gt k t r p z=8 from if_neg (fun h=>by have:=h.2.2;unfold Cl at this;omega));have hE:=Aa (V9 w1 k hk);go_enter Tryz.func122,Tryz.ntmps122;go_wp2_with fail;refine hE.out.mono ?_;rintro e w2 ⟨rfl,rfl⟩;go_wp2_with fail;go_ret;exact⟨Cu hf.out.symm,ac⟩
 have hE:=Aa (V8 w1 k (by omega));by_cases EM:k=0
 ·subst EM;have hf:=Aa (show Gt 0 t r p z=8 from if_neg (fun h=>by have:=h.2.2;unfold Cl at this;omega));go_enter Tryz.func122,Tryz.ntmps122;go_wp2_with fail;refine hE.out.mono ?_;rintro e w2 ⟨rfl,cf,cd,ae⟩;simp only [Vn,Int.reduceEq,if_false,or_self];have hb:=Ad ac ae;go_wp2_with fail;go_ret;exact⟨Cu hf.out.symm,hb⟩
 obtain⟨f,b,hv,hcl,hfn⟩:=Yh k t r z A n c p hn hl ax w1.heap.size (by omega);have Hfn:=Aa hfn;clear hfn;go_enter Tryz.func122,Tryz.ntmps122;go_wp2_with fail;refine hE.out.mono ?_;rintro e w2 ⟨rfl,cf,cd,ae⟩;rw [hv];have hb:=Ad ac ae;have d0:=Ac ae af c0;have d1:=Ac ae af c1;have d2:=Ac ae af c2;have d3:=Ac ae af c3;have d4:=Ac ae af c4;have DP:=Nat.lt_of_lt_of_le af ae.size;clear c0 c1 c2 c3 c4 hv hE fq;by_cases h1:Ep t r
 ·go_wp2_with fail;refine (Jn t r _ h1).mono ?_;rintro e w3 ⟨rfl,ag⟩;have ll:=Ad hb ag;have hcf3:=Ac ag cd cf;have e0:=Ac ag DP d0;have e1:=Ac ag DP d1;have e2:=Ac ag DP d2;have e3:=Ac ag DP d3;have e4:=Ac ag DP d4;have AV:=Nat.lt_of_lt_of_le DP ag.size;have fo:=Nat.lt_of_lt_of_le cd ag.size;clear d0 d1 d2 d3 d4;by_cases h2:E9 p
  ·have hP:=Aa (Js A n c p w3 (hr.below' ll) hn hl ax);rw [show Lj p=0 from if_pos h2] at hP;go_wp2_with fail;refine hP.out.mono ?_;rintro e w4 ⟨rfl,aw⟩;have bq:=Ad ll aw;have hcf4:=Ac aw fo hcf3;have a0:=Ac aw AV e0;have a1:=Ac aw AV e1;have a2:=Ac aw AV e2;have a3:=Ac aw AV e3;have a4:=Ac aw AV e4;have hsz4:=Nat.lt_of_lt_of_le AV aw.size;have NC:=Nat.lt_of_lt_of_le fo aw.size;clear e0 e1 e2 e3 e4;have hC:=Aa (Hfn.out w4 (hr.below' bq) NC hcf4);go_wp2_with fail;refine hC.out.mono ?_;rintro e w5 ⟨rfl,bf⟩;have bu:=Ad bq bf;by_cases h3:Cl k t r p z
   ·rw [decide_eq_true h3];have hf:=Aa (show Gt k t r p z=0 from if_pos ⟨h1,h2,h3⟩);go_wp2_with fail;go_ret;exact⟨Cu hf.out.symm,bu⟩
   ·rw [decide_eq_false h3];have hf:=Aa (show Gt k t r p z=8 from if_neg (fun h=>h3 h.2.2));go_wp2_with fail;go_ret;exact⟨Cu hf.out.symm,bu⟩
  ·have hP:=Aa (Js A n c p w3 (hr.below' ll) hn hl ax);rw [show Lj p=8 from if_neg h2] at hP;have hf:=Aa (show Gt k t r p z=8 from if_neg (fun h=>h2 h.2.1));go_wp2_with fail;refine hP.out.mono ?_;rintro e w4 ⟨rfl,aw⟩;have bq:=Ad ll aw;go_wp2_with fail;go_ret;exact⟨Cu hf.out.symm,bq⟩
 ·have hf:=Aa (show Gt k t r p z=8 from if_neg (fun h=>h1 h.1));go_wp2_with fail;refine (Lb t r _ h1).mono ?_;rintro e w3 ⟨rfl,ag⟩;have ll:=Ad hb ag;go_wp2_with fail;go_ret;exact⟨Cu hf.out.symm,ll⟩
end Go.Proofs.YtmkpfdcnikgokaaGreat
namespace Go.Proofs.YtmkpfdcnikgokaaGreat
def nb (n:Nat):List UInt8:=if n < 128 then [UInt8.ofNat n] else UInt8.ofNat (n % 128+128) :: nb (n / 128)
 termination_by n
 decreasing_by omega
theorem I6 {n:Nat} (h:n < 128):nb n= [UInt8.ofNat n]:=by rw [nb,if_pos h]
theorem O8 {n:Nat} (h:¬ n < 128):nb n=UInt8.ofNat (n % 128+128) :: nb (n / 128):=by rw [nb,if_neg h]
theorem Lv (n:Nat):0 < (nb n).length:=by rw [nb];split <;> simp
theorem Y2 (k:Nat):∀ n:Nat,n < 128 ^ (k+1)->(nb n).length<=k+1:=by
 induction k with
 | zero=>intro n h;rw [I6 (by simpa using h)];simp
 | succ k ih=>
   intro n h;by_cases h1:n < 128
   ·rw [I6 h1];simp
   ·rw [O8 h1,List.length_cons];have:n / 128 < 128 ^ (k+1):=by
     rw [Nat.div_lt_iff_lt_mul (by omega)];rw [Nat.pow_succ] at h;exact h
    have:=ih _ this;omega
theorem Gw {n:Nat} (h:n<=1099511627776):(nb n).length<=6:=Y2 5 n (by omega)
def gg (k n:Nat):List UInt8->Option (Nat×Nat)
 | []=>none
 | b :: r=>if k=6 then none else
   if 128<=b.toNat then gg (k+1) (n+b.toNat % 128 * 128 ^ k) r
   else if 1099511627776 < n+b.toNat % 128 * 128 ^ k\/(b.toNat=0/\0 < k) then none else some (n+b.toNat % 128 * 128 ^ k,k+1)
theorem Ae8 (k n:Nat):gg k n []=none:=rfl
theorem Aaf (n:Nat) (l:List UInt8):gg 6 n l=none:=by cases l <;> simp [gg]
theorem So {k n:Nat} {b:UInt8} {r:List UInt8} (h6:k≠6) (h:128<=b.toNat):gg k n (b :: r)=gg (k+1) (n+b.toNat % 128 * 128 ^ k) r:=by
 rw [gg,if_neg h6,if_pos h]
theorem Sb {k n:Nat} {b:UInt8} {r:List UInt8} (h:b.toNat < 128) (hb:1099511627776 < n+b.toNat % 128 * 128 ^ k\/(b.toNat=0/\0 < k)):gg k n (b :: r)=none:=by
 by_cases h6:k=6
 ·rw [gg,if_pos h6]
 ·rw [gg,if_neg h6,if_neg (by omega),if_pos hb]
theorem Sq {k n:Nat} {b:UInt8} {r:List UInt8} (h6:k≠6) (h:b.toNat < 128) (hb:¬ (1099511627776 < n+b.toNat % 128 * 128 ^ k\/(b.toNat=0/\0 < k))):gg k n (b :: r)=some (n+b.toNat % 128 * 128 ^ k,k+1):=by
 rw [gg,if_neg h6,if_neg (by omega),if_neg hb]
def Ew (l:List UInt8):Option (Nat×Nat):=gg 0 0 l
theorem Afy (r:List UInt8):∀ (n k bg:Nat),bg+n * 128 ^ k<=1099511627776->k+(nb n).length<=6->(n=0->k=0)->gg k bg (nb n++r)=some (bg+n * 128 ^ k,k+(nb n).length):=by
 intro n
 induction n using nb.induct with
 | case1 n h=>
   intro k bg hm hk h0;rw [I6 h] at hk |-;have hb:(UInt8.ofNat n).toNat=n:=by rw [UInt8.toNat_ofNat',Nat.mod_eq_of_lt (by omega)]
   have hn:n % 128=n:=Nat.mod_eq_of_lt h;simp only [List.length_cons,List.length_nil,List.cons_append,List.nil_append] at hk |-;rw [Sq (by omega) (by omega) (by rw [hb,hn];omega),hb,hn]
 | case2 n h ih=>
   intro k bg hm hk h0;rw [O8 h] at hk |-;have hb:(UInt8.ofNat (n % 128+128)).toNat=n % 128+128:=by rw [UInt8.toNat_ofNat',Nat.mod_eq_of_lt (by omega)]
   have hs:128 ^ (k+1)=128 ^ k * 128:=Nat.pow_succ _ _;have MN:bg+(n % 128+128) % 128 * 128 ^ k+n / 128 * 128 ^ (k+1)=bg+n * 128 ^ k:=by
    have e1:(n % 128+128) % 128=n % 128:=by omega
    have e2:n / 128 * 128 ^ (k+1)=128 * (n / 128) * 128 ^ k:=by rw [hs];simp only [Nat.mul_assoc,Nat.mul_comm,Nat.mul_left_comm]
    rw [e1,e2,Nat.add_assoc,<-Nat.add_mul]
    congr 2
    omega
   simp only [List.length_cons,List.cons_append] at hk |-;rw [So (by omega) (by omega),hb,ih (k+1) _ (by rw [MN];exact hm) (by omega) (by omega),MN]
   congr 2
   omega
theorem Oh (n:Nat) (r:List UInt8) (h:n<=1099511627776):Ew (nb n++r)=some (n,(nb n).length):=by
 have:=Afy r n 0 0 (by omega) (by have:=Gw h;omega) (fun _=>rfl);simpa [Ew] using this
theorem Aag:∀ (l:List UInt8) (k bg m s:Nat),gg k bg l=some (m,s)->∃ n,m=bg+n * 128 ^ k/\m<=1099511627776/\k < s/\s - k<=l.length/\nb n=l.take (s - k)/\(n=0->k=0)
 | [],k,bg,m,s,h=>by simp [gg] at h
 | b :: r,k,bg,m,s,h=>by
   have hb:=b.toNat_lt;rw [gg] at h;by_cases h6:k=6
   ·rw [if_pos h6] at h;cases h
   rw [if_neg h6] at h;by_cases GR:128<=b.toNat
   ·rw [if_pos GR] at h;obtain⟨n1,e1,e2,e3,e4,e5,e6⟩:=Aag r (k+1) _ m s h;have hn1:n1≠0:=fun e=>by have:=e6 e;omega
    have hs:128 ^ (k+1)=128 ^ k * 128:=Nat.pow_succ _ _;refine⟨b.toNat % 128+128 * n1,?_,e2,by omega,by simp;omega,?_,by omega⟩
    ·rw [e1,Nat.add_mul,<-Nat.add_assoc]
     congr 1
     rw [hs];simp only [Nat.mul_assoc,Nat.mul_comm]
    ·rw [O8 (by omega)];have d1:(b.toNat % 128+128 * n1) % 128+128=b.toNat:=by omega
     have d2:(b.toNat % 128+128 * n1) / 128=n1:=by omega
     rw [d1,d2,e5];obtain⟨t,ht⟩:∃ t,s - k=t+1:=⟨s - k - 1,by omega⟩;rw [ht,List.take_succ_cons,show s - (k+1)=t by omega];simp
   ·rw [if_neg GR] at h;by_cases xa:1099511627776 < bg+b.toNat % 128 * 128 ^ k\/(b.toNat=0/\0 < k)
    ·rw [if_pos xa] at h;cases h
    ·rw [if_neg xa] at h;simp only [Option.some.injEq,Prod.mk.injEq] at h;obtain⟨rfl,rfl⟩:=h;have hm:b.toNat % 128=b.toNat:=Nat.mod_eq_of_lt (by omega);rw [hm] at xa;refine⟨b.toNat,by rw [hm],by rw [hm];omega,by omega,by simp,?_,by omega⟩;rw [I6 (by omega),show k+1 - k=1 by omega];simp
theorem D6 {l:List UInt8} {m s:Nat} (h:Ew l=some (m,s)):m<=1099511627776/\s<=l.length/\nb m=l.take s/\(nb m).length=s:=by
 obtain⟨n,e1,e2,e3,e4,e5,_⟩:=Aag l 0 0 m s h;have:m=n:=by simpa using e1
 subst this;have e4':s<=l.length:=by simpa using e4
 refine⟨e2,e4',by simpa using e5,?_⟩;rw [e5,List.length_take];omega
end Go.Proofs.YtmkpfdcnikgokaaGreat
namespace Go.Proofs.YtmkpfdcnikgokaaGreat
open Go.RowKit
theorem Ar {P:Program} (w:World) {ops:Array Oper} {rest:List Oper} {o:Oper} {a:Act} {Q:Exit->Act->World->Prop} (CL:o.guard=none) (s x:Operand) (t:TypeId)
 (ho:o.op= .call { callee:= .builtin .append,args:=#[s,x],argTypes:=#[t,t] })
 (aa:Nat) (e:TypeId) (i:TypeInfo) (z:Value) (size bytes:Nat) (ht:P.underlying t=some (.slice e)) (hi:P.info? e=some i) (hz:i.zero=some z)
 (jw:i.size=size) (ss:i.bytes=bytes) (CC:z.cells.size=size) (ay:0 < size)
 (v:Value) (n:Nat) (xs:List Value) (hs:a.eval s=v) (ah:w.ownsRow aa e size v n xs)
 (B:Nat) (A:Option Addr) (m c:Nat) (news:List Value) (hx:a.eval x= .slice A m c) (hr:RD w B size A m news) (h1:∀ u∈news,u.oneCell'=true)
 (uk:n+m<=1073741824) (fm:bytes<=65536) (ao:aa<=w.heap.size)
 (h:∀ v' w',w'.ownsRow aa e size v' (n+m) (xs++news)->Below aa w w'->(∀ (b:Nat) (o':Obj),w.heap[b]?=some o'->(∀ bh,o'≠ .cells bh e (0,0))->w'.heap[b]?=some o')->wpList P ops Q rest (a.put o.dst v') w'):wpList P ops Q (o :: rest) a w:=by
 refine wpList_plain CL fun K hK=>?_;have de:(n+m) * bytes<=140737488355328:=by
  have:(n+m) * bytes<=(n+m) * 65536:=Nat.mul_le_mul_left _ fm;omega
 obtain⟨v',w',je,h2,h3⟩:=Ej (P:=P) w aa t o.type e i z size bytes ht hi hz jw ss CC ay v n xs ah B A m c news hr h1 (by unfold maxLen;omega) de ao;have hkeep:∀ (b:Nat) (o':Obj),w.heap[b]?=some o'->(∀ bh,o'≠ .cells bh e (0,0))->w'.heap[b]?=some o':=by
  intro b o' hb ak;obtain⟨-,-,-,-,hk⟩:=h3;rw [hk b (Array.getElem?_eq_some_iff.1 hb).1 ?_]
  ·exact hb
  ·rcases ah.2 with⟨rfl,_⟩ | ⟨g,cap,bh,rfl,_,hg,_⟩
   ·intro e1;cases e1
   ·intro e1;simp only [Value.ownBlock,Option.some.injEq] at e1;subst e1;rw [hg] at hb;exact ak bh (Option.some.inj hb).symm
 unfold Oper.wp execOp;simp only [ho,resolve,invoke,builtin,Sem.run_bind,Sem.run_pure,Result.andThen_ok,List.map_toArray,List.map_cons,List.map_nil,hs,hx,je];exact hK _ _ (h v' w' h2 (E8 ah h3 ao) hkeep)
end Go.Proofs.YtmkpfdcnikgokaaGreat
namespace Go.Proofs.YtmkpfdcnikgokaaGreat
theorem Ig (q:List Rn) (x:Rn) (h:E9 (q++ [x])):Bw (q++ [x])=(R2 x,x.2.1):=by
 unfold Bw;rw [if_pos h];simp
end Go.Proofs.YtmkpfdcnikgokaaGreat
