/-
  Texts of this claim, put together: PlaceBase, Append, PlaceSlices. What each theorem asks stands in its statement.
-/
import Derived.Test.YtmkpfdcnikgokaaGreatMd1
set_option linter.unusedVariables false
set_option linter.unusedSimpArgs false
set_option maxRecDepth 100000
set_option maxHeartbeats 25600000
namespace Go.Proofs.YtmkpfdcnikgokaaGreat
open Go.RowKit
def Ed (l:List Rn):List Value:=l.flatMap fun x=> [.int .u32 x.1,.int .u8 x.2.1,.int .i64 x.2.2]
theorem Sd (l:List Rn):(Ed l).length=l.length * 3:=by
 induction l with
 | nil=>rfl
 | cons a l ih=>simp only [Ed,List.flatMap_cons,List.length_append,List.length_cons,List.length_nil] at *;omega
theorem Px (a b:List Rn):Ed (a++b)=Ed a++Ed b:=by simp [Ed]
theorem Od (l:List Rn):∀ (i:Nat) (h:i < l.length),(Ed l)[i * 3]?=some (.int .u32 l[i].1)/\(Ed l)[i * 3+1]?=some (.int .u8 l[i].2.1)/\(Ed l)[i * 3+2]?=some (.int .i64 l[i].2.2):=by
 induction l with
 | nil=>intro i h;simp at h
 | cons a l ih=>
   intro i h;have e:Ed (a :: l)= .int .u32 a.1 :: .int .u8 a.2.1 :: .int .i64 a.2.2 :: Ed l:=rfl;rw [e]
   cases i with
   | zero=>exact⟨rfl,rfl,rfl⟩
   | succ i=>
     have:=ih i (by simpa using h);rw [show (i+1) * 3=i * 3+3 by omega];exact this
theorem Mh (l:List Rn):∀ u∈Ed l,u.oneCell'=true:=by
 intro u hu;simp only [Ed,List.mem_flatMap] at hu;obtain⟨a,_,h⟩:=hu;simp at h;rcases h with rfl | rfl | rfl <;> rfl
def RR (w:World) (B:Nat) (A:Option Addr) (l:List Rn):Prop:=RD w B 3 A l.length (Ed l)
theorem RR.cell {w:World} {B:Nat} {A:Option Addr} {l:List Rn} (h:RR w B A l) (hl:0 < l.length):
 ∃ b off,A=some ⟨b,off,none⟩/\b < B/\∀ j (hj:j < l.length),w.cell? ⟨b,off+j * 3,none⟩=some (.int .u32 l[j].1)/\w.cell? ⟨b,off+j * 3+1,none⟩=some (.int .u8 l[j].2.1)/\w.cell? ⟨b,off+j * 3+2,none⟩=some (.int .i64 l[j].2.2):=by
 obtain⟨b,off,e,hb,hc⟩:=h.2 hl;refine⟨b,off,e,hb,fun j hj=>⟨hc (j * 3) _ (Od l j hj).1,?_,?_⟩⟩
 ·have:=hc (j * 3+1) _ (Od l j hj).2.1;rwa [<-Nat.add_assoc] at this
 ·have:=hc (j * 3+2) _ (Od l j hj).2.2;rwa [<-Nat.add_assoc] at this
theorem RR.below' {w w':World} {A:Option Addr} {l:List Rn} (h:RR w w.heap.size A l) (hb:Below w.heap.size w w'):RR w' w'.heap.size A l:=(RD.below h hb).more hb.size
theorem RR.of_own {w:World} {aa:Nat} {e:TypeId} {c n:Nat} {A:Option Addr} {l:List Rn} (h:w.ownsRow aa e 3 (.slice A n c) n (Ed l)) (hn:l.length=n):RR w w.heap.size A l:=by
 subst hn;exact RD.of_own h
theorem RR.new (w:World) (cs:Array Value) (T:TypeId) (l:List Rn) (h:cs.toList=Ed l):RR (w.alloc (.cells cs T)) (w.alloc (.cells cs T)).heap.size (some ⟨w.heap.size,0,none⟩) l:=by
 refine⟨Sd l,fun _=>⟨_,_,rfl,by rw [World.size_alloc];omega,fun j u hu=>?_⟩⟩;rw [Nat.zero_add,World.cell?_alloc_new,<-Array.getElem?_toList,h];exact hu
def Gl (x:Rn):Prop:=0<=x.1/\x.1 < 4294967296/\0<=x.2.1/\x.2.1 < 256/\-9223372036854775808<=x.2.2/\x.2.2<=9223372036854775807
theorem T9 (t r m:Int) (w:World):
 Calls Tryz.prog 181 #[.agg #[.int .u32 t,.int .u8 r,.int .i64 m]] w fun e w'=>e= .returned (.agg #[.int .u32 t,.int .u8 r])/\Below w.heap.size w w':=by
 go_enter Tryz.func181,Tryz.ntmps181;go_wp2_with fail;exact bodyPost_ret (v:= .agg #[.int .u32 t,.int .u8 r]) (by simp [results,Tryz.results181,go_sem]) rfl ⟨rfl,(Bf _ _).trans ((Bf _ _).mono (by simp))⟩
theorem Sm (t r m:Int) (w:World) (h1:0<=t) (h2:t<=1073741824) (h3:1<=m) (h4:m<=4096):
 Calls Tryz.prog 182 #[.agg #[.int .u32 t,.int .u8 r,.int .i64 m]] w fun e w'=>e= .returned (.agg #[.int .u32 (t+m - 1),.int .u8 r])/\Below w.heap.size w w':=by
 go_enter Tryz.func182,Tryz.ntmps182;go_wp2_with fail;exact bodyPost_ret (v:= .agg #[.int .u32 (t+m - 1),.int .u8 r]) (by simp [results,Tryz.results182,go_sem]) rfl ⟨rfl,(Bf _ _).trans ((Bf _ _).mono (by simp))⟩
theorem Pv {p:List Rn} {k:Nat} (hk:k < p.length):C9 (p.take (k+1))↔C9 (p.take k)/\J6 p[k]/\(∀ h:0 < k,Lm (p[k - 1]'(by omega)) p[k]):=by
 rw [List.take_succ_eq_append_getElem hk];rcases Nat.eq_zero_or_pos k with h0 | h0
 ·subst h0;rw [List.take_zero,List.nil_append,Xc];exact⟨fun h=>⟨trivial,h,fun h=>absurd h (by omega)⟩,fun h=>h.2.1⟩
 ·have ak:p.take k≠ []:=by
   intro e;have:=congrArg List.length e;rw [List.length_take,Nat.min_eq_left (Nat.le_of_lt hk),List.length_nil] at this;omega
  rw [U5 ak];have hl:(p.take k).getLast ak=p[k - 1]'(by omega):=by
   rw [List.getLast_eq_getElem];simp only [List.getElem_take,List.length_take,Nat.min_eq_left (Nat.le_of_lt hk)]
  rw [hl];exact⟨fun h=>⟨h.1,h.2.1,fun _=>h.2.2⟩,fun h=>⟨h.1,h.2.1,h.2.2 h0⟩⟩
theorem Ju {p:List Rn} (h:C9 p) (k:Nat):C9 (p.take k):=by
 have:C9 (p.take k++p.drop k):=by rw [List.take_append_drop];exact h
 exact (Ql this).1
def Lj (p:List Rn):Int:=if E9 p then 0 else 8
theorem Su {p:List Rn} (h:¬ E9 p):Lj p=8:=if_neg h
theorem Kn {p:List Rn} {k:Nat} (h:¬ C9 (p.take k)):Lj p=8:=if_neg (fun hm=>h (Ju hm.2.2.1 k))
theorem Js (A:Option Addr) (n c:Nat) (p:List Rn) (w:World) (hr:RR w w.heap.size A p) (hn:p.length=n) (hl:n < 1073741824) (ax:∀ x∈p,Gl x):
 Calls Tryz.prog 157 #[.slice A n c] w fun e w'=>e= .returned (.int .i64 (Lj p))/\Below w.heap.size w w':=by
 subst hn;by_cases h1:(p.length:Int) < 1
 ·have hf:=Aa (show Lj p=8 from Su (fun h=>by have:=h.1;omega));go_enter Tryz.func157,Tryz.ntmps157;go_wp2_with fail;go_ret;exact⟨Cu hf.out.symm,Below.refl _ _⟩
 by_cases h2:(64:Int) < (p.length:Int)
 ·have hf:=Aa (show Lj p=8 from Su (fun h=>by have:=h.2.1;omega));go_enter Tryz.func157,Tryz.ntmps157;go_wp2_with fail;go_ret;exact⟨Cu hf.out.symm,Below.refl _ _⟩
 have js:=Aa ax;clear ax;go_enter Tryz.func157,Tryz.ntmps157;go_wp2_with fail;obtain⟨w1,au,m0,m1,af,ac⟩:=Jl w (.int .u32 0) (.int .u8 0) 46;have f0:w1.frozen? ⟨w.heap.size,0,none⟩=false:=by rw [<-au];simp
 have f1:w1.frozen? ⟨w.heap.size,1,none⟩=false:=by rw [<-au];simp
 have rh:RR w1 w.heap.size A p:=RD.below hr ac;rw [au];clear au
 go_loopw [3,17] (fun d i wr=>∃ (k:Nat) (y:Int),k<=p.length/\i= .int .i64 (k:Int)/\d= .int .i64 y/\0<=y/\y<=4096 * (k:Int)/\Hid (y=Ou (p.take k))/\Hid (C9 (p.take k))/\Below w.heap.size w wr/\w.heap.size < wr.heap.size/\
  wr.frozen? ⟨w.heap.size,0,none⟩=false/\wr.frozen? ⟨w.heap.size,1,none⟩=false/\∃ a b:Int,wr.cell? ⟨w.heap.size,0,none⟩=some (.int .u32 a)/\wr.cell? ⟨w.heap.size,1,none⟩=some (.int .u8 b)/\0<=a/\a<=1073741824/\
  Hid (∀ h:0 < k/\k<=p.length,a=R2 (p[k - 1]'(by omega))/\b=(p[k - 1]'(by omega)).2.1)) (fun _ i _=>p.length - (intOf i).toNat)
 case atStart=>exact⟨0,0,by omega,rfl,rfl,by decide,by decide,Aa rfl,Aa trivial,ac,af,f0,f1,0,0,m0,m1,by decide,by decide,Aa (fun h=>absurd h.1 (by decide))⟩
 case round=>
  obtain⟨k,y,hk,rfl,rfl,sg,vt,hy,IW,hb,hs,g0,g1,a,b,q0,q1,ha0,ha1,hab⟩:=hrel;by_cases ai:k < p.length
  ·obtain⟨b0,o0,rfl,py,er⟩:=RR.cell (RD.below hr hb) (by omega);obtain⟨d0,d1,d2⟩:=er k ai;clear er;have z0:(k:Int) < p.length:=by omega
   obtain⟨t,ht⟩:∃ t,t=p[k].1:=⟨_,rfl⟩;obtain⟨r,gf⟩:∃ r,r=p[k].2.1:=⟨_,rfl⟩;obtain⟨m,hm⟩:∃ m,m=p[k].2.2:=⟨_,rfl⟩;rw [<-ht] at d0;rw [<-gf] at d1;rw [<-hm] at d2;have xy:p[k]=(t,r,m):=by rw [ht,gf,hm]
   have GL:=js.out p[k] (List.getElem_mem ai);rw [xy] at GL;obtain⟨t0,t1,r0,r1,n0,n1⟩:=GL;simp only at t0 t1 r0 r1 n0 n1;have ww:=Pv ai;rw [xy] at ww;have r5:=Aa ww;have Hel:=Aa xy;clear ht gf hm xy ww;by_cases c1:m < 1
   ·have hf:=Aa (show Lj p=8 from Kn (k:=k+1) (fun h=>by have:=(r5.out.1 h).2.1.2.2.2.1;simp only at this;omega));go_wp2_with fail;go_ret;exact⟨Cu hf.out.symm,hb.trans ((Bf wr _).mono hb.size)⟩
   by_cases c2:(4096:Int) < m
   ·have hf:=Aa (show Lj p=8 from Kn (k:=k+1) (fun h=>by have:=(r5.out.1 h).2.1.2.2.2.2.1;simp only at this;omega));go_wp2_with fail;go_ret;exact⟨Cu hf.out.symm,hb.trans ((Bf wr _).mono hb.size)⟩
   -- the run's box
   have el:Below w.heap.size w (wr.alloc (.cells #[.int .u32 t,.int .u8 r,.int .i64 m] 120)):=hb.trans ((Bf wr _).mono hb.size)
   have RU:∀ W,Below (wr.alloc (.cells #[.int .u32 t,.int .u8 r,.int .i64 m] 120)).heap.size (wr.alloc (.cells #[.int .u32 t,.int .u8 r,.int .i64 m] 120)) W->W.cell? ⟨wr.heap.size,0,none⟩=some (.int .u32 t)/\W.cell? ⟨wr.heap.size,1,none⟩=some (.int .u8 r)/\W.cell? ⟨wr.heap.size,2,none⟩=some (.int .i64 m)/\
    W.cell? ⟨w.heap.size,0,none⟩=some (.int .u32 a)/\W.cell? ⟨w.heap.size,1,none⟩=some (.int .u8 b)/\W.frozen? ⟨w.heap.size,0,none⟩=false/\W.frozen? ⟨w.heap.size,1,none⟩=false/\w.heap.size < W.heap.size:=by
    intro W hW;have j6:wr.heap.size < (wr.alloc (.cells #[.int .u32 t,.int .u8 r,.int .i64 m] 120)).heap.size:=by simp
    have gm:w.heap.size < (wr.alloc (.cells #[.int .u32 t,.int .u8 r,.int .i64 m] 120)).heap.size:=by simp;omega
    refine⟨(hW.cell (p:=⟨wr.heap.size,0,none⟩) j6).trans ?_,(hW.cell (p:=⟨wr.heap.size,1,none⟩) j6).trans ?_,(hW.cell (p:=⟨wr.heap.size,2,none⟩) j6).trans ?_,
     (hW.cell (p:=⟨w.heap.size,0,none⟩) gm).trans ?_,(hW.cell (p:=⟨w.heap.size,1,none⟩) gm).trans ?_,(hW.frozen (p:=⟨w.heap.size,0,none⟩) gm).trans ?_,(hW.frozen (p:=⟨w.heap.size,1,none⟩) gm).trans ?_,Nat.lt_of_lt_of_le gm hW.size⟩
    ·rw [World.cell?_alloc_new];rfl
    ·rw [World.cell?_alloc_new];rfl
    ·rw [World.cell?_alloc_new];rfl
    ·rw [World.cell?_alloc_lt _ _ _ hs];exact q0
    ·rw [World.cell?_alloc_lt _ _ _ hs];exact q1
    ·have:=(Bf wr (.cells #[.int .u32 t,.int .u8 r,.int .i64 m] 120)).frozen (p:=⟨w.heap.size,0,none⟩) hs;exact this.trans g0
    ·have:=(Bf wr (.cells #[.int .u32 t,.int .u8 r,.int .i64 m] 120)).frozen (p:=⟨w.heap.size,1,none⟩) hs;exact this.trans g1
   have BL:=Aa RU;clear RU;by_cases c3:Ep t r
   ·have c3b:=c3;obtain⟨c31,c32,c33⟩:=c3b;have Hc3:=Aa c3;clear c3;go_wp2_with fail;refine (T9 t r m _).mono ?_;rintro e w2 ⟨rfl,ae⟩;obtain⟨x0,x1,x2,x3,x4,x5,x6,x7⟩:=BL.out w2 ae;have rz:=el.trans (ae.mono el.size);go_wp2_with fail;refine (Jn t r w2 Hc3.out).mono ?_;rintro e w3 ⟨rfl,ag⟩;have hb23:=Ad ae ag;clear x0 x1 x2 x3 x4 x5 x6 x7;obtain⟨x0,x1,x2,x3,x4,x5,x6,x7⟩:=BL.out w3 hb23;have LC:=rz.trans (ag.mono rz.size);go_wp2_with fail;refine (Sm t r m w3 t0 c32 (by omega) (by omega)).mono ?_;rintro e w4 ⟨rfl,aw⟩;have GP:=Ad hb23 aw;clear x0 x1 x2 x3 x4 x5 x6 x7;obtain⟨x0,x1,x2,x3,x4,x5,x6,x7⟩:=BL.out w4 GP;have DV:=LC.trans (aw.mono LC.size);by_cases c4:t+m - 1<=1073741824
    ·have fy:J6 (t,r,m):=⟨c31,c32,c33,by simp only;omega,by simp only;omega,c4⟩;have Hone:=Aa fy;clear fy;go_wp2_with fail;refine (Jn (t+m - 1) r w4 ⟨by omega,c4,c33⟩).mono ?_;rintro e w5 ⟨rfl,bq⟩;have GO:=Ad GP bq;clear x0 x1 x2 x3 x4 x5 x6 x7;obtain⟨x0,x1,x2,x3,x4,x5,x6,x7⟩:=BL.out w5 GO;have ry:=DV.trans (bq.mono DV.size);clear q0 q1 g0 g1 d0 d1 d2;by_cases xp:0 < k->∀ h:k<=p.length,Lm (p[k - 1]'(by omega)) (t,r,m)
     ·have tq:=Aa (show C9 (p.take (k+1)) from r5.out.2 ⟨IW.out,Hone.out,fun h=>xp h hk⟩);have SI:=Aa (show Ou (p.take (k+1))=y+m by rw [List.take_succ_eq_append_getElem ai,Ra,hy.out,Hel.out])
      have WM:=Aa (show ∀ h:0 < k+1/\k+1<=p.length,t+m - 1=R2 (p[k+1 - 1]'(by omega))/\r=(p[k+1 - 1]'(by omega)).2.1 by
       intro h
       simp only [Nat.add_sub_cancel]
       rw [Hel.out]
       exact⟨rfl,rfl⟩)
      have hkc:(¬ (0:Int) < k)\/((0:Int) < k/\a < t/\(¬ r=b))\/((0:Int) < k/\a < t/\(r == b)=true/\(t == a+1)=false):=by
       by_cases EM:0 < k
       ·obtain⟨e1,e2⟩:=hab.out ⟨EM,hk⟩;obtain⟨s1,s2⟩:=xp EM hk;simp only at s1 s2;unfold R2 at e1;rw [<-e2,<-e1] at s2;rw [<-e1] at s1;by_cases HU:r=b
        ·exact .inr (.inr ⟨by omega,s1,by simpa using HU,by simpa using fun h=>s2 ⟨HU,h⟩⟩)
        ·exact .inr (.inl ⟨by omega,s1,HU⟩)
       ·exact .inl (by omega)
      clear xp;have fin:∀ W,Below w.heap.size w W->Below w.heap.size w ((W.setCell ⟨w.heap.size,0,none⟩ (.int .u32 (t+m - 1))).setCell ⟨w.heap.size,1,none⟩ (.int .u8 r)):=fun W hW=>(hW.setCell (Nat.le_refl _) _).setCell (Nat.le_refl _) _;have Fin:=Aa fin;clear fin;have m9:y+m<=4096 * ((k:Int)+1):=by omega
      rcases hkc with k1 | ⟨k1,k2,k3⟩ | ⟨k1,k2,k3,k4⟩
      all_goals
       go_wp2_with fail;refine (Sm t r m w5 t0 c32 (by omega) (by omega)).mono ?_;rintro e w6 ⟨rfl,bf⟩;have hb26:=Ad GO bf;clear x0 x1 x2 x3 x4 x5 x6 x7;obtain⟨x0,x1,x2,x3,x4,x5,x6,x7⟩:=BL.out w6 hb26;have DU:=ry.trans (bf.mono ry.size);go_wp2_with fail;go_roundw
       case rel=>
        refine⟨k+1,y+m,by omega,by go_num,rfl,by omega,by omega,Aa SI.out.symm,tq,Fin.out _ DU,by simp;omega,by simp [x5],by simp [x6],t+m - 1,r,?_,?_,by omega,c4,WM⟩
        ·simp [go_sem,x3]
        ·simp [go_sem,x4]
       case measure=>simp [intOf];omega
     ·have EM:0 < k:=by
       apply Classical.byContradiction;intro h;exact xp (fun h2=>absurd h2 h)
      have mu:¬ Lm (p[k - 1]'(by omega)) (t,r,m):=fun h=>xp (fun _ _=>h);have hf:=Aa (show Lj p=8 from Kn (k:=k+1) (fun h=>mu ((r5.out.1 h).2.2 EM)));have k1:(0:Int) < k:=by omega
      have hkc:t<=a\/(¬ t<=a/\r=b/\t=a+1):=by
       obtain⟨e1,e2⟩:=hab.out ⟨EM,hk⟩;unfold R2 at e1;unfold Lm at mu;simp only at mu;rw [<-e2,<-e1] at mu;by_cases hta:t<=a
       ·exact .inl hta
       ·exact .inr ⟨hta,by omega,by omega⟩
      clear xp mu;rcases hkc with k2 | ⟨k2,k3,k4⟩
      ·go_wp2_with fail;go_ret;exact⟨Cu hf.out.symm,ry⟩
      ·have K4:=Aa k4;have e1:(r == b)=true:=by simpa using k3
       have e2:(t == a+1)=true:=by simpa using k4
       clear k3 k4;go_wp2_with fail;go_ret;exact⟨Cu hf.out.symm,ry⟩
    ·have hf:=Aa (show Lj p=8 from Kn (k:=k+1) (fun h=>by have:=(r5.out.1 h).2.1.2.2.2.2.2;simp only at this;omega));have NG:=Aa (show ¬ Ep (t+m - 1) r from fun h=>c4 h.2.1);go_wp2_with fail;refine (Lb (t+m - 1) r w4 NG.out).mono ?_;rintro e w5 ⟨rfl,bq⟩;go_wp2_with fail;go_ret;exact⟨Cu hf.out.symm,DV.trans (bq.mono DV.size)⟩
   ·have hf:=Aa (show Lj p=8 from Kn (k:=k+1) (fun h=>by have:=(r5.out.1 h).2.1;exact c3 ⟨this.1,this.2.1,this.2.2.1⟩));have Hc3:=Aa c3;clear c3;go_wp2_with fail;refine (T9 t r m _).mono ?_;rintro e w2 ⟨rfl,ae⟩;have rz:=el.trans (ae.mono el.size);go_wp2_with fail;refine (Lb t r w2 Hc3.out).mono ?_;rintro e w3 ⟨rfl,ag⟩;go_wp2_with fail;go_ret;exact⟨Cu hf.out.symm,rz.trans (ag.mono rz.size)⟩
  ·have qv:¬ (k:Int) < p.length:=by omega
   have cp:p.take k=p:=List.take_of_length_le (by omega);have zd:=hy.out;have tq:=IW.out;rw [cp] at zd tq;by_cases SI:(4096:Int) < y
   ·have hf:=Aa (show Lj p=8 from Su (fun h=>by have:=h.2.2.2;omega));clear cp zd tq hy;go_wp2_with fail;go_ret;exact⟨Cu hf.out.symm,hb⟩
   ·have hf:=Aa (show Lj p=0 from if_pos ⟨by omega,by omega,tq,by omega⟩);clear cp zd tq hy;go_wp2_with fail;go_ret;exact⟨Cu hf.out.symm,hb⟩
section
variable {P:Program} (w:World)
theorem Oa (aa:Nat) (t ty e:TypeId) (i:TypeInfo) (size:Nat) (ht:P.underlying t=some (.slice e)) (hi:P.info? e=some i)
 (v:Value) (n:Nat) (xs:List Value) (ah:w.ownsRow aa e size v n xs) (c:Nat):(Builtin.append_ #[t,t] ty #[v,.slice none 0 c]).run P w= .ok v w:=by
 rcases ah.2 with⟨rfl,rfl⟩ | ⟨g,cap,bh,rfl,_,_,hnc,_⟩
 ·simp [Builtin.append_,run_underlying ht,sizeOf,typeInfo,hi,Builtin.lenOf,Builtin.firstCells]
 ·simp [Builtin.append_,run_underlying ht,sizeOf,typeInfo,hi,Builtin.lenOf,Builtin.firstCells,hnc,storeCells]
theorem Ej (aa:Nat) (t ty e:TypeId) (i:TypeInfo) (z:Value) (size bytes:Nat) (ht:P.underlying t=some (.slice e)) (hi:P.info? e=some i) (hz:i.zero=some z)
 (jw:i.size=size) (ss:i.bytes=bytes) (CC:z.cells.size=size) (ay:0 < size)
 (v:Value) (n:Nat) (xs:List Value) (ah:w.ownsRow aa e size v n xs)
 (B:Nat) (A:Option Addr) (m c:Nat) (news:List Value) (hr:RD w B size A m news) (h1:∀ u∈news,u.oneCell'=true)
 (uk:n+m<=maxLen) (fm:(n+m) * bytes<=140737488355328) (ao:aa<=w.heap.size):
 ∃ v' w',(Builtin.append_ #[t,t] ty #[v,.slice A m c]).run P w= .ok v' w'/\w'.ownsRow aa e size v' (n+m) (xs++news)/\w.grownBy w' v.ownBlock:=by
 rcases A with _ | ad
 ·have hm:m=0:=by
   rcases Nat.eq_zero_or_pos m with h0 | h0
   ·exact h0
   ·obtain⟨b,off,h,_⟩:=hr.2 h0;cases h
  subst hm;have hn:news= []:=List.eq_nil_of_length_eq_zero (by simpa using hr.1);subst hn;exact⟨v,w,Oa w aa t ty e i size ht hi v n xs ah c,by simpa using ah,World.grownBy.refl w _⟩
 ·have XL:∀ j u,news[j]?=some u->w.cell? (ad.add j)=some u:=by
   intro j u hu;rcases Nat.eq_zero_or_pos m with h0 | h0
   ·subst h0;have hn:news= []:=List.eq_nil_of_length_eq_zero (by simpa using hr.1);subst hn;simp at hu
   ·obtain⟨b,off,h,_,hc⟩:=hr.2 h0;injection h with h;subst h;rw [Fk];exact hc j u hu
  obtain⟨v',w',je,h2,h3,_,_⟩:=run_append_own_at (P:=P) w aa t ty e i z size bytes ht hi hz jw ss CC ay v n xs ah ad m c news hr.1 XL h1 uk fm ao;exact⟨v',w',je,h2,h3⟩
theorem Qg {o:Oper} {a:Act} {K:Act->World->Prop} {Q:Exit->Act->World->Prop} (s x:Operand) (t:TypeId)
 (ho:o.op= .call { callee:= .builtin .append,args:=#[s,x],argTypes:=#[t,t] })
 (aa:Nat) (e:TypeId) (i:TypeInfo) (z:Value) (size bytes:Nat) (ht:P.underlying t=some (.slice e)) (hi:P.info? e=some i) (hz:i.zero=some z)
 (jw:i.size=size) (ss:i.bytes=bytes) (CC:z.cells.size=size) (ay:0 < size)
 (v:Value) (n:Nat) (xs:List Value) (hs:a.eval s=v) (ah:w.ownsRow aa e size v n xs)
 (B:Nat) (A:Option Addr) (m c:Nat) (news:List Value) (hx:a.eval x= .slice A m c) (hr:RD w B size A m news) (h1:∀ u∈news,u.oneCell'=true)
 (uk:n+m<=1073741824) (fm:bytes<=65536) (ao:aa<=w.heap.size)
 (h:∀ v' w',w'.ownsRow aa e size v' (n+m) (xs++news)->Below aa w w'->K (a.put o.dst v') w'):o.wp P a w K Q:=by
 have de:(n+m) * bytes<=140737488355328:=by
  have:(n+m) * bytes<=(n+m) * 65536:=Nat.mul_le_mul_left _ fm;omega
 obtain⟨v',w',je,h2,h3⟩:=Ej (P:=P) w aa t o.type e i z size bytes ht hi hz jw ss CC ay v n xs ah B A m c news hr h1 (by unfold maxLen;omega) de ao;unfold Oper.wp execOp;simp only [ho,resolve,invoke,builtin,Sem.run_bind,Sem.run_pure,Result.andThen_ok,List.map_toArray,List.map_cons,List.map_nil,hs,hx,je];exact h v' w' h2 (E8 ah h3 ao)
theorem Ba {ops:Array Oper} {rest:List Oper} {o:Oper} {a:Act} {Q:Exit->Act->World->Prop} (CL:o.guard=none) (s x:Operand) (t:TypeId)
 (ho:o.op= .call { callee:= .builtin .append,args:=#[s,x],argTypes:=#[t,t] })
 (aa:Nat) (e:TypeId) (i:TypeInfo) (z:Value) (size bytes:Nat) (ht:P.underlying t=some (.slice e)) (hi:P.info? e=some i) (hz:i.zero=some z)
 (jw:i.size=size) (ss:i.bytes=bytes) (CC:z.cells.size=size) (ay:0 < size)
 (v:Value) (n:Nat) (xs:List Value) (hs:a.eval s=v) (ah:w.ownsRow aa e size v n xs)
 (B:Nat) (A:Option Addr) (m c:Nat) (news:List Value) (hx:a.eval x= .slice A m c) (hr:RD w B size A m news) (h1:∀ u∈news,u.oneCell'=true)
 (uk:n+m<=1073741824) (fm:bytes<=65536) (ao:aa<=w.heap.size)
 (h:∀ v' w',w'.ownsRow aa e size v' (n+m) (xs++news)->Below aa w w'->wpList P ops Q rest (a.put o.dst v') w'):wpList P ops Q (o :: rest) a w:=
 wpList_plain CL fun _ hK=>Qg w s x t ho aa e i z size bytes ht hi hz jw ss CC ay v n xs hs ah B A m c news hx hr h1 uk fm ao fun v' w' h2 h3=>hK _ _ (h v' w' h2 h3)
end
theorem Fx (w:World) (e:TypeId) (size aa:Nat) (hb:aa<=w.heap.size):(w.alloc (.cells #[] e)).ownsRow aa e size (.slice (some ⟨w.heap.size,0,none⟩) 0 0) 0 []:=
 World.ownsRow_made w #[] 0 hb (Nat.zero_le _) (by simp)
theorem Tm:(Tryz.prog.info? 120).map (fun i=>(i.zero,i.size,i.bytes))=some (some (.agg #[.int .u32 0,.int .u8 0,.int .i64 0]),3,16):=by kernel_rfl
theorem Tu (w:World) (a:Option Addr) (n c:Nat):(binOp .eql 102 (.slice a n c) (.slice none 0 0)).run Tryz.prog w= .ok (.bool a.isNone) w:=by
 simp only [binOp];simp [run_equal_slice_nil w 102 120 a n c Tryz.underlying102]
theorem RR.none_nil {w:World} {B:Nat} {l:List Rn} (h:RR w B none l):l= []:=by
 rcases Nat.eq_zero_or_pos l.length with h0 | h0
 ·exact List.eq_nil_of_length_eq_zero h0
 ·obtain⟨b,off,h,_⟩:=h.2 h0;cases h
theorem Wk (A:Option Addr) (n c:Nat) (l:List Rn) (w:World) (hr:RR w w.heap.size A l) (hn:l.length=n) (hl:n < 1073741824) (ff:A=none->c=0):
 Calls Tryz.prog 143 #[.slice A n c] w fun e w'=>∃ v,e= .returned v/\w'.ownsRow w.heap.size 120 3 v l.length (Ed l)/\Below w.heap.size w w':=by
 subst hn;obtain⟨i0,cr,cb,cu,cq⟩:=info_parts Tm;rcases A with _ | a
 ·obtain rfl:=hr.none_nil;obtain rfl:=ff rfl;clear ff;have AH:=fun w:World=>Tu w none 0 0;go_enter Tryz.func143,Tryz.ntmps143;go_wp2_with fail;go_ret;exact⟨_,rfl,World.ownsRow_nil _ _ _ _,Below.refl _ _⟩
 ·clear ff;have AH:=fun w:World=>Tu w (some a) l.length c;go_enter Tryz.func143,Tryz.ntmps143;go_wp2_with (at_builtin;refine Ba _ rfl (.tmp 5) (.tmp 6) 102 rfl w.heap.size 120 i0 (.agg #[.int .u32 0,.int .u8 0,.int .i64 0]) 3 16 Tryz.underlying102 cr cb cu cq rfl (by decide) _ 0 [] rfl (Fx w _ _ _ (Nat.le_refl _)) w.heap.size (some a) l.length c (Ed l) rfl (RD.alloc hr (Nat.le_refl _) _) (Mh _) (by omega) (by decide) (by simp) ?_;intro v1 w1 aq ac;simp only [Nat.zero_add,List.nil_append] at aq);go_ret;exact⟨_,rfl,aq,(Bf w _).trans ac⟩
theorem Yn (A:Option Addr) (n c:Nat) (l:List Rn) (w:World) (hr:RR w w.heap.size A l) (hn:l.length=n) (hl:n < 1073741824) (ff:A=none->c=0):
 Calls Tryz.prog 106 #[.slice A n c] w fun e w'=>∃ v,e= .returned v/\w'.ownsRow w.heap.size 120 3 v l.length (Ed l)/\Below w.heap.size w w':=by
 have C:=Aa (Wk A n c l w hr hn hl ff);clear ff hn;go_enter Tryz.func106,Tryz.ntmps106;go_wp2_with fail;refine (Ag C).mono ?_;rintro e w1 ⟨v1,rfl,aq,ac⟩;go_wp2_with fail;go_ret;exact⟨_,rfl,aq,ac⟩
theorem Up (A:Option Addr) (n c:Nat) (l:List Rn) (w:World) (hr:RR w w.heap.size A l) (hn:l.length=n) (hl:n < 1073741824):
 Calls Tryz.prog 121 #[.slice A n c] w fun e w'=>∃ v,e= .returned v/\w'.ownsRow w.heap.size 120 3 v l.length (Ed l)/\Below w.heap.size w w':=by
 subst hn;obtain⟨i0,cr,cb,cu,cq⟩:=info_parts Tm;go_enter Tryz.func121,Tryz.ntmps121;go_wp2_with (at_builtin;refine Ba _ rfl (.tmp 4) (.tmp 5) 102 rfl w.heap.size 120 i0 (.agg #[.int .u32 0,.int .u8 0,.int .i64 0]) 3 16 Tryz.underlying102 cr cb cu cq rfl (by decide) _ 0 [] rfl (World.ownsRow_nil _ _ _ _) w.heap.size A l.length c (Ed l) rfl hr (Mh _) (by omega) (by decide) (Nat.le_refl _) ?_;intro v1 w1 aq ac;simp only [Nat.zero_add,List.nil_append] at aq);go_ret;exact⟨_,rfl,aq,ac⟩
theorem Ady (A B:Option Addr) (c d n k:Nat) (l m:List Rn) (w:World) (hr:RR w w.heap.size A l) (hs:RR w w.heap.size B m) (hn:l.length=n) (hk:m.length=k) (hl:n < 1073741824) (hm:k < 1073741824):
 Calls Tryz.prog 144 #[.slice A n c,.slice B k d] w fun e w'=>e= .returned (.bool (decide (l=m)))/\Below w.heap.size w w':=by
 subst hn hk;by_cases ak:(l.length:Int)=(m.length:Int)
 ·have tg:l.length=m.length:=by omega
  have E:=Aa tg;have ng:((l.length:Int) == (m.length:Int))=true:=by simpa using ak
  have ot:((l.length:Int) != (m.length:Int))=false:=by simpa using ak
  clear ak;go_enter Tryz.func144,Tryz.ntmps144;clear tg;go_wp2_with fail
  go_loopw [5] (fun i wr=>∃ k:Nat,k<=l.length/\i= .int .i64 (k:Int)/\Hid (l.take k=m.take k)/\Below w.heap.size w wr) (fun i _=>l.length - (intOf i).toNat)
  case atStart=>exact⟨0,by omega,rfl,Aa rfl,Below.refl _ _⟩
  case round=>
   obtain⟨k,hk,rfl,hT,hb⟩:=hrel;by_cases ai:k < l.length
   ·have di:k < m.length:=by have:=E.out;omega
    obtain⟨b0,o0,rfl,py,er⟩:=RR.cell (RD.below hr hb) (by omega);obtain⟨b1,o1,rfl,eb,kh⟩:=RR.cell (RD.below hs hb) (by omega);obtain⟨d0,d1,d2⟩:=er k ai;obtain⟨e0,e1,e2⟩:=kh k di;clear er kh;have z0:(k:Int) < l.length:=by omega
    have z1:(k:Int) < m.length:=by omega
    have z4:(0:Int)<=k:=by omega
    obtain⟨x0,qe⟩:∃ x,x=l[k].1:=⟨_,rfl⟩;obtain⟨x1,jz⟩:∃ x,x=l[k].2.1:=⟨_,rfl⟩;obtain⟨x2,l8⟩:∃ x,x=l[k].2.2:=⟨_,rfl⟩;obtain⟨y0,sg⟩:∃ x,x=m[k].1:=⟨_,rfl⟩;obtain⟨y1,vt⟩:∃ x,x=m[k].2.1:=⟨_,rfl⟩;obtain⟨y2,FM⟩:∃ x,x=m[k].2.2:=⟨_,rfl⟩;rw [<-qe] at d0;rw [<-jz] at d1;rw [<-l8] at d2;rw [<-sg] at e0;rw [<-vt] at e1;rw [<-FM] at e2;have hX:=Aa (show l[k]=(x0,x1,x2) by rw [qe,jz,l8]);have hY:=Aa (show m[k]=(y0,y1,y2) by rw [sg,vt,FM]);clear qe jz l8 sg vt FM;by_cases jy:x0=y0/\x1=y1/\x2=y2
    ·obtain⟨rfl,rfl,rfl⟩:=jy;go_wp2_with fail
     go_quiet (fail)
     go_wp2_with fail;go_roundw
     case rel=>
      refine⟨k+1,by omega,by go_num,Aa ?_,Bk hb _⟩;rw [List.take_succ_eq_append_getElem ai,List.take_succ_eq_append_getElem di,hT.out,hX.out,hY.out]
     case measure=>simp [intOf];omega
    ·have fu:(¬ x0=y0)\/(x0=y0/\¬ x1=y1)\/(x0=y0/\x1=y1/\¬ x2=y2):=by
      by_cases h0:x0=y0
      ·by_cases h1:x1=y1
       ·exact .inr (.inr ⟨h0,h1,fun h2=>jy ⟨h0,h1,h2⟩⟩)
       ·exact .inr (.inl ⟨h0,h1⟩)
      ·exact .inl h0
     have hf:=Aa (show decide (l=m)=false by
      rw [decide_eq_false_iff_not]
      intro e
      subst e
      have:=hX.out.symm.trans hY.out
      simp only [Prod.mk.injEq] at this
      exact jy this)
     clear jy;rcases fu with h0 | ⟨rfl,h1⟩ | ⟨rfl,rfl,h2⟩
     all_goals
      go_wp2_with fail
      go_quiet (fail)
      go_wp2_with fail;go_ret;exact⟨Ae hf.out.symm,Bk hb _⟩
   ·have qv:¬ (k:Int) < l.length:=by omega
    have fin:=Aa (show decide (l=m)=true by
     have h1:=hT.out
     rw [List.take_of_length_le (by omega),List.take_of_length_le (by have:=E.out;omega)] at h1
     exact decide_eq_true h1)
    go_wp2_with fail;go_ret;exact⟨Ae fin.out.symm,hb⟩
 ·have ng:((l.length:Int) == (m.length:Int))=false:=by simpa using ak
  have ot:((l.length:Int) != (m.length:Int))=true:=by simpa using ak
  have fin:=Aa (show decide (l=m)=false by
   rw [decide_eq_false_iff_not]
   intro e
   exact ak (by rw [e]))
  clear ak;go_enter Tryz.func144,Tryz.ntmps144;go_wp2_with fail;go_ret;exact⟨Ae fin.out.symm,Below.refl _ _⟩
theorem Wc (A B:Option Addr) (c d n k:Nat) (l m:List Rn) (w:World) (hr:RR w w.heap.size A l) (hs:RR w w.heap.size B m) (hn:l.length=n) (hk:m.length=k) (hl:n < 1073741824) (hm:k < 1073741824):
 Calls Tryz.prog 155 #[.slice A n c,.slice B k d] w fun e w'=>e= .returned (.bool (decide (l=m)))/\Below w.heap.size w w':=by
 subst hn hk;by_cases ak:(l.length:Int)=(m.length:Int)
 ·have tg:l.length=m.length:=by omega
  have E:=Aa tg;have ng:((l.length:Int) == (m.length:Int))=true:=by simpa using ak
  have ot:((l.length:Int) != (m.length:Int))=false:=by simpa using ak
  clear ak;go_enter Tryz.func155,Tryz.ntmps155;clear tg;go_wp2_with fail
  go_loopw [13] (fun i wr=>∃ k:Nat,k<=l.length/\i= .int .i64 (k:Int)/\Hid (l.take k=m.take k)/\Below w.heap.size w wr) (fun i _=>l.length - (intOf i).toNat)
  case atStart=>exact⟨0,by omega,rfl,Aa rfl,Below.refl _ _⟩
  case round=>
   obtain⟨k,hk,rfl,hT,hb⟩:=hrel;by_cases ai:k < l.length
   ·have di:k < m.length:=by have:=E.out;omega
    obtain⟨b0,o0,rfl,py,er⟩:=RR.cell (RD.below hr hb) (by omega);obtain⟨b1,o1,rfl,eb,kh⟩:=RR.cell (RD.below hs hb) (by omega);obtain⟨d0,d1,d2⟩:=er k ai;obtain⟨e0,e1,e2⟩:=kh k di;clear er kh;have z0:(k:Int) < l.length:=by omega
    have z1:(k:Int) < m.length:=by omega
    have z4:(0:Int)<=k:=by omega
    obtain⟨x0,qe⟩:∃ x,x=l[k].1:=⟨_,rfl⟩;obtain⟨x1,jz⟩:∃ x,x=l[k].2.1:=⟨_,rfl⟩;obtain⟨x2,l8⟩:∃ x,x=l[k].2.2:=⟨_,rfl⟩;obtain⟨y0,sg⟩:∃ x,x=m[k].1:=⟨_,rfl⟩;obtain⟨y1,vt⟩:∃ x,x=m[k].2.1:=⟨_,rfl⟩;obtain⟨y2,FM⟩:∃ x,x=m[k].2.2:=⟨_,rfl⟩;rw [<-qe] at d0;rw [<-jz] at d1;rw [<-l8] at d2;rw [<-sg] at e0;rw [<-vt] at e1;rw [<-FM] at e2;have hX:=Aa (show l[k]=(x0,x1,x2) by rw [qe,jz,l8]);have hY:=Aa (show m[k]=(y0,y1,y2) by rw [sg,vt,FM]);clear qe jz l8 sg vt FM;by_cases jy:x0=y0/\x1=y1/\x2=y2
    ·obtain⟨rfl,rfl,rfl⟩:=jy;go_wp2_with fail
     go_quiet (fail)
     go_wp2_with fail;go_roundw
     case rel=>
      refine⟨k+1,by omega,by go_num,Aa ?_,Bk hb _⟩;rw [List.take_succ_eq_append_getElem ai,List.take_succ_eq_append_getElem di,hT.out,hX.out,hY.out]
     case measure=>simp [intOf];omega
    ·have fu:(¬ x0=y0)\/(x0=y0/\¬ x1=y1)\/(x0=y0/\x1=y1/\¬ x2=y2):=by
      by_cases h0:x0=y0
      ·by_cases h1:x1=y1
       ·exact .inr (.inr ⟨h0,h1,fun h2=>jy ⟨h0,h1,h2⟩⟩)
       ·exact .inr (.inl ⟨h0,h1⟩)
      ·exact .inl h0
     have hf:=Aa (show decide (l=m)=false by
      rw [decide_eq_false_iff_not]
      intro e
      subst e
      have:=hX.out.symm.trans hY.out
      simp only [Prod.mk.injEq] at this
      exact jy this)
     clear jy;rcases fu with h0 | ⟨rfl,h1⟩ | ⟨rfl,rfl,h2⟩
     all_goals
      go_wp2_with fail
      go_quiet (fail)
      go_wp2_with fail;go_ret;exact⟨Ae hf.out.symm,Bk hb _⟩
   ·have qv:¬ (k:Int) < l.length:=by omega
    have fin:=Aa (show decide (l=m)=true by
     have h1:=hT.out
     rw [List.take_of_length_le (by omega),List.take_of_length_le (by have:=E.out;omega)] at h1
     exact decide_eq_true h1)
    go_wp2_with fail;go_ret;exact⟨Ae fin.out.symm,hb⟩
 ·have ng:((l.length:Int) == (m.length:Int))=false:=by simpa using ak
  have ot:((l.length:Int) != (m.length:Int))=true:=by simpa using ak
  have fin:=Aa (show decide (l=m)=false by
   rw [decide_eq_false_iff_not]
   intro e
   exact ak (by rw [e]))
  clear ak;go_enter Tryz.func155,Tryz.ntmps155;go_wp2_with fail;go_ret;exact⟨Ae fin.out.symm,Below.refl _ _⟩
theorem Yo (A B:Option Addr) (c d n k:Nat) (l m:List Rn) (w:World) (hr:RR w w.heap.size A l) (hs:RR w w.heap.size B m) (hn:l.length=n) (hk:m.length=k) (hl:n < 1073741824) (hm:k < 1073741824):
 Calls Tryz.prog 117 #[.slice A n c,.slice B k d] w fun e w'=>e= .returned (.bool (decide (l=m)))/\Below w.heap.size w w':=by
 have C:=Aa (Wc A B c d n k l m w hr hs hn hk hl hm);clear hn hk;go_enter Tryz.func117,Tryz.ntmps117;go_wp2_with fail;refine (Ag C).mono ?_;rintro e w1 ⟨rfl,ac⟩;go_wp2_with fail;go_ret;exact⟨rfl,ac⟩
def Bw (p:List Rn):Id2:=if E9 p then (R2 (p.getLastD (0,0,0)),(p.getLastD (0,0,0)).2.1) else (0,0)
theorem Abl {p:List Rn} (h:¬ E9 p):Bw p=(0,0):=if_neg h
theorem Ng (A:Option Addr) (n c:Nat) (p:List Rn) (w:World) (hr:RR w w.heap.size A p) (hn:p.length=n) (hl:n < 1073741824) (ax:∀ x∈p,Gl x):
 Calls Tryz.prog 167 #[.slice A n c] w fun e w'=>e= .returned (.agg #[.int .u32 (Bw p).1,.int .u8 (Bw p).2])/\Below w.heap.size w w':=by
 subst hn;have js:=Aa ax;clear ax;by_cases hm:E9 p
 ·have hc:=Aa (show Lj p=0 from if_pos hm);have cn:0 < p.length:=hm.1;obtain⟨b0,o0,rfl,py,er⟩:=RR.cell hr cn;obtain⟨d0,d1,d2⟩:=er (p.length - 1) (by omega);clear er;obtain⟨t,ht⟩:∃ t,t=(p[p.length - 1]'(by omega)).1:=⟨_,rfl⟩;obtain⟨r,gf⟩:∃ t,t=(p[p.length - 1]'(by omega)).2.1:=⟨_,rfl⟩;obtain⟨m,NV⟩:∃ t,t=(p[p.length - 1]'(by omega)).2.2:=⟨_,rfl⟩;rw [<-ht] at d0;rw [<-gf] at d1;rw [<-NV] at d2;have xy:p[p.length - 1]'(by omega)=(t,r,m):=by rw [ht,gf,NV]
  have fy:=Eh hm.2.2.1 _ (List.getElem_mem (h:=by omega):p[p.length - 1]'(by omega)∈p);rw [xy] at fy;obtain⟨e1,e2,e3,e4,e5,e6⟩:=fy;simp only at e1 e2 e3 e4 e5 e6
  have dc:=Aa (show Bw p=(t+m - 1,r) by
   have hg:p.getLastD (0,0,0)=(t,r,m):=by
    rw [<-xy,List.getLastD_eq_getLast?,List.getLast?_eq_getElem?,List.getElem?_eq_getElem (by omega)]
    rfl
   unfold Bw
   rw [if_pos hm,hg]
   rfl)
  have z0:(0:Int)<=(p.length:Int) - 1:=by omega
  have z1:(p.length:Int) - 1 < p.length:=by omega
  have z2:((p.length:Int) - 1).toNat=p.length - 1:=by omega
  clear ht gf NV xy hm;go_enter Tryz.func167,Tryz.ntmps167;go_wp2_with fail;have ac:=Bf w (.cells #[.int .u32 0,.int .u8 0] 46);have rh:RR (w.alloc (.cells #[.int .u32 0,.int .u8 0] 46)) (w.alloc (.cells #[.int .u32 0,.int .u8 0] 46)).heap.size (some ⟨b0,o0,none⟩) p:=RR.below' hr ac;refine (Js _ p.length c p _ rh rfl hl js.out).mono ?_;rintro e w2 ⟨rfl,ae⟩;rw [hc.out];have al:=Ad ac ae;replace d0:=Ac al py d0;replace d1:=Ac al py d1;replace d2:=Ac al py d2;have ai:w.heap.size < (w.alloc (.cells #[.int .u32 0,.int .u8 0] 46)).heap.size:=by simp
  have q0:=Ac (o:=0) ae ai (by rw [World.cell?_alloc_new];rfl:(w.alloc (.cells #[.int .u32 0,.int .u8 0] 46)).cell? ⟨w.heap.size,0,none⟩=some (.int .u32 0));have q1:=Ac (o:=1) ae ai (by rw [World.cell?_alloc_new];rfl:(w.alloc (.cells #[.int .u32 0,.int .u8 0] 46)).cell? ⟨w.heap.size,1,none⟩=some (.int .u8 0));have f0:w2.frozen? ⟨w.heap.size,0,none⟩=false:=(ae.frozen (p:=⟨w.heap.size,0,none⟩) ai).trans (by simp);have f1:w2.frozen? ⟨w.heap.size,1,none⟩=false:=(ae.frozen (p:=⟨w.heap.size,1,none⟩) ai).trans (by simp);have cd:=Nat.lt_of_lt_of_le ai ae.size;clear rh ai;go_wp2_with fail;refine (Sm t r m w2 (by omega) e2 e4 e5).mono ?_;rintro e w3 ⟨rfl,ag⟩;have du:=Ad al ag;replace q0:=Ac ag cd q0;replace q1:=Ac ag cd q1;replace f0:w3.frozen? ⟨w.heap.size,0,none⟩=false:=(ag.frozen (p:=⟨w.heap.size,0,none⟩) cd).trans f0;replace f1:w3.frozen? ⟨w.heap.size,1,none⟩=false:=(ag.frozen (p:=⟨w.heap.size,1,none⟩) cd).trans f1;clear d0 d1 d2;go_wp2_with fail;rw [dc.out];exact bodyPost_ret (v:= .agg #[.int .u32 (t+m - 1),.int .u8 r]) (by simp [results,Tryz.results167,go_sem,q0,q1]) rfl ⟨rfl,(du.setCell (Nat.le_refl _) _).setCell (Nat.le_refl _) _⟩
 ·have hc:=Aa (show Lj p=8 from if_neg hm);have dc:=Aa (Abl hm);clear hm;go_enter Tryz.func167,Tryz.ntmps167;go_wp2_with fail;have ac:=Bf w (.cells #[.int .u32 0,.int .u8 0] 46);have rh:RR (w.alloc (.cells #[.int .u32 0,.int .u8 0] 46)) (w.alloc (.cells #[.int .u32 0,.int .u8 0] 46)).heap.size A p:=RR.below' hr ac;refine (Js _ p.length c p _ rh rfl hl js.out).mono ?_;rintro e w2 ⟨rfl,ae⟩;rw [hc.out];have al:=Ad ac ae;have ai:w.heap.size < (w.alloc (.cells #[.int .u32 0,.int .u8 0] 46)).heap.size:=by simp
  have q0:=Ac (o:=0) ae ai (by rw [World.cell?_alloc_new];rfl:(w.alloc (.cells #[.int .u32 0,.int .u8 0] 46)).cell? ⟨w.heap.size,0,none⟩=some (.int .u32 0));have q1:=Ac (o:=1) ae ai (by rw [World.cell?_alloc_new];rfl:(w.alloc (.cells #[.int .u32 0,.int .u8 0] 46)).cell? ⟨w.heap.size,1,none⟩=some (.int .u8 0));have f0:w2.frozen? ⟨w.heap.size,0,none⟩=false:=(ae.frozen (p:=⟨w.heap.size,0,none⟩) ai).trans (by simp);have f1:w2.frozen? ⟨w.heap.size,1,none⟩=false:=(ae.frozen (p:=⟨w.heap.size,1,none⟩) ai).trans (by simp);have cd:=Nat.lt_of_lt_of_le ai ae.size;clear rh ai;go_wp2_with fail;rw [dc.out];exact bodyPost_ret (v:= .agg #[.int .u32 0,.int .u8 0]) (by simp [results,Tryz.results167,go_sem,q0,q1]) rfl ⟨rfl,(al.setCell (Nat.le_refl _) _).setCell (Nat.le_refl _) _⟩
end Go.Proofs.YtmkpfdcnikgokaaGreat
