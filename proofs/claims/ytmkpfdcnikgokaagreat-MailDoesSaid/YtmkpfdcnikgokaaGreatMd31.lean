/-
  Texts of this claim, put together: OpRef, CodeRefWrite. What each theorem asks stands in its statement.
-/
import Derived.Test.YtmkpfdcnikgokaaGreatMd3
import Derived.Test.YtmkpfdcnikgokaaGreatMd5
import Derived.Test.YtmkpfdcnikgokaaGreatMd30
set_option linter.unusedVariables false
set_option linter.unusedSimpArgs false
set_option maxRecDepth 100000
set_option maxHeartbeats 25600000
namespace Go.Proofs.YtmkpfdcnikgokaaGreat
open Go.RowKit
theorem Qx (k t r z:Int) (A:Option Addr) (n c:Nat) (w:World):
 Calls Tryz.prog 160 #[Gq k t r A n c z] w fun e w'=>e= .returned (.bool (decide (k=1\/k=2)))/\Below w.heap.size w w':=by
 obtain⟨w1,au,c0,c1,c2,c3,c4,af,ac⟩:=D7 w (.int .u8 k) (.int .u32 t) (.int .u8 r) (.slice A n c) (.int .i64 z) 104;have hc:(k == 1)=true\/((k == 1)=false/\(k == 2)=true)\/((k == 1)=false/\(k == 2)=false):=by
  cases (k == 1) <;> cases (k == 2) <;> simp
 rcases hc with h | ⟨h,h2⟩ | ⟨h,h2⟩
 all_goals
  go_enter Tryz.func160,Tryz.ntmps160;go_wp2_with fail;go_ret;exact⟨Ae (by simp_all),ac⟩
theorem Aav (z:Int) (w:World):
 Calls Tryz.prog 161 #[.int .i64 z] w fun e w'=>e= .returned (.bool (decide (J7 z)))/\w'=w:=by
 have hc:(z < 0/\¬ J7 z)\/(0<=z/\¬ z<=1114111/\¬ J7 z)\/(0<=z/\z<=1114111/\z < 55296/\J7 z)\/(0<=z/\z<=1114111/\¬ z < 55296/\57343 < z/\J7 z)\/(0<=z/\z<=1114111/\¬ z < 55296/\¬ 57343 < z/\¬ J7 z):=by
  unfold J7;omega
 rcases hc with⟨h,hp⟩ | ⟨h,h2,hp⟩ | ⟨h,h2,h3,hp⟩ | ⟨h,h2,h3,h4,hp⟩ | ⟨h,h2,h3,h4,hp⟩
 all_goals
  have Hp:=Aa hp;clear hp;go_enter Tryz.func161,Tryz.ntmps161;go_wp2_with fail;go_ret;exact⟨Ae (by first | (rw [decide_eq_true Hp.out];done) | (rw [decide_eq_false Hp.out];done) | (rw [decide_eq_true Hp.out];simp;done) | (rw [decide_eq_false Hp.out];simp;done) | (rw [decide_eq_true Hp.out];simp;omega) | (rw [decide_eq_false Hp.out];simp;omega)),rfl⟩
theorem Nx (k t r z:Int) (A:Option Addr) (n c:Nat) (p:List Rn) (w:World) (hr:RR w w.heap.size A p) (hn:p.length=n) (ax:∀ x∈p,Gl x):
 Calls Tryz.prog 126 #[Gq k t r A n c z] w fun e w'=>e= .returned (.bool (decide (Dz k t r p z)))/\Below w.heap.size w w':=by
 obtain⟨w1,au,c0,c1,c2,c3,c4,af,ac⟩:=D7 w (.int .u8 k) (.int .u32 t) (.int .u8 r) (.slice A n c) (.int .i64 z) 104;have hM:=Aa (fun W h=>Uy A n c p W h hn ax);by_cases h1:k < 1
 ·have hf:=Aa (show decide (Dz k t r p z)=false from decide_eq_false fun h=>by have:=h.2.2;unfold Cl at this;omega);go_enter Tryz.func126,Tryz.ntmps126;go_wp2_with fail;go_ret;exact⟨Ae hf.out.symm,ac⟩
 by_cases h2:4 < k
 ·have hf:=Aa (show decide (Dz k t r p z)=false from decide_eq_false fun h=>by have:=h.2.2;unfold Cl at this;omega);go_enter Tryz.func126,Tryz.ntmps126;go_wp2_with fail;go_ret;exact⟨Ae hf.out.symm,ac⟩
 by_cases h3:Ep t r
 ·have OA:=Aa (decide_eq_true h3);by_cases h4:E9 p
  ·rw [decide_eq_true h4] at hM;have hF:=Aa (fun W h=>Uw A n c p W h hn h4);have mw:=Aa (show decide (Dz k t r p z)=decide (Cl k t r p z) from decide_eq_decide.2 ⟨fun h=>h.2.2,fun h=>⟨h3,h4,h⟩⟩);obtain⟨lt,ai⟩:∃ x,x=(Bw p).1:=⟨_,rfl⟩;obtain⟨lr,IT⟩:∃ x,x=(Bw p).2:=⟨_,rfl⟩;have mg:Bw p=(lt,lr):=by rw [ai,IT]
   rw [<-ai,<-IT] at hF;have O1:=Aa (fun W=>Qx k t r z A n c W);have hIs:=Aa (fun W=>Aav z W);have BA:(k=1/\((lt == t)=false\/((lt == t)=true/\(lr == r)=false)))\/(k=2/\((lt == t)=false\/((lt == t)=true/\(lr == r)=false)))\/((k=1/\lt=t/\lr=r)\/(k=2/\lt=t/\lr=r))\/((k=3\/k=4)/\t<=lt)\/((k=3\/k=4)/\lt < t):=by
    simp only [beq_iff_eq,beq_eq_false_iff_ne,ne_eq];omega
   clear ai IT h3 h4 h1 h2;rcases BA with⟨rfl,hg⟩ | ⟨rfl,hg⟩ | hg | ⟨hk,hg⟩ | ⟨hk,hg⟩
   ·have hf:=Aa (show decide (Dz 1 t r p z)=false by
     rw [mw.out]
     refine decide_eq_false fun h=>?_
     unfold Cl at h
     rw [mg] at h
     simp only [beq_iff_eq,beq_eq_false_iff_ne,ne_eq] at hg
     simp at h
     omega)
    have ah:decide ((1:Int)=1\/(1:Int)=2)=true:=by decide
    clear mg;rcases hg with g1 | ⟨g1,g2⟩
    all_goals
     go_enter Tryz.func126,Tryz.ntmps126;go_wp2_with fail;refine (Cr _ _ _).mono ?_;rintro e w2 ⟨rfl,ae⟩;rw [OA.out];have al:=Ad ac ae;replace c0:=Ac ae af c0;replace c1:=Ac ae af c1;replace c2:=Ac ae af c2;replace c3:=Ac ae af c3;replace c4:=Ac ae af c4;replace af:=Nat.lt_of_lt_of_le af ae.size;go_wp2_with fail;refine (Ag hM w2 (hr.below' al)).mono ?_;rintro e w3 ⟨rfl,ag⟩;have du:=Ad al ag;replace c0:=Ac ag af c0;replace c1:=Ac ag af c1;replace c2:=Ac ag af c2;replace c3:=Ac ag af c3;replace c4:=Ac ag af c4;replace af:=Nat.lt_of_lt_of_le af ag.size;go_wp2_with fail;refine (Ag hF w3 (hr.below' du)).mono ?_;rintro e w4 ⟨rfl,aw⟩;have cv:=Ad du aw;replace c0:=Ac aw af c0;replace c1:=Ac aw af c1;replace c2:=Ac aw af c2;replace c3:=Ac aw af c3;replace c4:=Ac aw af c4;replace af:=Nat.lt_of_lt_of_le af aw.size;go_wp2_with fail;obtain⟨w5,b9,d0,d1,fi,bq⟩:=Jl w4 (.int .u32 lt) (.int .u8 lr) 46
     try rw [b9]
     clear b9;have jg:=Ad cv bq;replace c0:=Ac bq af c0;replace c1:=Ac bq af c1;replace c2:=Ac bq af c2;replace c3:=Ac bq af c3;replace c4:=Ac bq af c4;replace af:=Nat.lt_of_lt_of_le af bq.size;refine (Ag O1 w5).mono ?_;rintro e w6 ⟨rfl,bf⟩;rw [ah];have nt:=Ad jg bf;replace c0:=Ac bf af c0;replace c1:=Ac bf af c1;replace c2:=Ac bf af c2;replace c3:=Ac bf af c3;replace c4:=Ac bf af c4;replace af:=Nat.lt_of_lt_of_le af bf.size;replace d0:=Ac bf fi d0;replace d1:=Ac bf fi d1;replace fi:=Nat.lt_of_lt_of_le fi bf.size;go_wp2_with fail;go_ret;exact⟨Ae hf.out.symm,nt⟩
   ·have hf:=Aa (show decide (Dz 2 t r p z)=false by
     rw [mw.out]
     refine decide_eq_false fun h=>?_
     unfold Cl at h
     rw [mg] at h
     simp only [beq_iff_eq,beq_eq_false_iff_ne,ne_eq] at hg
     simp at h
     omega)
    have ah:decide ((2:Int)=1\/(2:Int)=2)=true:=by decide
    clear mg;rcases hg with g1 | ⟨g1,g2⟩
    all_goals
     go_enter Tryz.func126,Tryz.ntmps126;go_wp2_with fail;refine (Cr _ _ _).mono ?_;rintro e w2 ⟨rfl,ae⟩;rw [OA.out];have al:=Ad ac ae;replace c0:=Ac ae af c0;replace c1:=Ac ae af c1;replace c2:=Ac ae af c2;replace c3:=Ac ae af c3;replace c4:=Ac ae af c4;replace af:=Nat.lt_of_lt_of_le af ae.size;go_wp2_with fail;refine (Ag hM w2 (hr.below' al)).mono ?_;rintro e w3 ⟨rfl,ag⟩;have du:=Ad al ag;replace c0:=Ac ag af c0;replace c1:=Ac ag af c1;replace c2:=Ac ag af c2;replace c3:=Ac ag af c3;replace c4:=Ac ag af c4;replace af:=Nat.lt_of_lt_of_le af ag.size;go_wp2_with fail;refine (Ag hF w3 (hr.below' du)).mono ?_;rintro e w4 ⟨rfl,aw⟩;have cv:=Ad du aw;replace c0:=Ac aw af c0;replace c1:=Ac aw af c1;replace c2:=Ac aw af c2;replace c3:=Ac aw af c3;replace c4:=Ac aw af c4;replace af:=Nat.lt_of_lt_of_le af aw.size;go_wp2_with fail;obtain⟨w5,b9,d0,d1,fi,bq⟩:=Jl w4 (.int .u32 lt) (.int .u8 lr) 46
     try rw [b9]
     clear b9;have jg:=Ad cv bq;replace c0:=Ac bq af c0;replace c1:=Ac bq af c1;replace c2:=Ac bq af c2;replace c3:=Ac bq af c3;replace c4:=Ac bq af c4;replace af:=Nat.lt_of_lt_of_le af bq.size;refine (Ag O1 w5).mono ?_;rintro e w6 ⟨rfl,bf⟩;rw [ah];have nt:=Ad jg bf;replace c0:=Ac bf af c0;replace c1:=Ac bf af c1;replace c2:=Ac bf af c2;replace c3:=Ac bf af c3;replace c4:=Ac bf af c4;replace af:=Nat.lt_of_lt_of_le af bf.size;replace d0:=Ac bf fi d0;replace d1:=Ac bf fi d1;replace fi:=Nat.lt_of_lt_of_le fi bf.size;go_wp2_with fail;go_ret;exact⟨Ae hf.out.symm,nt⟩
   ·rcases hg with⟨rfl,rfl,rfl⟩ | ⟨rfl,rfl,rfl⟩
    ·have hf:=Aa (show decide (Dz 1 lt lr p z)=decide (J7 z) by
      rw [mw.out]
      refine decide_eq_decide.2 ?_
      unfold Cl
      rw [mg]
      simp)
     have ah:decide ((1:Int)=1\/(1:Int)=2)=true:=by decide
     clear mg;go_enter Tryz.func126,Tryz.ntmps126;go_wp2_with fail;refine (Cr _ _ _).mono ?_;rintro e w2 ⟨rfl,ae⟩;rw [OA.out];have al:=Ad ac ae;replace c0:=Ac ae af c0;replace c1:=Ac ae af c1;replace c2:=Ac ae af c2;replace c3:=Ac ae af c3;replace c4:=Ac ae af c4;replace af:=Nat.lt_of_lt_of_le af ae.size;go_wp2_with fail;refine (Ag hM w2 (hr.below' al)).mono ?_;rintro e w3 ⟨rfl,ag⟩;have du:=Ad al ag;replace c0:=Ac ag af c0;replace c1:=Ac ag af c1;replace c2:=Ac ag af c2;replace c3:=Ac ag af c3;replace c4:=Ac ag af c4;replace af:=Nat.lt_of_lt_of_le af ag.size;go_wp2_with fail;refine (Ag hF w3 (hr.below' du)).mono ?_;rintro e w4 ⟨rfl,aw⟩;have cv:=Ad du aw;replace c0:=Ac aw af c0;replace c1:=Ac aw af c1;replace c2:=Ac aw af c2;replace c3:=Ac aw af c3;replace c4:=Ac aw af c4;replace af:=Nat.lt_of_lt_of_le af aw.size;go_wp2_with fail;obtain⟨w5,b9,d0,d1,fi,bq⟩:=Jl w4 (.int .u32 lt) (.int .u8 lr) 46
     try rw [b9]
     clear b9;have jg:=Ad cv bq;replace c0:=Ac bq af c0;replace c1:=Ac bq af c1;replace c2:=Ac bq af c2;replace c3:=Ac bq af c3;replace c4:=Ac bq af c4;replace af:=Nat.lt_of_lt_of_le af bq.size;refine (Ag O1 w5).mono ?_;rintro e w6 ⟨rfl,bf⟩;rw [ah];have nt:=Ad jg bf;replace c0:=Ac bf af c0;replace c1:=Ac bf af c1;replace c2:=Ac bf af c2;replace c3:=Ac bf af c3;replace c4:=Ac bf af c4;replace af:=Nat.lt_of_lt_of_le af bf.size;replace d0:=Ac bf fi d0;replace d1:=Ac bf fi d1;replace fi:=Nat.lt_of_lt_of_le fi bf.size;go_wp2_with fail;refine (Ag O1 w6).mono ?_;rintro e w7 ⟨rfl,bu⟩;rw [ah];have DY:=Ad nt bu;replace c0:=Ac bu af c0;replace c1:=Ac bu af c1;replace c2:=Ac bu af c2;replace c3:=Ac bu af c3;replace c4:=Ac bu af c4;replace af:=Nat.lt_of_lt_of_le af bu.size;replace d0:=Ac bu fi d0;replace d1:=Ac bu fi d1;replace fi:=Nat.lt_of_lt_of_le fi bu.size;go_wp2_with fail;refine (Ag hIs _).mono ?_;rintro e w8 ⟨rfl,rfl⟩;go_wp2_with fail;go_ret;exact⟨Ae hf.out.symm,DY⟩
    ·have hf:=Aa (show decide (Dz 2 lt lr p z)=decide (z=0) by
      rw [mw.out]
      refine decide_eq_decide.2 ?_
      unfold Cl
      rw [mg]
      simp)
     have ah:decide ((2:Int)=1\/(2:Int)=2)=true:=by decide
     clear mg;go_enter Tryz.func126,Tryz.ntmps126;go_wp2_with fail;refine (Cr _ _ _).mono ?_;rintro e w2 ⟨rfl,ae⟩;rw [OA.out];have al:=Ad ac ae;replace c0:=Ac ae af c0;replace c1:=Ac ae af c1;replace c2:=Ac ae af c2;replace c3:=Ac ae af c3;replace c4:=Ac ae af c4;replace af:=Nat.lt_of_lt_of_le af ae.size;go_wp2_with fail;refine (Ag hM w2 (hr.below' al)).mono ?_;rintro e w3 ⟨rfl,ag⟩;have du:=Ad al ag;replace c0:=Ac ag af c0;replace c1:=Ac ag af c1;replace c2:=Ac ag af c2;replace c3:=Ac ag af c3;replace c4:=Ac ag af c4;replace af:=Nat.lt_of_lt_of_le af ag.size;go_wp2_with fail;refine (Ag hF w3 (hr.below' du)).mono ?_;rintro e w4 ⟨rfl,aw⟩;have cv:=Ad du aw;replace c0:=Ac aw af c0;replace c1:=Ac aw af c1;replace c2:=Ac aw af c2;replace c3:=Ac aw af c3;replace c4:=Ac aw af c4;replace af:=Nat.lt_of_lt_of_le af aw.size;go_wp2_with fail;obtain⟨w5,b9,d0,d1,fi,bq⟩:=Jl w4 (.int .u32 lt) (.int .u8 lr) 46
     try rw [b9]
     clear b9;have jg:=Ad cv bq;replace c0:=Ac bq af c0;replace c1:=Ac bq af c1;replace c2:=Ac bq af c2;replace c3:=Ac bq af c3;replace c4:=Ac bq af c4;replace af:=Nat.lt_of_lt_of_le af bq.size;refine (Ag O1 w5).mono ?_;rintro e w6 ⟨rfl,bf⟩;rw [ah];have nt:=Ad jg bf;replace c0:=Ac bf af c0;replace c1:=Ac bf af c1;replace c2:=Ac bf af c2;replace c3:=Ac bf af c3;replace c4:=Ac bf af c4;replace af:=Nat.lt_of_lt_of_le af bf.size;replace d0:=Ac bf fi d0;replace d1:=Ac bf fi d1;replace fi:=Nat.lt_of_lt_of_le fi bf.size;go_wp2_with fail;refine (Ag O1 w6).mono ?_;rintro e w7 ⟨rfl,bu⟩;rw [ah];have DY:=Ad nt bu;replace c0:=Ac bu af c0;replace c1:=Ac bu af c1;replace c2:=Ac bu af c2;replace c3:=Ac bu af c3;replace c4:=Ac bu af c4;replace af:=Nat.lt_of_lt_of_le af bu.size;replace d0:=Ac bu fi d0;replace d1:=Ac bu fi d1;replace fi:=Nat.lt_of_lt_of_le fi bu.size;go_wp2_with fail;go_ret;exact⟨Ae (by first | exact hf.out.symm | (rw [hf.out];first | rfl | simp | (exact (beq_eq_decide ..)))),DY⟩
   ·have hf:=Aa (show decide (Dz k t r p z)=false by
     rw [mw.out]
     refine decide_eq_false fun h=>?_
     unfold Cl at h
     rw [mg] at h
     simp only at h
     omega)
    have ah:decide (k=1\/k=2)=false:=decide_eq_false (by omega);clear mg;rcases hk with rfl | rfl
    all_goals
     go_enter Tryz.func126,Tryz.ntmps126;go_wp2_with fail;refine (Cr _ _ _).mono ?_;rintro e w2 ⟨rfl,ae⟩;rw [OA.out];have al:=Ad ac ae;replace c0:=Ac ae af c0;replace c1:=Ac ae af c1;replace c2:=Ac ae af c2;replace c3:=Ac ae af c3;replace c4:=Ac ae af c4;replace af:=Nat.lt_of_lt_of_le af ae.size;go_wp2_with fail;refine (Ag hM w2 (hr.below' al)).mono ?_;rintro e w3 ⟨rfl,ag⟩;have du:=Ad al ag;replace c0:=Ac ag af c0;replace c1:=Ac ag af c1;replace c2:=Ac ag af c2;replace c3:=Ac ag af c3;replace c4:=Ac ag af c4;replace af:=Nat.lt_of_lt_of_le af ag.size;go_wp2_with fail;refine (Ag hF w3 (hr.below' du)).mono ?_;rintro e w4 ⟨rfl,aw⟩;have cv:=Ad du aw;replace c0:=Ac aw af c0;replace c1:=Ac aw af c1;replace c2:=Ac aw af c2;replace c3:=Ac aw af c3;replace c4:=Ac aw af c4;replace af:=Nat.lt_of_lt_of_le af aw.size;go_wp2_with fail;obtain⟨w5,b9,d0,d1,fi,bq⟩:=Jl w4 (.int .u32 lt) (.int .u8 lr) 46
     try rw [b9]
     clear b9;have jg:=Ad cv bq;replace c0:=Ac bq af c0;replace c1:=Ac bq af c1;replace c2:=Ac bq af c2;replace c3:=Ac bq af c3;replace c4:=Ac bq af c4;replace af:=Nat.lt_of_lt_of_le af bq.size;refine (Ag O1 w5).mono ?_;rintro e w6 ⟨rfl,bf⟩;rw [ah];have nt:=Ad jg bf;replace c0:=Ac bf af c0;replace c1:=Ac bf af c1;replace c2:=Ac bf af c2;replace c3:=Ac bf af c3;replace c4:=Ac bf af c4;replace af:=Nat.lt_of_lt_of_le af bf.size;replace d0:=Ac bf fi d0;replace d1:=Ac bf fi d1;replace fi:=Nat.lt_of_lt_of_le fi bf.size;go_wp2_with fail;refine (Ag O1 w6).mono ?_;rintro e w7 ⟨rfl,bu⟩;rw [ah];have DY:=Ad nt bu;replace c0:=Ac bu af c0;replace c1:=Ac bu af c1;replace c2:=Ac bu af c2;replace c3:=Ac bu af c3;replace c4:=Ac bu af c4;replace af:=Nat.lt_of_lt_of_le af bu.size;replace d0:=Ac bu fi d0;replace d1:=Ac bu fi d1;replace fi:=Nat.lt_of_lt_of_le fi bu.size;go_wp2_with fail;go_ret;exact⟨Ae hf.out.symm,DY⟩
   ·have hf:=Aa (show decide (Dz k t r p z)=decide (z=0) by
     rw [mw.out]
     refine decide_eq_decide.2 ?_
     unfold Cl
     rw [mg]
     simp only
     omega)
    have ah:decide (k=1\/k=2)=false:=decide_eq_false (by omega);clear mg;rcases hk with rfl | rfl
    all_goals
     go_enter Tryz.func126,Tryz.ntmps126;go_wp2_with fail;refine (Cr _ _ _).mono ?_;rintro e w2 ⟨rfl,ae⟩;rw [OA.out];have al:=Ad ac ae;replace c0:=Ac ae af c0;replace c1:=Ac ae af c1;replace c2:=Ac ae af c2;replace c3:=Ac ae af c3;replace c4:=Ac ae af c4;replace af:=Nat.lt_of_lt_of_le af ae.size;go_wp2_with fail;refine (Ag hM w2 (hr.below' al)).mono ?_;rintro e w3 ⟨rfl,ag⟩;have du:=Ad al ag;replace c0:=Ac ag af c0;replace c1:=Ac ag af c1;replace c2:=Ac ag af c2;replace c3:=Ac ag af c3;replace c4:=Ac ag af c4;replace af:=Nat.lt_of_lt_of_le af ag.size;go_wp2_with fail;refine (Ag hF w3 (hr.below' du)).mono ?_;rintro e w4 ⟨rfl,aw⟩;have cv:=Ad du aw;replace c0:=Ac aw af c0;replace c1:=Ac aw af c1;replace c2:=Ac aw af c2;replace c3:=Ac aw af c3;replace c4:=Ac aw af c4;replace af:=Nat.lt_of_lt_of_le af aw.size;go_wp2_with fail;obtain⟨w5,b9,d0,d1,fi,bq⟩:=Jl w4 (.int .u32 lt) (.int .u8 lr) 46
     try rw [b9]
     clear b9;have jg:=Ad cv bq;replace c0:=Ac bq af c0;replace c1:=Ac bq af c1;replace c2:=Ac bq af c2;replace c3:=Ac bq af c3;replace c4:=Ac bq af c4;replace af:=Nat.lt_of_lt_of_le af bq.size;refine (Ag O1 w5).mono ?_;rintro e w6 ⟨rfl,bf⟩;rw [ah];have nt:=Ad jg bf;replace c0:=Ac bf af c0;replace c1:=Ac bf af c1;replace c2:=Ac bf af c2;replace c3:=Ac bf af c3;replace c4:=Ac bf af c4;replace af:=Nat.lt_of_lt_of_le af bf.size;replace d0:=Ac bf fi d0;replace d1:=Ac bf fi d1;replace fi:=Nat.lt_of_lt_of_le fi bf.size;go_wp2_with fail;refine (Ag O1 w6).mono ?_;rintro e w7 ⟨rfl,bu⟩;rw [ah];have DY:=Ad nt bu;replace c0:=Ac bu af c0;replace c1:=Ac bu af c1;replace c2:=Ac bu af c2;replace c3:=Ac bu af c3;replace c4:=Ac bu af c4;replace af:=Nat.lt_of_lt_of_le af bu.size;replace d0:=Ac bu fi d0;replace d1:=Ac bu fi d1;replace fi:=Nat.lt_of_lt_of_le fi bu.size;go_wp2_with fail;go_ret;exact⟨Ae (by first | exact hf.out.symm | (rw [hf.out];first | rfl | simp | (exact (beq_eq_decide ..)))),DY⟩
  ·rw [decide_eq_false h4] at hM;have hf:=Aa (show decide (Dz k t r p z)=false from decide_eq_false fun h=>h4 h.2.1);clear h3 h4;go_enter Tryz.func126,Tryz.ntmps126;go_wp2_with fail;refine (Cr _ _ _).mono ?_;rintro e w2 ⟨rfl,ae⟩;rw [OA.out];have al:=Ad ac ae;replace c0:=Ac ae af c0;replace c1:=Ac ae af c1;replace c2:=Ac ae af c2;replace c3:=Ac ae af c3;replace c4:=Ac ae af c4;replace af:=Nat.lt_of_lt_of_le af ae.size;go_wp2_with fail;refine (Ag hM w2 (hr.below' al)).mono ?_;rintro e w3 ⟨rfl,ag⟩;go_wp2_with fail;go_ret;exact⟨Ae hf.out.symm,Ad al ag⟩
 ·have OA:=Aa (decide_eq_false h3);have hf:=Aa (show decide (Dz k t r p z)=false from decide_eq_false fun h=>h3 h.1);clear h3;go_enter Tryz.func126,Tryz.ntmps126;go_wp2_with fail;refine (Cr _ _ _).mono ?_;rintro e w2 ⟨rfl,ae⟩;rw [OA.out];have al:=Ad ac ae;replace c0:=Ac ae af c0;replace c1:=Ac ae af c1;replace c2:=Ac ae af c2;replace c3:=Ac ae af c3;replace c4:=Ac ae af c4;replace af:=Nat.lt_of_lt_of_le af ae.size;go_wp2_with fail;go_ret;exact⟨Ae hf.out.symm,al⟩
theorem Co (z:Int) (w:World) (h0:0<=z) (h:z<=1099511627776):
 Calls Tryz.prog 132 #[.int .i64 z] w fun e w'=>∃ A c,e= .returned (.slice A (nb z.toNat).length c)/\w'.ownsRow w.heap.size 5 1 (.slice A (nb z.toNat).length c) (nb z.toNat).length (Cw (nb z.toNat))/\Below w.heap.size w w':=by
 obtain⟨n,rfl⟩:=Int.eq_ofNat_of_zero_le h0;refine (Ny n w (by omega)).mono ?_;rintro e w' ⟨v,rfl,ah,hb⟩;obtain⟨A,c,rfl,-,-,-⟩:=Ao ah;exact⟨A,c,by rfl,ah,hb⟩
theorem Ud (t r m:Int) (w:World) (h1:0<=t) (h2:t<=1073741824) (h3:1<=m) (h4:m<=4096):
 Calls Tryz.prog 166 #[.agg #[.int .u32 t,.int .u8 r,.int .i64 m]] w fun e w'=>e= .returned (.int .i64 (t+m - 1))/\Below w.heap.size w w':=by
 go_enter Tryz.func166,Tryz.ntmps166;go_wp2_with fail;go_ret;exact⟨rfl,Bf _ _⟩
theorem My (k t r z:Int) (A:Option Addr) (n c:Nat) (p:List Rn) (w:World) (hr:RR w w.heap.size A p) (hn:p.length=n) (ax:∀ x∈p,Gl x) (hm:Dz k t r p z) (hi:X5 (t,r)):
 Calls Tryz.prog 134 #[Gq k t r A n c z] w fun e w'=>∃ v,e= .returned v/\w'.ownsRow w.heap.size 5 1 v (Je k t r p z).length (Cw (Je k t r p z))/\Below w.heap.size w w':=by
 obtain⟨i0,cr,cb,cu,cq⟩:=info_parts Dq;obtain⟨w1,au,F1,af,ac⟩:=Cv w (.int .u8 k) (.int .u32 t) (.int .u8 r) (.slice A n c) (.int .i64 z);obtain⟨a0,a1,a2,a3,a4⟩:=F1.cells;have Hm:=Aa hm;have Ok:=Aa ax;have hn64:n<=64:=by have:=hm.2.1.2.1;omega
 have Hn:=Aa hn;have th:1<=k/\k<=4:=by
  have:=hm.2.2;unfold Cl at this;omega
 have Hi:=Aa hi;have ls:=Aa (fun j=>Sg (k:=k) (by omega) hm.2.1 ax j);have MH:=Aa (Kg hm.2.1 ax);have az:=Aa F1;have hconv:IntKind.i64.wrap k=k:=IntWalk.i64_in _ (by omega);have QR:=Aa (fun (z:Int) (h:0<=z/\z<=1099511627776)=>Gw (n:=z.toNat) (by omega));clear hm ax hn hi F1;go_enter Tryz.func134,Tryz.ntmps134;go_wp2_with fail;refine (Co k w1 (by omega) (by omega)).mono ?_;rintro e w2 ⟨A2,c2,rfl,cm,ae⟩;have al:=Ad ac ae;have db:=Aa (az.out.below ae);have MS:w2.ownsRow w.heap.size 5 1 (.slice A2 (nb k.toNat).length c2) (Ap [k]).length (Cw (Ap [k])):=by
  have e:Ap [k]=nb k.toNat:=by simp [Ap]
  rw [e];exact I4 cm ac.size
 clear a0 a1 a2 a3 a4 cm;obtain⟨a0,a1,a2,a3,a4⟩:=db.out.cells;go_wp2_with fail;refine (Co (n:Int) w2 (by omega) (by omega)).mono ?_;rintro e w3 ⟨A3,c3,rfl,dm,ag⟩;have du:=Ad al ag;have bz:=Aa (db.out.below ag);have MR:=Ai MS ag (Nat.le_refl _);have AV:(Ap [k]).length+(nb (n:Int).toNat).length<=1073741824:=by
  have h1:=QR.out k (by omega);have h2:=QR.out n (by omega);have e:Ap [k]=nb k.toNat:=by simp [Ap]
  rw [e];omega
 clear a0 a1 a2 a3 a4 MS;go_wp2_with (at_builtin;refine Ar _ rfl (.tmp 11) (.tmp 15) 23 rfl w.heap.size 5 i0 (.int .u8 0) 1 1 Tryz.underlying23 cr cb cu cq rfl (by decide) _ _ _ rfl MR w3.heap.size A3 _ c3 (Cw (nb (n:Int).toNat)) rfl (RD.of_own dm) (Ce _) AV (by decide) du.size ?_;intro v4 w4 gu aw VV;obtain⟨a0,a1,a2,a3,a4⟩:=(bz.out.kept VV).cells);have cv:=du.trans aw;have ca:=Aa (bz.out.kept VV);have MQ:w4.ownsRow w.heap.size 5 1 v4 (Ap [k,(n:Int)]).length (Cw (Ap [k,(n:Int)])):=by
  have e:Ap [k,(n:Int)]=Ap [k]++nb (n:Int).toNat:=by simp [Ap]
  rw [e,Bg,List.length_append];exact gu
 clear gu MR dm VV a0 a1 a2 a3 a4
 go_loopw [3,4,5] (fun u v i wr=>∃ j:Nat,j<=n/\i= .int .i64 (j:Int)/\v= .int .i64 (B4 0 (p.take j))/\wr.ownsRow w.heap.size 5 1 u (Ap ([k,(n:Int)]++As 0 (p.take j))).length (Cw (Ap ([k,(n:Int)]++As 0 (p.take j))))/\Hid (FB wr w.heap.size (.int .u8 k) (.int .u32 t) (.int .u8 r) (.slice A n c) (.int .i64 z))/\Below w.heap.size w wr) (fun _ _ i _=>n - (intOf i).toNat)
 case atStart=>exact⟨0,by omega,rfl,rfl,by simpa [As] using MQ,ca,cv⟩
 case round=>
  obtain⟨j,hj,rfl,rfl,ah,hF,hb⟩:=hrel;clear ca bz db MQ cv aw du ag al ae;obtain⟨a0,a1,a2,a3,a4⟩:=hF.out.cells;by_cases ai:j < n
  ·have rv:j < p.length:=by have:=Hn.out;omega
   obtain⟨bA,oA,rfl,hB,hC⟩:=RR.cell (RD.below hr hb) (by omega);obtain⟨d0,d1,d2⟩:=hC j rv;obtain⟨t1,GY⟩:∃ x,p[j].1=x:=⟨_,rfl⟩;obtain⟨r1,rh⟩:∃ x,p[j].2.1=x:=⟨_,rfl⟩;obtain⟨m1,EK⟩:∃ x,p[j].2.2=x:=⟨_,rfl⟩;obtain⟨g1,g2,g3⟩:=Nj p 0 j MH.out rv;replace g2:=g2 (Int.le_refl _);replace g3:=g3 (by decide);obtain⟨e1,e2,e3,e4,e5,e6⟩:=Eh Hm.out.2.1.2.2.1 p[j] (List.getElem_mem rv);have JP:=Ok.out p[j] (List.getElem_mem rv);unfold Gl at JP;have hnx:As 0 (p.take (j+1))=As 0 (p.take j)++ [t1 - B4 0 (p.take j),r1,m1]:=by rw [List.take_succ_eq_append_getElem rv,Mw,GY,rh,EK]
   have EG:B4 0 (p.take (j+1))=t1+m1 - 1:=by rw [List.take_succ_eq_append_getElem rv,Nc,GY,EK]
   have qw:=Aa (And.intro hnx EG);rw [GY] at d0 g1 e1 e2 e6 JP;rw [rh] at d1 e3 JP;rw [EK] at d2 e4 e5 e6 JP;have HP:=ls.out j;rw [Hn.out] at HP;obtain⟨ws,vb⟩:∃ x,B4 0 (p.take j)=x:=⟨_,rfl⟩;rw [vb] at g1 g2 g3 qw |-;obtain⟨q1,q2,q3,q4,q5,q6⟩:=JP;have z0:(j:Int) < n:=by omega
   have xi:IntKind.i64.wrap t1=t1:=IntWalk.i64_in _ (by omega);have ku:IntKind.i64.wrap r1=r1:=IntWalk.i64_in _ (by omega);have BQ:IntKind.i64.wrap (t1 - ws)=t1 - ws:=IntWalk.i64_in _ (by omega);obtain⟨wx,AB,FX,EI,el⟩:=Fh wr (.int .u32 t1) (.int .u8 r1) (.int .i64 m1);obtain⟨x0,x1,x2⟩:=FX.cells;have CO:=Ad hb el;have eh:=Ai ah el (Nat.le_refl _);have IG:=Aa FX;have HFO:=Aa (hF.out.below el);obtain⟨pre,nq⟩:∃ l,Ap ([k,(n:Int)]++As 0 (p.take j))=l:=⟨_,rfl⟩;have LM:=Aa nq;rw [nq] at eh HP;have qt:=Aa HP;have s1:=QR.out (t1 - ws) (by omega);have s2:=QR.out r1 (by omega);have s3:=QR.out m1 (by omega);have HS:=Aa (And.intro s1 (And.intro s2 s3));obtain⟨gx,an⟩:∃ g,g=wr.heap.size:=⟨_,rfl⟩;clear GY rh EK hnx EG vb HP FX hC nq ah s1 s2 s3;go_wp2_with fail;rw [<-an] at IG x0 x1 x2 |-;clear AB an;have OV:=CO;have HFXx:=IG;have HFOx:=HFO;have XK:=eh;clear CO IG HFO eh;refine (Co (t1 - ws) wx (by omega) (by omega)).mono ?_;rintro e w5 ⟨A5,c5,rfl,ey,bq⟩;have ry:=Ad OV bq;have XD:=Aa (HFXx.out.below bq);have HFO5:=Aa (HFOx.out.below bq);have nx:=Ai XK bq (Nat.le_refl _);have fi:(pre).length+(nb ((t1 - ws)).toNat).length<=1073741824:=by
    have h1:=qt.out;have h2:=HS.out
    try simp only [List.length_append]
    omega
   clear x0 x1 x2;go_wp2_with (at_builtin;refine Ar _ rfl (.tmp 29) (.tmp 35) 23 rfl w.heap.size 5 i0 (.int .u8 0) 1 1 Tryz.underlying23 cr cb cu cq rfl (by decide) _ _ _ rfl nx w5.heap.size A5 _ c5 (Cw (nb ((t1 - ws)).toNat)) rfl (RD.of_own ey) (Ce _) fi (by decide) ry.size ?_;intro v6 w6 ny bf j8;obtain⟨x0,x1,x2⟩:=(XD.out.kept j8).cells);have DU:=ry.trans bf;have HFX6:=Aa (XD.out.kept j8);have HFO6:=Aa (HFO5.out.kept j8);rw [<-Bg,<-List.length_append] at ny;clear nx ey j8 XD HFO5;refine (Co r1 w6 (by omega) (by omega)).mono ?_;rintro e w7 ⟨A7,c7,rfl,BD,bu⟩;have LB:=Ad DU bu;have XC:=Aa (HFX6.out.below bu);have HFO7:=Aa (HFO6.out.below bu);have vl:=Ai ny bu (Nat.le_refl _);have IM:(pre++nb (t1 - ws).toNat).length+(nb (r1).toNat).length<=1073741824:=by
    have h1:=qt.out;have h2:=HS.out
    try simp only [List.length_append]
    omega
   clear x0 x1 x2;go_wp2_with (at_builtin;refine Ar _ rfl (.tmp 37) (.tmp 41) 23 rfl w.heap.size 5 i0 (.int .u8 0) 1 1 Tryz.underlying23 cr cb cu cq rfl (by decide) _ _ _ rfl vl w7.heap.size A7 _ c7 (Cw (nb (r1).toNat)) rfl (RD.of_own BD) (Ce _) IM (by decide) LB.size ?_;intro v8 w8 vm dj oo;obtain⟨x0,x1,x2⟩:=(XC.out.kept oo).cells);have WF:=LB.trans dj;have HFX8:=Aa (XC.out.kept oo);have HFO8:=Aa (HFO7.out.kept oo);rw [<-Bg,<-List.length_append] at vm;clear vl BD oo XC HFO7;refine (Co m1 w8 (by omega) (by omega)).mono ?_;rintro e w9 ⟨A9,c9,rfl,ev,ez⟩;have hbw9:=Ad WF ez;have XA:=Aa (HFX8.out.below ez);have HFO9:=Aa (HFO8.out.below ez);have MO:=Ai vm ez (Nat.le_refl _);have GZ:(pre++nb (t1 - ws).toNat++nb r1.toNat).length+(nb (m1).toNat).length<=1073741824:=by
    have h1:=qt.out;have h2:=HS.out
    try simp only [List.length_append]
    omega
   clear x0 x1 x2;go_wp2_with (at_builtin;refine Ar _ rfl (.tmp 43) (.tmp 46) 23 rfl w.heap.size 5 i0 (.int .u8 0) 1 1 Tryz.underlying23 cr cb cu cq rfl (by decide) _ _ _ rfl MO w9.heap.size A9 _ c9 (Cw (nb (m1).toNat)) rfl (RD.of_own ev) (Ce _) GZ (by decide) hbw9.size ?_;intro v10 lk yy fx OT;obtain⟨x0,x1,x2⟩:=(XA.out.kept OT).cells);have hbw10:=hbw9.trans fx;have HFX10:=Aa (XA.out.kept OT);have HFO10:=Aa (HFO9.out.kept OT);rw [<-Bg,<-List.length_append] at yy;clear MO ev OT XA HFO9;refine (Ud t1 r1 m1 lk (by omega) (by omega) (by omega) (by omega)).mono ?_;rintro e ra ⟨rfl,pq⟩;have hbw11:=Ad hbw10 pq;have hF11:=Aa (HFO10.out.below pq);have XJ:=Ai yy pq (Nat.le_refl _);clear x0 x1 x2 yy;go_wp2_with fail;go_roundw
   case rel=>
    refine⟨j+1,by omega,by go_num,by rw [qw.out.2],?_,hF11,hbw11⟩;rw [qw.out.1,<-List.append_assoc,Au,LM.out];have e:Ap [t1 - ws,r1,m1]=nb (t1 - ws).toNat++(nb r1.toNat++nb m1.toNat):=by simp [Ap]
    rw [e,<-List.append_assoc,<-List.append_assoc];exact XJ
   case measure=>simp [intOf];omega
  ·have hz:¬ (j:Int) < n:=by omega
   have CJ:j=n:=by omega
   have TS:p.take j=p:=List.take_of_length_le (by have:=Hn.out;omega)
   have qt:=Aa (show (Ap ([k,(n:Int)]++As 0 p)).length<=6 * 194 by
    have:=ls.out j
    rwa [TS,Hn.out] at this)
   rw [TS] at ah |-;subst CJ;have FR:=Ja Hm.out.2.1 0;have pm:=Ev Hm.out.2.1;have e8:Je k t r p z=Ap ([k,(j:Int)]++(As 0 p++Bb k t r (B4 0 p) z)):=by
    unfold Je Ji;rw [Hn.out];rfl
   have VM:0<=B4 0 p:=by omega
   have EJ:=Hm.out.2.2;have TY:=Hi.out;obtain⟨mi1,mi2,mi3⟩:=Hm.out.1;unfold X5 at TY;simp only at TY;obtain⟨ws,vb⟩:∃ x,B4 0 p=x:=⟨_,rfl⟩;rw [vb] at FR VM e8 |-;obtain⟨pre,nq⟩:∃ l,Ap ([k,(j:Int)]++As 0 p)=l:=⟨_,rfl⟩;have LM:=Aa nq;rw [nq] at ah qt;clear vb TS ai nq;have hO:=Aa (fun W=>Qx k t r z A j c W);go_wp2_with fail;refine (Ag hO wr).mono ?_;rintro e wq ⟨rfl,wg⟩;have WE:=Ad hb wg;have HFq:=Aa (hF.out.below wg);have ED:=Ai ah wg (Nat.le_refl _);clear a0 a1 a2 a3 a4 ah;obtain⟨a0,a1,a2,a3,a4⟩:=HFq.out.cells;have hkk:k=1\/k=2\/(k=3\/k=4):=by omega
   rcases hkk with rfl | rfl | hkk
   ·have IJ:0<=z/\z<=1114111:=by
     rcases EJ with⟨-,-,h⟩ | ⟨h,-⟩ | ⟨h,-⟩
     ·exact⟨h.1,h.2.1⟩
     ·omega
     ·omega
    have BS:=Aa (show Je 1 t r p z=pre++nb z.toNat by rw [e8,<-List.append_assoc,Au,LM.out];simp [Bb,Ap]);have HS:=Aa (QR.out z (by omega));have hdt:decide ((1:Int)=1\/(1:Int)=2)=true:=by decide
    clear e8 FR pm EJ;rw [hdt];go_wp2_with fail;refine (Co z wq (by omega) (by omega)).mono ?_;rintro e w5 ⟨A5,c5,rfl,ey,bq⟩;have ry:=Ad WE bq;have cl:=Aa (HFq.out.below bq);have nx:=Ai ED bq (Nat.le_refl _);have fi:(pre).length+(nb (z).toNat).length<=1073741824:=by
     have h1:=qt.out;have h2:=HS.out
     try simp only [List.length_append]
     omega
    clear a0 a1 a2 a3 a4;go_wp2_with (at_builtin;refine Ar _ rfl (.tmp 55) (.tmp 58) 23 rfl w.heap.size 5 i0 (.int .u8 0) 1 1 Tryz.underlying23 cr cb cu cq rfl (by decide) _ _ _ rfl nx w5.heap.size A5 _ c5 (Cw (nb (z).toNat)) rfl (RD.of_own ey) (Ce _) fi (by decide) ry.size ?_;intro v6 w6 ny bf j8;obtain⟨a0,a1,a2,a3,a4⟩:=(cl.out.kept j8).cells);have DU:=ry.trans bf;have bj:=Aa (cl.out.kept j8);rw [<-Bg,<-List.length_append] at ny;clear nx ey j8 cl;go_ret;exact⟨_,rfl,by rw [BS.out];exact ny,DU⟩
   ·have BS:=Aa (show Je 2 t r p z=pre by rw [e8,<-LM.out];simp [Bb]);have hdt:decide ((2:Int)=1\/(2:Int)=2)=true:=by decide
    clear e8 FR pm EJ;rw [hdt];go_wp2_with fail;go_ret;exact⟨_,rfl,by rw [BS.out];exact ED,WE⟩
   ·have OS:ws < t:=by
     rcases EJ with⟨h,-⟩ | ⟨h,-⟩ | ⟨-,-,h⟩
     ·omega
     ·omega
     ·omega
    have BS:=Aa (show Je k t r p z=pre++nb (t - ws).toNat++nb r.toNat by rw [e8,<-List.append_assoc,Au,LM.out];unfold Bb;rw [if_neg (by omega),if_neg (by omega)];simp [Ap]);have xi:IntKind.i64.wrap t=t:=IntWalk.i64_in _ (by omega);have ku:IntKind.i64.wrap r=r:=IntWalk.i64_in _ (by omega);have BQ:IntKind.i64.wrap (t - ws)=t - ws:=IntWalk.i64_in _ (by omega);obtain⟨i1,i2,i3,i4⟩:=TY;have HS:=Aa (And.intro (QR.out (t - ws) (by omega)) (QR.out r (by omega)));have hdt:decide (k=1\/k=2)=false:=decide_eq_false (by omega);clear e8 FR pm EJ;rw [hdt];go_wp2_with fail;refine (Co (t - ws) wq (by omega) (by omega)).mono ?_;rintro e w5 ⟨A5,c5,rfl,ey,bq⟩;have ry:=Ad WE bq;have cl:=Aa (HFq.out.below bq);have nx:=Ai ED bq (Nat.le_refl _);have fi:(pre).length+(nb ((t - ws)).toNat).length<=1073741824:=by
     have h1:=qt.out;have h2:=HS.out
     try simp only [List.length_append]
     omega
    clear a0 a1 a2 a3 a4;go_wp2_with (at_builtin;refine Ar _ rfl (.tmp 61) (.tmp 68) 23 rfl w.heap.size 5 i0 (.int .u8 0) 1 1 Tryz.underlying23 cr cb cu cq rfl (by decide) _ _ _ rfl nx w5.heap.size A5 _ c5 (Cw (nb ((t - ws)).toNat)) rfl (RD.of_own ey) (Ce _) fi (by decide) ry.size ?_;intro v6 w6 ny bf j8;obtain⟨a0,a1,a2,a3,a4⟩:=(cl.out.kept j8).cells);have DU:=ry.trans bf;have bj:=Aa (cl.out.kept j8);rw [<-Bg,<-List.length_append] at ny;clear nx ey j8 cl;refine (Co r w6 (by omega) (by omega)).mono ?_;rintro e w7 ⟨A7,c7,rfl,BD,bu⟩;have LB:=Ad DU bu;have dg:=Aa (bj.out.below bu);have vl:=Ai ny bu (Nat.le_refl _);have IM:(pre++nb (t - ws).toNat).length+(nb (r).toNat).length<=1073741824:=by
     have h1:=qt.out;have h2:=HS.out
     try simp only [List.length_append]
     omega
    clear a0 a1 a2 a3 a4;go_wp2_with (at_builtin;refine Ar _ rfl (.tmp 70) (.tmp 75) 23 rfl w.heap.size 5 i0 (.int .u8 0) 1 1 Tryz.underlying23 cr cb cu cq rfl (by decide) _ _ _ rfl vl w7.heap.size A7 _ c7 (Cw (nb (r).toNat)) rfl (RD.of_own BD) (Ce _) IM (by decide) LB.size ?_;intro v8 w8 vm dj oo;obtain⟨a0,a1,a2,a3,a4⟩:=(dg.out.kept oo).cells);have WF:=LB.trans dj;have dp:=Aa (dg.out.kept oo);rw [<-Bg,<-List.length_append] at vm;clear vl BD oo dg;go_ret;exact⟨_,rfl,by rw [BS.out];exact vm,WF⟩
end Go.Proofs.YtmkpfdcnikgokaaGreat
