/-
  Texts of this claim, put together: CodeNumbers, CodeFits. What each theorem asks stands in its statement.
-/
import Derived.IntWalk
import Derived.Test.YtmkpfdcnikgokaaGreatMd4
import Derived.Test.YtmkpfdcnikgokaaGreatMd36
set_option linter.unusedVariables false
set_option linter.unusedSimpArgs false
set_option maxRecDepth 100000
set_option maxHeartbeats 25600000
namespace Go.Proofs.YtmkpfdcnikgokaaGreat
open Go.RowKit
theorem Ac2:(Tryz.prog.info? 3).map (fun i=>(i.zero,i.size,i.bytes))=some (some (.int .i64 0),1,8):=by kernel_rfl
theorem Abm (L:List Int):∀ u∈Jg L,u.oneCell'=true:=by
 intro u hu;simp only [Jg,List.mem_map] at hu;obtain⟨z,-,rfl⟩:=hu;rfl
theorem U2 (L M:List Int):Jg (L++M)=Jg L++Jg M:=by simp [Jg]
theorem Ac3 (w:World) (v:Int):RD (w.alloc (.cells #[.int .i64 v] 3)) (w.alloc (.cells #[.int .i64 v] 3)).heap.size 1 (some ⟨w.heap.size,0,none⟩) 1 (Jg [v]):=by
 refine⟨rfl,fun _=>⟨_,_,rfl,by rw [World.size_alloc];omega,fun j u hu=>?_⟩⟩;rw [Nat.zero_add,World.cell?_alloc_new,<-Array.getElem?_toList];exact hu
theorem Jp (A:Option Addr) (n c:Nat) (l:List UInt8) (w:World) (hr:RB w w.heap.size A l) (hn:l.length=n) (hl:n < 1073741824):
 Calls Tryz.prog 103 #[.slice A n c] w fun e w'=>e= .returned (Fp (Ew l))/\w=w':=by
 subst hn;exact Jq A c l w hr hl
theorem RB.rest {w:World} {B:Nat} {A:Option Addr} {b:List UInt8} {n c a:Nat} (h:RB w B A b) (hn:b.length=n) (ha:a<=n) (hc:n<=c) (px:¬ c=a):RB w B (Option.map (fun x=>x.add a) A) (b.drop a):=by
 subst hn;have:=RD.cut h ha hc;rw [if_neg px,Nat.mul_one,Tq] at this;unfold RB;rw [List.length_drop];exact this
def Fo (b:List UInt8) (m:Nat):List Int×Nat×Bool:=match Ll b m 0 with | some (L,a)=>(L,a,true) | none=>([],0,false)
theorem U1 (A:Option Addr) (n c:Nat) (b:List UInt8) (M:Nat) (w:World) (hr:RB w w.heap.size A b) (hn:b.length=n) (hl:n < 1073741824) (hc:n<=c) (hM:M<=300):
 Calls Tryz.prog 189 #[.slice A n c,.int .i64 (M:Int),.int .i64 1073741824] w fun e w'=>∃ A' c',e= .returned (.tuple #[.slice A' (Fo b M).1.length c',.int .i64 ((Fo b M).2.1:Int),.bool (Fo b M).2.2])/\w'.ownsRow w.heap.size 3 1 (.slice A' (Fo b M).1.length c') (Fo b M).1.length (Jg (Fo b M).1)/\Below w.heap.size w w':=by
 obtain⟨i0,cr,cb,cu,cq⟩:=info_parts Ac2;have HR:=Aa hr;have Hn:=Aa hn;have hM9:(M:Int)<=300:=by omega
 clear hr hn;go_enter Tryz.func189,Tryz.ntmps189;go_wp2_with fail
 go_loopw [9,10,11] (fun u v i wr=>∃ (j a:Nat) (L:List Int),j<=M/\i= .int .i64 (j:Int)/\v= .int .i64 (a:Int)/\a<=n/\L.length=j/\wr.ownsRow w.heap.size 3 1 u L.length (Jg L)/\Hid (Ll b M 0=(Ll b (M - j) a).map fun q=>(L++q.1,q.2))/\Below w.heap.size w wr) (fun _ _ i _=>M - (intOf i).toNat)
 case atStart=>exact⟨0,0, [],by omega,rfl,rfl,by omega,rfl,World.ownsRow_nil _ _ _ _,Aa (by cases Ll b M 0 <;> simp),Below.refl _ _⟩
 case round=>
  obtain⟨j,a,L,hj,rfl,rfl,ha,hLj,ah,hG,hb⟩:=hrel;by_cases ai:j < M
  ·have z0:(j:Int) < M:=by omega
   have z1:(0:Int)<=a:=by omega
   have z2:(a:Int)<=n:=by omega
   have z3:(n:Int)<=c:=by omega
   have z4:(a:Int)<=c:=by omega
   by_cases px:c=a
   ·subst px;have hna:n=c:=by omega
    subst hna
    have kd:=Aa (show Fo b M=([],0,false) by
     have hx:Eb b n 0 1073741824=none:=by
      unfold Eb
      rw [List.drop_eq_nil_of_le (by rw [Hn.out];omega)]
      rfl
     have:=hG.out
     rw [show M - j=(M - (j+1))+1 by omega] at this
     simp only [Ll,hx,Option.bind_none,Option.map_none] at this
     unfold Fo
     rw [this])
    have Gn:=Aa (Jp A 0 0 [] wr RD.nil_ rfl (by decide));have EN:Ew []=none:=rfl;rw [EN] at Gn;unfold Fp at Gn;clear hG EN;go_wp2_with fail;refine Gn.out.mono ?_;rintro e w2 ⟨rfl,rfl⟩;go_wp2_with fail;refine bodyPost_ret (v:= .tuple #[.slice none 0 0,.int .i64 0,.bool false]) (by simp [results,Tryz.results189,go_sem]) rfl ?_;exact⟨none,0,by rw [kd.out];rfl,by rw [kd.out];exact World.ownsRow_nil _ _ _ _,hb⟩
   have EG:=hb.size;have NZ:M - j=(M - (j+1))+1:=by omega
   rw [NZ] at hG;have XW:RB wr wr.heap.size A b:=(RD.below HR.out hb).more EG
   cases hg:Ew (b.drop a) with
   | none=>
     have kd:=Aa (show Fo b M=([],0,false) by
      have hx:Eb b a 0 1073741824=none:=by unfold Eb;rw [hg]
      have:=hG.out
      simp only [Ll,hx,Option.bind_none,Option.map_none] at this
      unfold Fo
      rw [this])
     have Gn:=Aa (Jp (Option.map (fun x=>x.add a) A) (n - a) (c - a) (b.drop a) wr (RB.rest XW Hn.out ha hc px) (by rw [List.length_drop,Hn.out]) (by omega));rw [hg] at Gn;clear hG hg XW;go_wp2_with fail;refine Gn.out.mono ?_;rintro e w2 ⟨rfl,rfl⟩;unfold Fp;go_wp2_with fail;refine bodyPost_ret (v:= .tuple #[.slice none 0 0,.int .i64 0,.bool false]) (by simp [results,Tryz.results189,go_sem]) rfl ?_;exact⟨none,0,by rw [kd.out];rfl,by rw [kd.out];exact World.ownsRow_nil _ _ _ _,hb⟩
   | some q=>
     obtain⟨v,s⟩:=q;obtain⟨v1,v2,v3,v4⟩:=D6 hg;rw [List.length_drop,Hn.out] at v2;by_cases jv:(1073741824:Int) < (v:Int)
     ·have kd:=Aa (show Fo b M=([],0,false) by
       have hx:Eb b a 0 1073741824=none:=by unfold Eb;rw [hg];exact if_pos (.inr jv)
       have:=hG.out
       simp only [Ll,hx,Option.bind_none,Option.map_none] at this
       unfold Fo
       rw [this])
      have Gn:=Aa (Jp (Option.map (fun x=>x.add a) A) (n - a) (c - a) (b.drop a) wr (RB.rest XW Hn.out ha hc px) (by rw [List.length_drop,Hn.out]) (by omega));rw [hg] at Gn;clear hG hg XW;go_wp2_with fail;refine Gn.out.mono ?_;rintro e w2 ⟨rfl,rfl⟩;unfold Fp;go_wp2_with fail;refine bodyPost_ret (v:= .tuple #[.slice none 0 0,.int .i64 0,.bool false]) (by simp [results,Tryz.results189,go_sem]) rfl ?_;exact⟨none,0,by rw [kd.out];rfl,by rw [kd.out];exact World.ownsRow_nil _ _ _ _,hb⟩
     ·have HGn:=Aa (show Ll b M 0=(Ll b (M - (j+1)) (a+s)).map fun q=>((L++ [(v:Int)])++q.1,q.2) by
       have hx:Eb b a 0 1073741824=some ((v:Int),a+s):=by unfold Eb;rw [hg];exact if_neg (by omega)
       rw [hG.out]
       simp only [Ll,hx,Option.bind_some,Option.map_map]
       congr 1
       funext q
       simp)
      have zw:IntKind.i64.wrap ((a:Int)+(s:Int))=(a:Int)+(s:Int):=IntWalk.i64_in _ (by omega);have ay:L.length+1<=1073741824:=by omega
      have GN:(j:Int) < 300:=by omega
      have Gn:=Aa (Jp (Option.map (fun x=>x.add a) A) (n - a) (c - a) (b.drop a) wr (RB.rest XW Hn.out ha hc px) (by rw [List.length_drop,Hn.out]) (by omega));rw [hg] at Gn;clear hG hg XW;go_wp2_with fail;refine Gn.out.mono ?_;rintro e w2 ⟨rfl,rfl⟩;unfold Fp;go_wp2_with (at_builtin;refine Ba _ rfl (.tmp 35) (.tmp 37) 126 rfl w.heap.size 3 i0 (.int .i64 0) 1 8 Tryz.underlying126 cr cb cu cq rfl (by decide) _ L.length (Jg L) rfl (ah.alloc _) (wr.alloc (.cells #[.int .i64 (v:Int)] 3)).heap.size (some ⟨wr.heap.size,0,none⟩) 1 1 (Jg [(v:Int)]) rfl (Ac3 wr v) (Abm _) ay (by decide) (by simp;omega) ?_;intro v3 w3 dm ag);go_roundw
      case rel=>
       refine⟨j+1,a+s,L++ [(v:Int)],by omega,by go_num,by go_num,by omega,by simp [hLj],?_,HGn,(hb.alloc EG _).trans ag⟩;rw [U2,List.length_append];exact dm
      case measure=>simp [intOf];omega
  ·have hz:¬ (j:Int) < M:=by omega
   have CJ:j=M:=by omega
   have SN:=Aa (show Fo b M=(L,a,true) by
    have:=hG.out
    rw [CJ,Nat.sub_self] at this
    unfold Fo
    rw [this]
    simp [Ll])
   clear hG;go_wp2_with fail;refine bodyPost_ret (v:= .tuple #[u9,.int .i64 (a:Int),.bool true]) (by simp [results,Tryz.results189,go_sem]) rfl ?_;obtain⟨AL,cL,hAL,-,-,-⟩:=Ao ah;exact⟨AL,cL,by rw [SN.out,hAL],by rw [SN.out,<-hAL];exact ah,hb⟩
theorem Zo (k:Int) (w:World):Calls Tryz.prog 190 #[.int .i64 k] w fun e w'=>e= .returned (.int .i64 (Dl k:Int))/\w'=w:=by
 have hc:(k == 1)=true\/((k == 1)=false/\(k == 2)=true)\/((k == 1)=false/\(k == 2)=false):=by
  cases (k == 1) <;> cases (k == 2) <;> simp
 rcases hc with h | ⟨h,h2⟩ | ⟨h,h2⟩
 ·have hb:=Aa (show Dl k=1 from if_pos (by simpa using h));go_enter Tryz.func190,Tryz.ntmps190;go_wp2_with fail;go_ret;exact⟨by rw [hb.out];rfl,rfl⟩
 ·have hb:=Aa (show Dl k=0 from (if_neg (by simpa using h)).trans (if_pos (by simpa using h2)));go_enter Tryz.func190,Tryz.ntmps190;go_wp2_with fail;go_ret;exact⟨by rw [hb.out];rfl,rfl⟩
 ·have hb:=Aa (show Dl k=2 from (if_neg (by simpa using h)).trans (if_neg (by simpa using h2)));go_enter Tryz.func190,Tryz.ntmps190;go_wp2_with fail;go_ret;exact⟨by rw [hb.out];rfl,rfl⟩
def RN (w:World) (B:Nat) (A:Option Addr) (L:List Int):Prop:=RD w B 1 A L.length (Jg L)
theorem RN.cell {w:World} {B:Nat} {A:Option Addr} {L:List Int} (h:RN w B A L) (hl:0 < L.length):∃ b off,A=some ⟨b,off,none⟩/\b < B/\∀ j (hj:j < L.length),w.cell? ⟨b,off+j,none⟩=some (.int .i64 L[j]):=by
 obtain⟨b,off,e,hb,hc⟩:=h.2 hl;exact⟨b,off,e,hb,fun j hj=>hc j _ (by simp [Jg,hj])⟩
theorem Abt (A:Option Addr) (n c m:Nat) (L:List Int) (w:World) (hr:RN w w.heap.size A L) (hn:L.length=n) (hm:n=3 * m) (EK:1<=m) (vu:m<=64) (hL:∀ x∈L,0<=x/\x<=1073741824):
 Calls Tryz.prog 191 #[.slice A n c] w fun e w'=>e= .returned (.bool (decide (D3 0 L)))/\Below w.heap.size w w':=by
 have HL:=Aa hL;have Hn:=Aa hn;obtain⟨b0,o0,rfl,hB,hC⟩:=RN.cell hr (by omega);have HC:=Aa hC;clear hL hn hr hC;have AF:(n:Int)<=192:=by omega
 have Hm:=Aa hm;clear hm;go_enter Tryz.func191,Tryz.ntmps191;go_wp2_with fail
 go_loopw [3,4] (fun v i wr=>∃ (j:Nat) (was:Int),j<=m/\i= .int .i64 ((3 * j:Nat):Int)/\v= .int .i64 was/\0<=was/\was<=1073741824/\Hid (decide (D3 0 L)=decide (D3 was (L.drop (3 * j))))/\Below w.heap.size w wr) (fun _ i _=>n - (intOf i).toNat)
 case atStart=>exact⟨0,0,by omega,rfl,rfl,by decide,by decide,Aa rfl,Below.refl _ _⟩
 case round=>
  obtain⟨j,was,hj,rfl,rfl,ZX,dq,hG,hb⟩:=hrel;have hm:=Hm.out;by_cases ai:j < m
  ·have h3:3 * j+2 < L.length:=by rw [Hn.out];omega
   obtain⟨i,hi⟩:∃ i,i=3 * j:=⟨_,rfl⟩;rw [<-hi] at hG h3 |-;obtain⟨d,hd⟩:∃ x,L[i]=x:=⟨_,rfl⟩;obtain⟨r,hr⟩:∃ x,L[i+1]=x:=⟨_,rfl⟩;obtain⟨x,hx⟩:∃ x,L[i+2]=x:=⟨_,rfl⟩;have bd:=HL.out L[i] (List.getElem_mem (by omega));have br:=HL.out L[i+1] (List.getElem_mem (by omega));have bx:=HL.out L[i+2] (List.getElem_mem (by omega));have BG:L.drop i=d :: r :: x :: L.drop (i+3):=by
    rw [List.drop_eq_getElem_cons (by omega),List.drop_eq_getElem_cons (by omega),List.drop_eq_getElem_cons (by omega),hd,hr,hx]
   rw [BG] at hG;have e0:=HC.out i (by omega);have e1:=HC.out (i+1) (by omega);have e2:=HC.out (i+2) (by omega);rw [hd] at e0 bd;rw [hr] at e1 br;rw [hx] at e2 bx;replace e0:=Ac hb hB e0;replace e1:=Ac hb hB e1;replace e2:=Ac hb hB e2;have z0:(i:Int)+2 < n:=by have:=Hn.out;omega
   have z1:(i:Int)+1 < n:=by omega
   have z2:(i:Int) < n:=by omega
   have z3:(0:Int)<=i:=by omega
   have z4:(0:Int)<=(i:Int)+1:=by omega
   have z5:(0:Int)<=(i:Int)+2:=by omega
   have z6:((i:Int)+1).toNat=i+1:=by omega
   have z7:((i:Int)+2).toNat=i+2:=by omega
   have w1':IntKind.i64.wrap ((i:Int)+1)=(i:Int)+1:=IntWalk.i64_in _ (by omega);have w2':IntKind.i64.wrap ((i:Int)+2)=(i:Int)+2:=IntWalk.i64_in _ (by omega);have w3':IntKind.i64.wrap ((i:Int)+3)=(i:Int)+3:=IntWalk.i64_in _ (by omega);obtain⟨bd1,bd2⟩:=bd;obtain⟨br1,br2⟩:=br;obtain⟨bx1,bx2⟩:=bx
   have BA:(d < 1/\¬ D3 was (d :: r :: x :: L.drop (i+3)))\/(¬ d < 1/\x < 1/\¬ D3 was (d :: r :: x :: L.drop (i+3)))\/(¬ d < 1/\¬ x < 1/\4096 < x/\¬ D3 was (d :: r :: x :: L.drop (i+3)))\/(¬ d < 1/\¬ x < 1/\¬ 4096 < x/\255 < r/\¬ D3 was (d :: r :: x :: L.drop (i+3)))\/
    (¬ d < 1/\¬ x < 1/\¬ 4096 < x/\¬ 255 < r/\1073741824 < was+(d+x - 1)/\¬ D3 was (d :: r :: x :: L.drop (i+3)))\/(¬ d < 1/\¬ x < 1/\¬ 4096 < x/\¬ 255 < r/\¬ 1073741824 < was+(d+x - 1)/\(D3 was (d :: r :: x :: L.drop (i+3))↔D3 (was+d+x - 1) (L.drop (i+3)))):=by
    by_cases g1:d < 1
    ·exact .inl ⟨g1,fun h=>by have:=h.1;omega⟩
    by_cases g2:x < 1
    ·exact .inr (.inl ⟨g1,g2,fun h=>by have:=h.2.1;omega⟩)
    by_cases g3:4096 < x
    ·exact .inr (.inr (.inl ⟨g1,g2,g3,fun h=>by have:=h.2.2.1;omega⟩))
    by_cases g4:255 < r
    ·exact .inr (.inr (.inr (.inl ⟨g1,g2,g3,g4,fun h=>by have:=h.2.2.2.1;omega⟩)))
    by_cases g5:1073741824 < was+(d+x - 1)
    ·exact .inr (.inr (.inr (.inr (.inl ⟨g1,g2,g3,g4,g5,fun h=>by have:=h.2.2.2.2.1;omega⟩))))
    ·exact .inr (.inr (.inr (.inr (.inr ⟨g1,g2,g3,g4,g5,⟨fun h=>h.2.2.2.2.2,fun h=>⟨by omega,by omega,by omega,by omega,by omega,h⟩⟩⟩))))
   have Hi:=Aa hi;clear hd hr hx BG h3 hi hm;rcases BA with⟨g1,hf⟩ | ⟨g1,g2,hf⟩ | ⟨g1,g2,g3,hf⟩ | ⟨g1,g2,g3,g4,hf⟩ | ⟨g1,g2,g3,g4,g5,hf⟩ | ⟨g1,g2,g3,g4,g5,hf⟩
   ·have Hf:=Aa (hG.out.trans (decide_eq_false hf));clear hG hf;go_wp2_with fail;go_ret;exact⟨Ae Hf.out.symm,hb⟩
   ·have Hf:=Aa (hG.out.trans (decide_eq_false hf));clear hG hf;go_wp2_with fail;go_ret;exact⟨Ae Hf.out.symm,hb⟩
   ·have Hf:=Aa (hG.out.trans (decide_eq_false hf));clear hG hf;go_wp2_with fail;go_ret;exact⟨Ae Hf.out.symm,hb⟩
   ·have Hf:=Aa (hG.out.trans (decide_eq_false hf));clear hG hf;go_wp2_with fail;go_ret;exact⟨Ae Hf.out.symm,hb⟩
   ·have Hf:=Aa (hG.out.trans (decide_eq_false hf));have w4':IntKind.i64.wrap (d+x)=d+x:=IntWalk.i64_in _ (by omega);have w5':IntKind.i64.wrap (d+x - 1)=d+x - 1:=IntWalk.i64_in _ (by omega);have w6':IntKind.i64.wrap (was+(d+x - 1))=was+(d+x - 1):=IntWalk.i64_in _ (by omega);clear hG hf;go_wp2_with fail
    go_quiet (fail)
    go_wp2_with fail;go_ret;exact⟨Ae Hf.out.symm,Bk hb _⟩
   ·have Hf:=Aa (show decide (D3 0 L)=decide (D3 (was+d+x - 1) (L.drop (i+3))) by
     rw [hG.out]
     exact decide_eq_decide.2 hf)
    have w4':IntKind.i64.wrap (d+x)=d+x:=IntWalk.i64_in _ (by omega);have w5':IntKind.i64.wrap (d+x - 1)=d+x - 1:=IntWalk.i64_in _ (by omega);have w6':IntKind.i64.wrap (was+(d+x - 1))=was+(d+x - 1):=IntWalk.i64_in _ (by omega);clear hG hf;go_wp2_with fail
    go_quiet (fail)
    go_wp2_with fail;go_roundw
    case rel=>
     have e3:3 * (j+1)=i+3:=by have:=Hi.out;omega
     refine⟨j+1,was+(d+x - 1),by omega,by rw [e3];go_num,by go_num,by omega,by omega,Aa ?_,Bk hb _⟩;rw [e3,Hf.out,show was+d+x - 1=was+(d+x - 1) by omega]
    case measure=>
     have:=Hi.out;have:=Hm.out;simp [intOf];omega
  ·have NZ:j=m:=by omega
   have Hf:=Aa (show decide (D3 0 L)=true by
    rw [hG.out,List.drop_eq_nil_of_le (by rw [Hn.out];omega)]
    rfl)
   obtain⟨i,hi⟩:∃ i,i=3 * j:=⟨_,rfl⟩;rw [<-hi];have z0:¬ (i:Int)+2 < n:=by omega
   have w2':IntKind.i64.wrap ((i:Int)+2)=(i:Int)+2:=IntWalk.i64_in _ (by omega);clear hG hi hm;go_wp2_with fail;go_ret;exact⟨Ae Hf.out.symm,hb⟩
end Go.Proofs.YtmkpfdcnikgokaaGreat
