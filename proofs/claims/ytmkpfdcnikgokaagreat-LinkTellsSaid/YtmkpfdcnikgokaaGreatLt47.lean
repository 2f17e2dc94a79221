/-
  Texts of this claim, put together: FrameRefM, RefGet, LinkRef3, LinkSpoil. What each theorem asks stands in its statement.
-/
import Derived.Test.YtmkpfdcnikgokaaGreatLt4
import Derived.Test.YtmkpfdcnikgokaaGreatLt8
import Derived.Test.YtmkpfdcnikgokaaGreatLt22
import Derived.Test.YtmkpfdcnikgokaaGreatLt25
import Derived.Test.YtmkpfdcnikgokaaGreatLt26
import Derived.Test.YtmkpfdcnikgokaaGreatLt46
set_option linter.unusedVariables false
set_option linter.unusedSimpArgs false
set_option maxRecDepth 100000
set_option maxHeartbeats 25600000
namespace Go.Proofs.YtmkpfdcnikgokaaGreat
open Go.RowKit
theorem below_allocM (w w1:World) (o:Obj) (h:Below (w.alloc o).heap.size (w.alloc o) w1):Below w.heap.size w w1:=
 ((Below.refl w.heap.size w).alloc (Nat.le_refl _) _).trans (h.mono (by rw [World.size_alloc];exact Nat.le_succ _))
theorem shut_bytes (t:List UInt8) (sv:Nat) (h:sv=(smT tb t).toNat):u8s (shut4 t)=u8s t++ [.int .u8 ((sv:Int) % 256),.int .u8 ((sv:Int) / 256 % 256),.int .u8 ((sv:Int) / 65536 % 256),.int .u8 ((sv:Int) / 16777216)]:=by
 have hs:sv < 2 ^ 32:=h ▸ (smT tb t).isLt
 have e:∀ k,(byteOf (sm t) k).toNat=sv / 256 ^ k % 256:=fun k=>by
  unfold byteOf
  rw [UInt8.toNat_ofNat']
  show (smT tb t).toNat / 256 ^ k % 256 % 2 ^ 8=_
  rw [←h]
  omega
 rw [shut4,u8s_append]
 congr 1
 simp only [u8s,List.map_cons,List.map_nil,e]
 have x0:((sv / 256 ^ 0 % 256:Nat):Int)=(sv:Int) % 256:=by omega
 have x1:((sv / 256 ^ 1 % 256:Nat):Int)=(sv:Int) / 256 % 256:=by omega
 have x2:((sv / 256 ^ 2 % 256:Nat):Int)=(sv:Int) / 65536 % 256:=by omega
 have x3:((sv / 256 ^ 3 % 256:Nat):Int)=(sv:Int) / 16777216:=by omega
 rw [x0,x1,x2,x3]
theorem row_all (w:World) (cs:Array Value) (e:TypeId):RD (w.alloc (.cells cs e)) (w.alloc (.cells cs e)).heap.size 1 (some ⟨w.heap.size,0,none⟩) cs.size cs.toList:=by
 refine⟨by simp,fun _=>⟨_,_,rfl,by rw [World.size_alloc];omega,fun j u hu=>?_⟩⟩
 rw [Nat.zero_add,World.cell?_alloc_new]
 rwa [Array.getElem?_toList] at hu
theorem framed_ok (A:Option Addr) (n c:Nat) (l:List UInt8) (w:World) (hr:RB w w.heap.size A l) (hn:l.length=n) (h:n < 30000):
 Calls Tryz.prog 93 #[.slice A n c] w fun e w'=>∃ v,e= .returned v∧w'.ownsRow w.heap.size 5 1 v (frm l).length (u8s (frm l))∧Below w.heap.size w w':=by
 subst hn
 obtain⟨i0,hi0,hz0,hz1,hz2⟩:=info_parts u8info
 have C:=hide (fun w=>refbytes_ok l.length w (by omega))
 have hsix:=nb_six (n:=l.length) (by omega)
 have hpos:=nb_pos l.length
 go_enter Tryz.func93,Tryz.ntmps93
 go_wp2_with fail
 refine (unhide C _).mono ?_
 rintro e w1 ⟨v1,rfl,hown1,hb1⟩
 have hown0:(w.alloc (.cells #[.int .u8 70] 5)).ownsRow w.heap.size 5 1 (.slice (some ⟨w.heap.size,0,none⟩) 1 1) 1 (u8s [70]):=World.ownsRow_lit w _ 1 (Nat.le_refl _) (by decide) rfl
 have hown0':=own_below hown0 hb1 (Nat.le_refl _)
 obtain⟨A1,c1,rfl,-,-,-⟩:=own_slice hown1
 have hr1:RB w1 w1.heap.size A1 (nb l.length):=RD.of_own hown1
 have hbw1:=below_allocM _ _ _ hb1
 have hs1:=hbw1.size
 clear hown0 hown1 C hb1
 go_wp2_with (first
  | (at_builtin;refine wpList_append_src _ rfl (.tmp 6) (.tmp 9) 23 rfl w.heap.size 5 i0 (.int .u8 0) 1 1 Tryz.underlying23 hi0 hz0 hz1 hz2 rfl (by decide) _ _ _ rfl hown0' _ A1 (nb l.length).length c1 (u8s (nb l.length)) rfl hr1 (u8s_one _) (by omega) (by decide) hs1 ?_;intro v2 w2 hown2 hb2;have hrl2:=RD.below (RD.below hr hbw1) hb2;have hs2:=Nat.le_trans hs1 hb2.size;have hsz:1+(nb l.length).length+l.length≤1073741824:=(by omega))
  | (at_builtin;refine wpList_append_src _ rfl (.tmp 11) (.tmp 12) 23 rfl w.heap.size 5 i0 (.int .u8 0) 1 1 Tryz.underlying23 hi0 hz0 hz1 hz2 rfl (by decide) _ _ _ rfl hown2 w.heap.size A l.length c (u8s l) rfl hrl2 (u8s_one _) hsz (by decide) hs2 ?_;intro v3 w3 hown3 hb3))
 have e3:u8s [70]++u8s (nb l.length)++u8s l=u8s (head l):=by simp [head,u8s]
 rw [e3,←head_len l] at hown3
 have hh:=head_len l
 obtain⟨A3,c3,rfl,-,-,-⟩:=own_slice hown3
 have hbw3:=hbw1.trans (hb2.trans hb3)
 have hh2:(head l).length≤30007:=by omega
 clear e3 hown2 hown0' hrl2 hs2 hsz hb2 hb3 hr1 hr hh hsix hpos
 refine (plain_tb A3 c3 (head l) w3 (RD.of_own hown3) (by omega)).mono ?_
 rintro e w4 ⟨rfl,hb4⟩
 have hown4:=own_below hown3 hb4 (Nat.le_refl _)
 have hbw4:=fresh hbw3 hb4
 have hs4:=hbw4.size
 have hsm:=(smT tb (head l)).isLt
 obtain⟨sv,hsv⟩:∃ sv:Nat,sv=(smT tb (head l)).toNat:=⟨_,rfl⟩
 rw [←hsv] at hsm ⊢
 have Hsv:=hide hsv
 clear hsv hown3 hb4 hbw3 hbw1 hs1
 go_wp2_with (at_builtin;refine wpList_append_src _ rfl (.tmp 16) (.tmp 31) 23 rfl w.heap.size 5 i0 (.int .u8 0) 1 1 Tryz.underlying23 hi0 hz0 hz1 hz2 rfl (by decide) _ _ _ rfl (hown4.alloc _) _ (some ⟨w4.heap.size,0,none⟩) 4 4 _ rfl (row_all w4 _ _) (by intro u hu;simp at hu;rcases hu with rfl | rfl | rfl | rfl <;> rfl) (by omega) (by decide) (by rw [World.size_alloc];omega) ?_;intro v5 w5 hown5 hb5)
 go_ret
 refine⟨v5,rfl,?_,hbw4.trans (((Below.refl w.heap.size w4).alloc hs4 _).trans hb5)⟩
 have e1:(frm l).length=(head l).length+4:=shut4_len _
 have e2:u8s (frm l)=_:=shut_bytes (head l) sv Hsv.out
 rw [e1,e2]
 exact hown5
end Go.Proofs.YtmkpfdcnikgokaaGreat
namespace Go.Proofs.YtmkpfdcnikgokaaGreat
open Go.RowKit
theorem refget_len3 (A:Option Addr) (n c:Nat) (l:List UInt8) (w:World) (hr:RB w w.heap.size A l) (hn:l.length=n) (hl:n < 1073741824):
 Calls Tryz.prog 103 #[.slice A n c] w fun e w'=>e= .returned (gval (gget l))∧w=w':=by
 subst hn
 exact refget_any A c l w hr hl
/-- As the document reads: whatever stands where the body would, framed anew. -/
theorem opn_ref (l:List UInt8) (h:6≤l.length):opn l=match gget (l.drop 1) with
 | none=>none
 | some (n,s)=>if n≤16384∧l.length=1+s+n+4∧frm ((l.take (1+s+n)).drop (1+s))=l then some ((l.take (1+s+n)).drop (1+s)) else none:=by
 cases ho:opn l with
 | some m=>
   obtain⟨h1,h2⟩:=opn_inv ho
   subst h1
   have hd:(frm m).drop 1=nb m.length++(m++ [byteOf (sm (head m)) 0,byteOf (sm (head m)) 1,byteOf (sm (head m)) 2,byteOf (sm (head m)) 3]):=by simp [frm,shut4,head]
   rw [hd,gget_nb _ _ (by omega)]
   have hl:=frm_len m
   have hb:((frm m).take (1+(nb m.length).length+m.length)).drop (1+(nb m.length).length)=m:=by
    have:(frm m).take (1+(nb m.length).length+m.length)=head m:=by rw [frm,shut4,List.take_left' (head_len m)]
    rw [this,head,Nat.add_comm,List.drop_succ_cons,List.drop_left' rfl]
   show some m=if m.length≤16384∧(frm m).length=1+(nb m.length).length+m.length+4∧frm (((frm m).take (1+(nb m.length).length+m.length)).drop (1+(nb m.length).length))=frm m then some (((frm m).take (1+(nb m.length).length+m.length)).drop (1+(nb m.length).length)) else none
   rw [hb,if_pos ⟨h2,by omega,rfl⟩]
 | none=>
   cases hg:gget (l.drop 1) with
   | none=>rfl
   | some p=>
     obtain⟨n,s⟩:=p
     show none=if n≤16384∧l.length=1+s+n+4∧frm ((l.take (1+s+n)).drop (1+s))=l then some ((l.take (1+s+n)).drop (1+s)) else none
     rw [if_neg]
     rintro ⟨h1,h2,h3⟩
     have hl:((l.take (1+s+n)).drop (1+s)).length=n:=by rw [List.length_drop,List.length_take];omega
     have h4:=opn_frm ((l.take (1+s+n)).drop (1+s)) (by omega)
     rw [h3,ho] at h4
     cases h4
theorem refopen_any (A:Option Addr) (c:Nat) (l:List UInt8) (w:World) (hr:RB w w.heap.size A l) (hc:l.length≤c) (hl:l.length < 30000):
 Calls Tryz.prog 62 #[.slice A l.length c] w fun e w'=>opened w w' e l∧Below w.heap.size w w':=by
 by_cases h6:(l.length:Int) < 6
 ·have fin:opn l=none:=by unfold opn;rw [if_pos (by omega)]
  go_enter Tryz.func62,Tryz.ntmps62
  go_wp2_with fail
  go_ret2
  exact⟨opened_none fin,Below.refl _ _⟩
 obtain⟨i0,hi0,hz0,hz1,hz2⟩:=info_parts u8info
 obtain⟨b0,o0,rfl,hB0,-⟩:=RB.cell hr (by omega)
 have hopn:=opn_ref l (by omega)
 have h1l:(1:Int)≤(l.length:Int):=by omega
 have hlc:(l.length:Int)≤(c:Int):=by omega
 have hrs:RB w w.heap.size (some ⟨b0,o0+1,none⟩) (l.drop 1):=by
  have:=hr.sub 1 l.length (Nat.le_refl _)
  rwa [List.take_of_length_le (Nat.le_refl _)] at this
 have Hr:=hide hr
 have Hopn:=hide hopn
 clear hr hopn
 go_enter Tryz.func62,Tryz.ntmps62
 go_wp2_with fail
 refine (refget_len3 (some ⟨b0,o0+1,none⟩) (l.length - 1) (c - 1) (l.drop 1) w hrs (by rw [List.length_drop]) (by omega)).mono ?_
 rintro e w1 ⟨rfl,rfl⟩
 clear hrs
 cases hg:gget (l.drop 1) with
 | none=>
   have hfin:=Hopn.out
   rw [hg] at hfin
   clear hg
   unfold gval
   go_wp2_with fail
   go_ret2
   exact⟨opened_none hfin,Below.refl _ _⟩
 | some p=>
   obtain⟨n,s⟩:=p
   obtain⟨hn1,hs1,-,-⟩:=gget_inv hg
   rw [List.length_drop] at hs1
   have hopn:=Hopn.out
   rw [hg] at hopn
   change opn l=if n≤16384∧l.length=1+s+n+4∧frm ((l.take (1+s+n)).drop (1+s))=l then some ((l.take (1+s+n)).drop (1+s)) else none at hopn
   have hsm:(s:Int) < 1000000:=by omega
   have hnm:(n:Int)≤1099511627776:=by omega
   clear hg Hopn hn1 hs1
   have Hopn:=hide hopn
   clear hopn
   rw [gval_some]
   by_cases hbig:(16384:Int) < (n:Int)
   ·have hfin:=Hopn.out.trans (if_neg (fun h=>by omega))
    ((try dsimp only);repeat (first | go_values | go_skip | go_guarded | go_step | go_back))
    go_ret2
    exact⟨opened_none hfin,Below.refl _ _⟩
   by_cases hlen:¬ ((l.length:Int)=1+(s:Int)+(n:Int)+4)
   ·have hfin:=Hopn.out.trans (if_neg (fun h=>by omega))
    have z:((l.length:Int) != 1+(s:Int)+(n:Int)+4)=true:=by simp;omega
    clear hlen
    ((try dsimp only);repeat (first | go_values | go_skip | go_guarded | go_step | go_back))
    go_ret2
    exact⟨opened_none hfin,Below.refl _ _⟩
   replace hlen:=Classical.not_not.1 hlen
   have z:((l.length:Int) != 1+(s:Int)+(n:Int)+4)=false:=by simp;omega
   have Hlen:=hide hlen
   have hb1:(1:Int)+(s:Int)≤1+(s:Int)+(n:Int):=by omega
   have hb2:(1:Int)+(s:Int)+(n:Int)≤(c:Int):=by omega
   have hcne:¬ (c=1+s):=by omega
   clear hlen
   ((try dsimp only);repeat (first | go_values | go_skip | go_guarded | go_step | go_back))
   have hsub:1+s+n - (1+s)=n:=by omega
   simp only [hsub]
   have hrb:RB w w.heap.size (some ⟨b0,o0+(1+s),none⟩) ((l.take (1+s+n)).drop (1+s)):=(unhide Hr).sub (1+s) (1+s+n) (by have:=Hlen.out;omega)
   have hlb:((l.take (1+s+n)).drop (1+s)).length=n:=by rw [List.length_drop,List.length_take];have:=Hlen.out;omega
   obtain⟨bd,hbd⟩:∃ bd,bd=(l.take (1+s+n)).drop (1+s):=⟨_,rfl⟩
   rw [←hbd] at hrb hlb Hopn
   have hn3:n < 30000:=by omega
   have hkl:∀ W,Below w.heap.size w W→(convert 23 9 (.slice (some ⟨b0,o0,none⟩) l.length c)).run Tryz.prog W= .ok (.string ⟨l.toArray⟩) W:=fun W hW=>
    conv_bytes (P:=Tryz.prog) (RD.below (unhide Hr) hW) Tryz.underlying23 Tryz.underlying5 Tryz.underlying9 c
   clear hbd Hr
   have hrb':RB w.drew w.drew.heap.size (some ⟨b0,o0+(1+s),none⟩) bd:=hrb
   have kl0:=hkl w (Below.refl _ _)
   have kl1:=hkl w.drew (Below.refl _ _).drew
   go_region_with (go_at_call 93;refine (framed_ok (some ⟨b0,o0+(1+s),none⟩) n (c - (1+s)) bd w.drew hrb' hlb hn3).mono ?_;rintro e wx ⟨vx,rfl,hownx,hbx⟩;obtain⟨Ax,cx,rfl,-,-,-⟩:=own_slice hownx;have hbw:Below w.heap.size w wx:=(Below.refl _ _).drew.trans hbx;have kl:=hkl wx hbw;have kx:=conv_bytes (P:=Tryz.prog) (RD.of_own hownx:RB wx wx.heap.size Ax (frm bd)) Tryz.underlying23 Tryz.underlying5 Tryz.underlying9 cx;clear hownx)
   all_goals
    by_cases hq:frm bd=l
    ·have hfin:opn l=some bd:=Hopn.out.trans (if_pos ⟨by omega,by have:=Hlen.out;omega,hq⟩)
     have hrx:RD wx w.heap.size 1 (some ⟨b0,o0+(1+s),none⟩) n (u8s bd):=by
      have:=RD.below hrb hbw
      unfold RB at this
      rwa [hlb] at this
     have hne:(!frm bd == l)=false:=by simp [hq]
     rw [hne]
     clear hne hq kl kx kl0 kl1 hkl hrb hrb' z hb1 hb2 hcne hsub hsm hnm hlc h1l hc h6
     go_wp2_with (at_builtin;refine wpList_append_src _ rfl (.tmp 48) (.tmp 49) 23 rfl w.heap.size 5 i0 (.int .u8 0) 1 1 Tryz.underlying23 hi0 hz0 hz1 hz2 rfl (by decide) _ 0 [] rfl (own_empty wx _ _ _ hbw.size) w.heap.size (some ⟨b0,o0+(1+s),none⟩) n (c - (1+s)) (u8s bd) rfl (RD.alloc hrx hbw.size _) (u8s_one _) (by omega) (by decide) (by simp;have:=hbw.size;omega) ?_;intro v9 w9 hown9 hb9;simp only [Nat.zero_add,List.nil_append] at hown9)
     go_ret2
     rw [←hlb] at hown9
     exact⟨opened_some hfin hown9,hbw.trans (((Below.refl w.heap.size wx).alloc hbw.size _).trans hb9)⟩
    ·have hfin:opn l=none:=Hopn.out.trans (if_neg (fun h=>hq h.2.2))
     have hne:(!frm bd == l)=true:=by simp [hq]
     rw [hne]
     clear hne hq kl kx kl0 kl1 hkl hrb hrb' z hb1 hb2 hcne hsub hsm hnm hlc h1l hc h6
     go_wp2_with fail
     go_ret2
     exact⟨opened_none hfin,hbw⟩
/-- What Get answers. -/
def rgot (w w':World) (e:Ending) (b:List UInt8):Prop:=∃ x:MlL,e= .returned (.tuple #[x.val,.int .i64 (codeM b)])∧x.mp=(mailM b).getD mp0∧RM w' w'.heap.size x∧okM x∧Below w.heap.size w w'
theorem rgot_bad {w w':World} {b:List UInt8} {k:Int} (h:codeM b=k) (hk:k≠0) (hb:Below w.heap.size w w'):rgot w w' (.returned (.tuple #[mlv 0 0 0 0 (.slice none 0 0) (.slice none 0 0) (.slice none 0 0),.int .i64 k])) b:=by
 have hm:mailM b=none:=by
  cases hx:mailM b with
  | none=>rfl
  | some x=>exact (hk (by rw [←h];exact (codeM_iff b).2 (by rw [hx];rfl))).elim
 exact⟨m0L,by rw [h];rfl,by rw [hm];rfl,m0_rm _ _,m0_ok,hb⟩
theorem rgot_ok {w w':World} {b:List UInt8} {x:MlL} {v:Value} (h:mailM b=some x.mp) (hv:v=x.val) (hr:RM w' w'.heap.size x) (ho:okM x) (hb:Below w.heap.size w w'):rgot w w' (.returned (.tuple #[v,.int .i64 0])) b:=
 ⟨x,by rw [(codeM_iff b).2 (by rw [h];rfl),hv],by rw [h];rfl,hr,ho,hb⟩
theorem rget_any (A:Option Addr) (n c:Nat) (b:List UInt8) (w:World) (hr:RB w w.heap.size A b) (hn:b.length=n) (hc:n≤c) (hl:n < 30000):
 Calls Tryz.prog 24 #[.slice A n c] w fun e w'=>rgot w w' e b:=by
 subst hn
 obtain⟨w1,hw1,F1,hs1,hb1⟩:=mail_box w (.int .u8 0) (.int .u32 0) (.int .u8 0) (.int .i64 0) (.slice none 0 0) (.slice none 0 0) (.slice none 0 0)
 obtain⟨gx,hgx⟩:∃ q,q=w.heap.size:=⟨_,rfl⟩
 have Hgx:=hide hgx
 rw [←hgx] at F1
 have HF1:=hide F1
 have hO:=hide (refopen_any A c b w1 ((RD.below hr hb1).more hb1.size) hc hl)
 have Hw1:=hide hw1
 have HB1:=hide hb1
 have hx1:gx < w1.heap.size:=by rw [hgx];exact hs1
 clear hr hc F1 hw1 hs1 hb1 hgx
 go_enter Tryz.func24,Tryz.ntmps24
 go_wp2_with fail
 rw [Hw1.out,←Hgx.out]
 refine hO.out.mono ?_
 rintro e w2 ⟨ho,hb2⟩
 unfold opened at ho
 have HF2:=hide (HF1.out.below hb2)
 have HB2:=hide (fresh HB1.out hb2)
 cases hm:opn b with
 | none=>
   rw [hm] at ho
   subst ho
   have hcode:=hide (show codeM b=30 by unfold codeM;rw [hm])
   obtain⟨f0,f1,f2,f3,f4,f5,f6,FZ,hbz⟩:=wipe HF2.out HB2.out (w:=w) (Nat.le_of_eq Hgx.out.symm)
   obtain⟨y0,y1,y2,y3,y4,y5,y6⟩:=HF2.out.cells
   have HFZ:=hide FZ
   have HBZ:=hide hbz
   clear FZ hbz hO hm hb2
   go_wp2_with fail
   obtain⟨v0,v1,v2,v3,v4,v5,v6⟩:=HFZ.out.cells
   refine bodyPost_ret (v:= .tuple #[mlv 0 0 0 0 (.slice none 0 0) (.slice none 0 0) (.slice none 0 0),.int .i64 30]) (by simp [results,Tryz.results24,go_sem,v0,v1,v2,v3,v4,v5,v6]) rfl ?_
   exact rgot_bad hcode.out (by decide) HBZ.out
 | some m=>
   rw [hm] at ho
   obtain⟨v,rfl,hown⟩:=ho
   obtain⟨-,hm16⟩:=opn_inv hm
   obtain⟨A2,c2,rfl,ho1,ho2,ho3⟩:=own_slice hown
   have hA2:A2=none→c2=0:=by
    intro h
    subst h
    rcases hown.2 with⟨h1,-⟩ | ⟨k,cap,cur,h1,-⟩
    ·simp only [Value.slice.injEq] at h1
     exact h1.2.2
    ·simp at h1
   have hP:=hide (rparse A2 m.length c2 m w2 (RBT.of_own hown (Nat.le_refl _)) rfl ho1 hA2 (by omega))
   have Hcm:=hide (show codeM b=mcode m by unfold codeM;rw [hm])
   have Hmm:=hide (show mailM b=getB m by unfold mailM;rw [hm];rfl)
   clear hown hm hm16 hO hb2 ho1 ho2 ho3 hA2
   go_wp2_with fail
   refine hP.out.mono ?_
   rintro e w3 ⟨x,rfl,hxm,hrx,okx,hb3⟩
   obtain⟨k,t,r,ix,iA,ic,i,oA,oc,o,sA,sc,s⟩:=x
   obtain⟨w5,hw5,F5,hs5,hb5⟩:=mail_box w3 (.int .u8 k) (.int .u32 t) (.int .u8 r) (.int .i64 ix) (.slice iA i.length ic) (.slice oA o.length oc) (.slice sA s.length sc)
   obtain⟨gy,hgy⟩:∃ q,q=w3.heap.size:=⟨_,rfl⟩
   have Hgy:=hide hgy
   rw [←hgy] at F5
   have hb25:=fresh hb3 hb5
   have HF5:=hide (HF2.out.below hb25)
   have HB5:=hide (fresh HB2.out hb25)
   have HY5:=hide F5
   have HX5:=hide (hrx.below hb5)
   have Hok:=hide okx
   have Hw5:=hide hw5
   obtain⟨is,his⟩:∃ q,(getB m).isSome=q:=⟨_,rfl⟩
   rw [his]
   have His:=hide his
   have Hxm:=hide hxm
   obtain⟨y0,y1,y2,y3,y4,y5,y6⟩:=HF5.out.cells
   obtain⟨z0,z1,z2,z3,z4,z5,z6⟩:=HY5.out.cells
   clear F5 hs5 hb5 hb3 hb25 hrx okx hxm his hgy hP HF2 HB2 HF1 HB1 hw5
   simp only [MlL.val]
   cases is with
   | false=>
     have hcode:=hide (show codeM b=8 by
      rw [Hcm.out]
      have:=His.out
      cases hg:getB m with
      | none=>unfold mcode;rw [hg];rfl
      | some q=>rw [hg] at this;cases this)
     obtain⟨f0,f1,f2,f3,f4,f5,f6,FZ,hbz⟩:=wipe HF5.out HB5.out (w:=w) (Nat.le_of_eq Hgx.out.symm)
     have HFZ:=hide FZ
     have HBZ:=hide hbz
     have hw5:=Hw5.out
     rw [←hw5] at f0 f1 f2 f3 f4 f5 f6 y0 y1 y2 y3 y4 y5 y6
     clear FZ hbz hw5 HX5 Hxm z0 z1 z2 z3 z4 z5 z6
     go_wp2_with fail
     rw [Hw5.out]
     obtain⟨v0,v1,v2,v3,v4,v5,v6⟩:=HFZ.out.cells
     refine bodyPost_ret (v:= .tuple #[mlv 0 0 0 0 (.slice none 0 0) (.slice none 0 0) (.slice none 0 0),.int .i64 8]) (by simp [results,Tryz.results24,go_sem,v0,v1,v2,v3,v4,v5,v6]) rfl ?_
     exact rgot_bad hcode.out (by decide) HBZ.out
   | true=>
     have hmail:=hide (show mailM b=some (MlL.mp ⟨k,t,r,ix,iA,ic,i,oA,oc,o,sA,sc,s⟩) by
      rw [Hmm.out]
      have h1:=His.out
      have h2:=Hxm.out
      cases hg:getB m with
      | none=>rw [hg] at h1;cases h1
      | some q=>rw [hg] at h2;rw [h2];rfl)
     obtain⟨f0,f1,f2,f3,f4,f5,f6,FZ,hbz⟩:=refill (.int .u8 k) (.int .u32 t) (.int .u8 r) (.int .i64 ix) (.slice iA i.length ic) (.slice oA o.length oc) (.slice sA s.length sc) HF5.out HB5.out (Nat.le_of_eq Hgx.out.symm)
     have HFZ:=hide FZ
     have HBZ:=hide hbz
     have HXZ:=hide (HX5.out.fill (.int .u8 k) (.int .u32 t) (.int .u8 r) (.int .i64 ix) (.slice iA i.length ic) (.slice oA o.length oc) (.slice sA s.length sc) HF5.out).rm
     have hw5:=Hw5.out
     rw [←hw5] at f0 f1 f2 f3 f4 f5 f6 y0 y1 y2 y3 y4 y5 y6 z0 z1 z2 z3 z4 z5 z6
     rw [Hgy.out] at z0 z1 z2 z3 z4 z5 z6
     clear FZ hbz hw5 HX5 Hxm
     go_wp2_with fail
     rw [Hw5.out]
     obtain⟨v0,v1,v2,v3,v4,v5,v6⟩:=HFZ.out.cells
     refine bodyPost_ret (v:= .tuple #[mlv k t r ix (.slice iA i.length ic) (.slice oA o.length oc) (.slice sA s.length sc),.int .i64 0]) (by simp [results,Tryz.results24,go_sem,v0,v1,v2,v3,v4,v5,v6]) rfl ?_
     exact rgot_ok (x:=⟨k,t,r,ix,iA,ic,i,oA,oc,o,sA,sc,s⟩) hmail.out rfl HXZ.out Hok.out HBZ.out
theorem rgarble (A bA:Option Addr) (n c bn bc:Nat) (m:Int) (b:List UInt8) (L:List FrL) (w:World) (hr:RF w w.heap.size A L) (hn:L.length=n) (hn9:n≤1000000) (hrb:RB w w.heap.size bA b) (hbn:b.length=bn) (hbc:bn≤bc):
 Calls Tryz.prog 14 #[.slice A n c,.int .i64 m,.slice bA bn bc] w fun e w'=>∃ (A':Option Addr) (c':Nat) (L':List FrL),e= .returned (.tuple #[.slice A' (List.length (α:=FrL) L') c',.int .i64 (garE L m b)])∧L'.map FrL.b=garV L m b∧OF w' w.heap.size A' c' L'∧Below w.heap.size w w':=by
 have P:=hide (rasked A n c m L w hr hn hn9)
 by_cases hE:atE L m=0
 rotate_left
 ·have hE1:=hide (show garE L m b=atE L m from if_neg hE)
  have hV:=hide (show garV L m b= [] from if_neg hE)
  have hE2:=hide (show atE L m=8∨atE L m=2 by
   unfold atE at hE ⊢
   split
   ·exact .inl rfl
   ·split
    ·exact .inr rfl
    ·rename_i h1 h2
     rw [if_neg h1,if_neg h2] at hE
     exact (hE rfl).elim)
  rw [hE1.out,hV.out]
  obtain⟨q,hq⟩:∃ q,atE L m=q:=⟨_,rfl⟩
  rw [hq] at P hE2 ⊢
  clear hE hq hr hE1 hrb hbn hbc
  rcases hE2.out with rfl | rfl
  all_goals
   clear hE2
   go_enter Tryz.func14,Tryz.ntmps14
   go_wp2_with fail
   refine P.out.mono ?_
   rintro e w2 ⟨rfl,rfl⟩
   go_wp2_with fail
   first
    | (refine bodyPost_ret (v:= .tuple #[.slice none 0 0,.int .i64 8]) (by simp [results,Tryz.results14,go_sem]) rfl ?_
       exact⟨none,0, [],rfl,rfl,OF.nil _ _,Below.refl _ _⟩)
    | (refine bodyPost_ret (v:= .tuple #[.slice none 0 0,.int .i64 2]) (by simp [results,Tryz.results14,go_sem]) rfl ?_
       exact⟨none,0, [],rfl,rfl,OF.nil _ _,Below.refl _ _⟩)
 obtain⟨hok,h0,h1⟩:=atE_ok hE
 obtain⟨k,rfl⟩:=Int.eq_ofNat_of_zero_le h0
 have hkn:k < n:=by omega
 have hkL:k < L.length:=by omega
 have z0:(k:Int) < n:=by omega
 have zk:(0:Int)≤k:=by omega
 have hE1:=hide (show garE L (k:Int) b=gar1E b from if_pos hE)
 have hV1:=hide (show garV L (k:Int) b=gar1V (L.map FrL.b) k b by unfold garV;rw [if_pos hE,Int.toNat_natCast])
 rw [hE] at P
 rw [hE1.out,hV1.out]
 by_cases hbig:(20000:Int) < bn
 ·have hg:=hide (show gar1E b=4 from if_pos (by omega))
  have hv:=hide (show gar1V (L.map FrL.b) k b= [] from if_pos (by omega))
  rw [hg.out,hv.out]
  clear hr hn hok h0 h1 hE hrb hbn hbc
  go_enter Tryz.func14,Tryz.ntmps14
  go_wp2_with fail
  refine P.out.mono ?_
  rintro e w2 ⟨rfl,rfl⟩
  go_wp2_with fail
  refine bodyPost_ret (v:= .tuple #[.slice none 0 0,.int .i64 4]) (by simp [results,Tryz.results14,go_sem]) rfl ?_
  exact⟨none,0, [],rfl,rfl,OF.nil _ _,Below.refl _ _⟩
 have hg:=hide (show gar1E b=0 from if_neg (by omega))
 rw [hg.out]
 have hG:=hide (rget_any bA bn bc b w hrb hbn hbc (by omega))
 have HR:=hide hr
 have HRb:=hide hrb
 have Hn:=hide hn
 have Hbn:=hide hbn
 have Hok:=hide hok
 have hbn2:bn≤20000:=by omega
 obtain⟨cd,hcd⟩:∃ q,codeM b=q:=⟨_,rfl⟩
 have Hcd:=hide hcd
 have Hbig:=hide (show ¬ 20000 < b.length by omega)
 clear hr hrb hn hok hbn h0 h1 hE hcd
 go_enter Tryz.func14,Tryz.ntmps14
 go_wp2_with fail
 refine P.out.mono ?_
 rintro e w2 ⟨rfl,rfl⟩
 go_wp2_with fail
 refine hG.out.mono ?_
 rintro e w3 ⟨x,rfl,-,-,-,hb3⟩
 rw [Hcd.out]
 obtain⟨kx,t,r,ix,iA,ic,i,oA,oc,o,sA,sc,s⟩:=x
 obtain⟨w4,hw4,F4,hs4,hb4⟩:=mail_box w3 (.int .u8 kx) (.int .u32 t) (.int .u8 r) (.int .i64 ix) (.slice iA i.length ic) (.slice oA o.length oc) (.slice sA s.length sc)
 have HB4:=hide (fresh hb3 hb4)
 have Hw4:=hide hw4
 simp only [MlL.val]
 clear hb3 hb4 hs4 F4 hG P hw4
 by_cases hc0:cd=0
 ·subst hc0
  have hv:=hide (show gar1V (L.map FrL.b) k b=(L.map FrL.b).eraseIdx k by unfold gar1V;rw [if_neg Hbig.out,if_pos Hcd.out])
  have hW:=hide (rwithout A n c k L w4 ((HR.out.below HB4.out).more HB4.out.size) Hn.out hn9 (fun y hy=>by have:=Hok.out.2 y hy;omega))
  go_wp2_with fail
  rw [Hw4.out]
  refine hW.out.mono ?_
  rintro e w5 ⟨A5,c5,L5,rfl,hL5,hO5,hb5⟩
  have H5:=hide (And.intro hL5 (And.intro hO5 hb5))
  obtain⟨l5,hl5⟩:∃ q,q=L5.length:=⟨_,rfl⟩
  rw [←hl5]
  have Hl5:=hide hl5
  clear hL5 hO5 hb5 hl5 hW
  go_wp2_with fail
  refine bodyPost_ret (v:= .tuple #[.slice A5 l5 c5,.int .i64 0]) (by simp [results,Tryz.results14,go_sem]) rfl ?_
  exact⟨A5,c5,L5,by rw [Hl5.out],by rw [hv.out];exact H5.out.1,H5.out.2.1.less HB4.out.size,fresh HB4.out H5.out.2.2⟩
 ·have hbe:(cd == (0:Int))=false:=by simpa using hc0
  have hv:=hide (show gar1V (L.map FrL.b) k b=(L.map FrL.b).set k b by unfold gar1V;rw [if_neg Hbig.out,if_neg (by rw [Hcd.out];exact hc0)])
  have hT:=hide (rtwin A n c L w4 ((HR.out.below HB4.out).more HB4.out.size) Hn.out hn9 (fun y hy=>by have:=Hok.out.2 y hy;omega))
  clear hc0
  go_wp2_with fail
  rw [Hw4.out]
  refine hT.out.mono ?_
  rintro e w5 ⟨A5,c5,L5,rfl,hL5,hO5,hb5⟩
  have hl5:L5.length=n:=by rw [←Hn.out,←List.length_map FrL.b,hL5,List.length_map]
  obtain⟨A9,c9,e9,h9,-,hA⟩:=own_slice hO5.1
  simp only [Value.slice.injEq] at e9
  obtain⟨rfl,-,rfl⟩:=e9
  rcases hA with hA | ⟨g,rfl,hg1,hg2⟩
  ·omega
  have H5:=hide (And.intro hL5 (And.intro hO5 (And.intro hl5 hb5)))
  have hO:=hide (rown bA bn bc b w5 ((RD.below HRb.out (fresh HB4.out hb5)).more (fresh HB4.out hb5).size) Hbn.out (by omega))
  have zc:n≤c5:=by omega
  have hg5:=hide (And.intro hg1 hg2)
  clear hL5 hO5 hb5 hl5 hT h9 hg1 hg2
  go_wp2_with fail
  refine hO.out.mono ?_
  rintro e w6 ⟨A6,c6,rfl,hown6,hb6⟩
  have HO6:=hide (H5.out.2.1.below hb6)
  obtain⟨⟨u6,hu6⟩,hf6⟩:=of_cell HO6.out H5.out.2.2.1 hkn
  have Hown6:=hide hown6
  have HB6:=hide hb6
  clear hown6 hb6 hO
  go_wp2_with fail
  obtain⟨w7,hw7⟩:∃ q,w6.setCell ⟨g,k,none⟩ (.slice A6 bn c6)=q:=⟨_,rfl⟩
  have HF:=hide (show OF w7 w4.heap.size (some ⟨g,0,none⟩) c5 (L5.set k ⟨A6,c6,b⟩) by
   have h1:=HO6.out.put (m:=k) (by rw [H5.out.2.2.1];exact hkn) ⟨A6,c6,b⟩ (by
    have h2:=own_less Hown6.out (Nat.le_trans H5.out.2.2.2.size (Nat.le_refl _))
    have h3:=Hbn.out
    subst h3
    exact h2)
   have h3:=Hbn.out
   subst h3
   rw [←hw7]
   exact h1)
  have HB7:=hide (show Below w4.heap.size w4 w7 by rw [←hw7];exact (fresh H5.out.2.2.2 HB6.out).setCell (by simp only;exact hg5.out.1) _)
  have hfin:(L5.set k ⟨A6,c6,b⟩).map FrL.b=(L.map FrL.b).set k b:=by rw [List.map_set,H5.out.1]
  have hlen:(L5.set k ⟨A6,c6,b⟩).length=n:=by rw [List.length_set,H5.out.2.2.1]
  have Hw7:=hide hw7
  have Hfin:=hide (And.intro hfin hlen)
  clear hfin hlen hw7
  refine bodyPost_ret (v:= .tuple #[.slice (some ⟨g,0,none⟩) n c5,.int .i64 0]) (by simp [results,Tryz.results14,go_sem]) rfl ?_
  rw [Hw7.out]
  exact⟨some ⟨g,0,none⟩,c5,_,by rw [Hfin.out.2],by rw [hv.out];exact Hfin.out.1,HF.out.less HB4.out.size,fresh HB4.out HB7.out⟩
/-- A frame in memory of one's own, whatever its bytes. -/
def Bys (w:World) (base:Nat) (x:FrL):Prop:=∃ b':List UInt8,b'.length=x.b.length∧w.ownsRow base 5 1 (.slice x.A x.b.length x.c) x.b.length (u8s b')
/-- Frames in memory of one's own, whatever their bytes. -/
def WF (w:World) (base:Nat) (A:Option Addr) (c:Nat) (L:List FrL):Prop:=w.ownsRow base 23 1 (.slice A L.length c) L.length (frs L)∧∀ x∈L,Bys w base x
theorem OF.wf {w:World} {base c:Nat} {A:Option Addr} {L:List FrL} (h:OF w base A c L):WF w base A c L:=⟨h.1,fun x hx=>⟨x.b,rfl,h.2 x hx⟩⟩
theorem own_otherS {w w':World} {base g size n:Nat} {e e':TypeId} {v:Value} {L:List Value} {cs:Array Value} (h:w.ownsRow base e size v n L) (hF:w.heap[g]?=some (.cells cs e' (0,0))) (hT:e≠e') (hk:∀ k,k≠g→w'.heap[k]?=w.heap[k]?):w'.ownsRow base e size v n L:=by
 refine⟨h.1,?_⟩
 rcases h.2 with h1 | ⟨q,cap,cur,h1,h2,h3,h4⟩
 ·exact .inl h1
 ·refine .inr ⟨q,cap,cur,h1,h2,?_,h4⟩
  have hne:q≠g:=by
   intro e
   rw [e,hF] at h3
   simp only [Option.some.injEq,Obj.cells.injEq] at h3
   exact hT h3.2.1.symm
  rw [hk q hne,h3]
theorem Bys.set {w:World} {base g:Nat} {x:FrL} {cs:Array Value} (h:Bys w base x) (hF:w.heap[g]?=some (.cells cs 5 (0,0))) (k:Nat) (y:UInt8):Bys (w.setCell ⟨g,k,none⟩ (.int .u8 (y.toNat:Int))) base x:=by
 obtain⟨b',hl,h1,h2⟩:=h
 rcases h2 with h2 | ⟨q,cap,cur,h2,h3,h4,h5,h6,h7,h8⟩
 ·exact⟨b',hl,h1,.inl h2⟩
 ·by_cases hq:q=g
  ·subst hq
   rw [h4] at hF
   simp only [Option.some.injEq,Obj.cells.injEq] at hF
   obtain⟨rfl,-,-⟩:=hF
   refine⟨b'.set k y,by rw [List.length_set];exact hl,by rw [u8s_len,List.length_set,hl,Nat.mul_one],.inr ⟨q,cap,_,h2,h3,heap_setCell_same _ _ _ _ _ _ h4,h5,h6,by simpa using h7,?_⟩⟩
   rw [Array.toList_setIfInBounds,List.take_set,h8]
   simp [u8s]
  ·exact⟨b',hl,h1,.inr ⟨q,cap,cur,h2,h3,(heap_setCell_other _ _ _ _ hq).trans h4,h5,h6,h7,h8⟩⟩
theorem WF.set {w:World} {base c g:Nat} {A:Option Addr} {L:List FrL} {cs:Array Value} (h:WF w base A c L) (hF:w.heap[g]?=some (.cells cs 5 (0,0))) (k:Nat) (y:UInt8):WF (w.setCell ⟨g,k,none⟩ (.int .u8 (y.toNat:Int))) base A c L:=
 ⟨own_otherS h.1 hF (by decide) (fun k hk=>heap_setCell_other _ _ _ _ hk),fun x hx=>(h.2 x hx).set hF k y⟩
theorem WF.head {w:World} {base c:Nat} {A:Option Addr} {L:List FrL} (h:WF w base A c L) (hl:0 < L.length):∃ b off,A=some ⟨b,off,none⟩∧∀ j (hj:j < L.length),w.cell? ⟨b,off+j,none⟩=some (.slice L[j].A L[j].b.length L[j].c):=by
 obtain⟨b,off,e,-,hc⟩:=(RD.of_own h.1).2 hl
 refine⟨b,off,e,fun j hj=>hc j _ ?_⟩
 simp [frs,hj,FrL.cell]
theorem Bys.byte {w:World} {base k:Nat} {x:FrL} (h:Bys w base x) (hk:k < x.b.length):∃ g cs y,x.A=some ⟨g,0,none⟩∧base≤g∧w.heap[g]?=some (.cells cs 5 (0,0))∧w.cell? ⟨g,k,none⟩=some (.int .u8 ((y:UInt8).toNat:Int))∧w.frozen? ⟨g,k,none⟩=false:=by
 obtain⟨b',hl,h1,h2⟩:=h
 rcases h2 with⟨h2,h3⟩ | ⟨q,cap,cur,h2,h3,h4,h5,h6,h7,h8⟩
 ·omega
 ·simp only [Value.slice.injEq] at h2
  have hb:k < b'.length:=by omega
  refine⟨q,cur,b'[k],h2.1,h3,h4,?_,frozen_of_row w q k _ _ h4⟩
  rw [cell_of_row _ _ _ _ _ _ h4,←Array.getElem?_toList]
  have h9:(cur.toList.take (x.b.length * 1))[k]?=some (.int .u8 (b'[k].toNat:Int)):=by rw [h8];simp [u8s,hb]
  rwa [List.getElem?_take,if_pos (by omega)] at h9
/-- Nothing but blocks between two is touched. -/
def Only (B T:Nat) (w w':World):Prop:=Below B w w'∧w'.heap.size=w.heap.size∧∀ k,T≤k→w'.heap[k]?=w.heap[k]?
theorem Only.refl (B T:Nat) (w:World):Only B T w w:=⟨Below.refl _ _,rfl,fun _ _=>rfl⟩
theorem Only.set {B T g:Nat} {w w':World} (h:Only B T w w') (hB:B≤g) (hT:g < T) (off:Nat) (v:Value):Only B T w (w'.setCell ⟨g,off,none⟩ v):=
 ⟨h.1.setCell hB v,by rw [←h.2.1];simp [World.setCell],fun k hk=>(heap_setCell_other _ _ _ _ (by simp only;omega)).trans (h.2.2 k hk)⟩
theorem own_up {w w':World} {B T base size n:Nat} {e:TypeId} {v:Value} {L:List Value} (h:w.ownsRow base e size v n L) (ho:Only B T w w') (hT:T≤base):w'.ownsRow base e size v n L:=by
 refine⟨h.1,?_⟩
 rcases h.2 with h1 | ⟨q,cap,cur,h1,h2,h3,h4⟩
 ·exact .inl h1
 ·exact .inr ⟨q,cap,cur,h1,h2,(ho.2.2 q (Nat.le_trans hT h2)).trans h3,h4⟩
theorem OF.up {w w':World} {B T base c:Nat} {A:Option Addr} {L:List FrL} (h:OF w base A c L) (ho:Only B T w w') (hT:T≤base):OF w' base A c L:=⟨own_up h.1 ho hT,fun x hx=>own_up (h.2 x hx) ho hT⟩
def TopF (T:Nat) (L:List FrL):Prop:=∀ x∈L,∀ q,x.A=some q→q.block < T
theorem OF.top {w:World} {base c:Nat} {A:Option Addr} {L:List FrL} (h:OF w base A c L):TopF w.heap.size L:=fun x hx q hq=>by
 rcases (h.2 x hx).2 with⟨h1,-⟩ | ⟨k,cap,cur,h1,h2,h3,-⟩
 ·simp only [Value.slice.injEq] at h1
  rw [h1.1] at hq
  cases hq
 ·simp only [Value.slice.injEq] at h1
  rw [h1.1] at hq
  cases hq
  exact (Array.getElem?_eq_some_iff.1 h3).1
/-- Frames stay frames. -/
def KeepB (w w':World):Prop:=∀ base x,Bys w base x→Bys w' base x
theorem KeepB.set {w w':World} {g:Nat} {cs:Array Value} (h:KeepB w w') (hF:w'.heap[g]?=some (.cells cs 5 (0,0))) (k:Nat) (y:UInt8):KeepB w (w'.setCell ⟨g,k,none⟩ (.int .u8 (y.toNat:Int))):=fun base x hx=>(h base x hx).set hF k y
theorem lspoil (A:Option Addr) (n c base T:Nat) (L:List FrL) (w:World) (h:WF w base A c L) (hn:L.length=n) (hn9:n≤1000000) (hl:∀ x∈L,x.b.length≤1000000) (hT:TopF T L):
 Calls Tryz.prog 18 #[.slice A n c] w fun e w'=>e= .returned (.tuple #[])∧Only base T w w'∧KeepB w w':=by
 have HW:=hide h
 have Hn:=hide hn
 have Hl:=hide hl
 have HT:=hide hT
 clear h hn hl hT
 go_enter Tryz.func18,Tryz.ntmps18
 go_wp2_with fail
 go_loopw [2] (fun i wr=>∃ j:Nat,j≤n∧i= .int .i64 (j:Int)∧Hid (WF wr base A c L)∧Hid (Only base T w wr)∧Hid (KeepB w wr)) (fun i _=>n - (intOf i).toNat)
 case atStart=>exact⟨0,by omega,rfl,HW,hide (Only.refl _ _ _),hide (fun _ _ h=>h)⟩
 case round=>
  obtain⟨j,hj,rfl,HWj,HOj,HKj⟩:=hrel
  by_cases hlt:j < n
  ·have hltL:j < L.length:=by rw [Hn.out];exact hlt
   have z0:(j:Int) < n:=by omega
   have zj:(0:Int)≤j:=by omega
   obtain⟨x,hx⟩:∃ x,L[j]=x:=⟨_,rfl⟩
   have hxm:x∈L:=by rw [←hx];exact List.getElem_mem hltL
   have hx6:=Hl.out x hxm
   have Hx:=hide hx
   have Hxm:=hide hxm
   clear hx hxm HW
   go_wp2_with fail
   go_loopw [3] (fun i wr=>∃ k:Nat,k≤x.b.length∧i= .int .i64 (k:Int)∧Hid (WF wr base A c L)∧Hid (Only base T w wr)∧Hid (KeepB w wr)) (fun i _=>x.b.length - (intOf i).toNat)
   case atStart=>exact⟨0,by omega,rfl,HWj,HOj,HKj⟩
   case round=>
    obtain⟨k,hk,rfl,HWk,HOk,HKk⟩:=hrel
    clear HWj HOj HKj
    obtain⟨bb,bo,rfl,hC⟩:=HWk.out.head (by omega)
    have d0:=hC j hltL
    rw [Hx.out] at d0
    clear hC
    by_cases hlk:k < x.b.length
    ·obtain⟨g2,cs,y,hA2,hg2,hF2,e0,e1⟩:=(HWk.out.2 x Hxm.out).byte hlk
     have z1:(k:Int) < x.b.length:=by omega
     have zk:(0:Int)≤k:=by omega
     rw [hA2] at d0
     have hyy:(y.toNat:Int) < 256:=by have:=y.toNat_lt;omega
     obtain⟨y2,hy2⟩:∃ y2:UInt8,IntKind.u8.wrap ((y.toNat:Int)+1)=(y2.toNat:Int):=by
      refine⟨y+1,?_⟩
      simp [IntKind.wrap,IntKind.signed,IntKind.bits,UInt8.toNat_add]
     have hgT:=HT.out x Hxm.out _ hA2
     have HWn:=hide (HWk.out.set hF2 k y2)
     have HKn:=hide (HKk.out.set hF2 k y2)
     have HOn:=hide (HOk.out.set hg2 hgT k (.int .u8 (y2.toNat:Int)))
     obtain⟨yz,hyz⟩:∃ q:Int,(y.toNat:Int)=q:=⟨_,rfl⟩
     rw [hyz] at e0 hyy hy2
     have hy0:0≤yz:=by omega
     obtain⟨xl,hxl⟩:∃ q,x.b.length=q:=⟨_,rfl⟩
     have Hxl:=hide hxl
     rw [hxl] at d0 hlk hk z1 hx6 ⊢
     clear hF2 hA2 hg2 hgT hyz hxl
     go_wp2_with fail
     go_roundw
     case rel=>exact⟨k+1,by omega,by go_num,HWn,HOn,HKn⟩
     case measure=>simp [intOf];omega
    ·obtain rfl:k=x.b.length:=by omega
     have z1:¬ (x.b.length:Int) < x.b.length:=by omega
     go_wp2_with fail
     go_roundw
     case rel=>exact⟨j+1,by omega,by go_num,HWk,HOk,HKk⟩
     case measure=>simp [intOf];omega
  ·obtain rfl:j=n:=by omega
   have z0:¬ (j:Int) < j:=by omega
   go_wp2_with fail
   exact bodyPost_end (v:= .tuple #[]) (by simp [results,Tryz.results18,go_sem]) rfl ⟨rfl,HOj.out,HKj.out⟩
end Go.Proofs.YtmkpfdcnikgokaaGreat
