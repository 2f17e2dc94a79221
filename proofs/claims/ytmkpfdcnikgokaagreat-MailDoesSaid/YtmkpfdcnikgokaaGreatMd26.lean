/-
  Texts of this claim, put together: MailPut. What each theorem asks stands in its statement.
-/
import Derived.Test.YtmkpfdcnikgokaaGreatMd17
import Derived.Test.YtmkpfdcnikgokaaGreatMd20
import Derived.Test.YtmkpfdcnikgokaaGreatMd25
set_option linter.unusedVariables false
set_option linter.unusedSimpArgs false
set_option maxRecDepth 100000
set_option maxHeartbeats 25600000
namespace Go.Proofs.YtmkpfdcnikgokaaGreat
open Go.RowKit
def Xf (l:List UInt8):Int:=if l.length<=16384 then 0 else 4
def wrV (l:List UInt8):List UInt8:=if l.length<=16384 then Jf l else []
def Lu (w w':World) (e:Ending) (l:List UInt8):Prop:=∃ (A:Option Addr) (c:Nat) (q:List UInt8),e= .returned (.tuple #[.slice A (List.length (α:=UInt8) q) c,.int .i64 (Xf l)])/\q=wrV l/\w'.ownsRow w.heap.size 5 1 (.slice A q.length c) q.length (Cw q)/\Below w.heap.size w w'
theorem Hj (A:Option Addr) (n c:Nat) (l:List UInt8) (w:World) (hr:RB w w.heap.size A l) (hn:l.length=n):
 Calls Tryz.prog 52 #[.slice A n c] w fun e w'=>Lu w w' e l:=by
 subst hn;by_cases h:l.length<=16384
 ·refine (Acc A c l w hr h).mono ?_;rintro e w' ⟨v,rfl,ho,hb⟩;obtain⟨A',c',rfl,-,-,-⟩:=Ao ho;exact⟨A',c',Jf l,by rw [Xf,if_pos h],by rw [wrV,if_pos h],ho,hb⟩
 ·refine (Ya A c l w (by omega)).mono ?_;rintro e w' ⟨rfl,rfl⟩;exact⟨none,0, [],by rw [Xf,if_neg h];rfl,by rw [wrV,if_neg h],World.ownsRow_nil _ _ _ _,Below.refl _ _⟩
def J2 (O:List Lg):List UInt8:=Ap [(O.length:Int)]++O.flatMap Rx
def L8 (x:WP):List UInt8:=Ap (H7 x)
def Bi (m:MP):List UInt8:=
 if m.k=2 then Ap [m.k]++Ap (Az m.I)
 else if m.k=3 then Ap [m.k]++Ap (Az m.I)++Ap [(m.W.length:Int)]++m.W.flatMap L8
 else if m.k=5 then Ap [m.k]++Ap [m.t,m.r]++Ap (Az m.I)
 else if m.k=6 then Ap [m.k]++Ap [m.t,m.r,m.ix]++J2 m.O
 else Ap [m.k]++J2 m.O
theorem K5 {m:MP} (h:B8 m) (hk:m.k=1\/m.k=4):Dp m.O 64:=by
 rcases h.1 with⟨-,h⟩ | ⟨h,-⟩ | ⟨h,-⟩ | ⟨h,-⟩ | ⟨h,-⟩
 ·exact h
 all_goals omega
theorem Io {m:MP} (h:B8 m) (hk:m.k=2\/m.k=3\/m.k=5):D9 m.I:=by
 rcases h.1 with⟨h,-⟩ | ⟨-,h⟩ | ⟨-,h,-⟩ | ⟨-,-,h⟩ | ⟨h,-⟩
 ·omega
 ·exact h
 ·exact h
 ·exact h
 ·omega
theorem Kf {m:MP} (h:B8 m) (hk:m.k=3):Cy m.W:=by
 rcases h.1 with⟨h,-⟩ | ⟨h,-⟩ | ⟨-,-,h⟩ | ⟨h,-⟩ | ⟨h,-⟩
 ·omega
 ·omega
 ·exact h
 ·omega
 ·omega
theorem Le {m:MP} (h:B8 m) (hk:m.k=6):0<=m.ix/\m.ix < 128/\Dp m.O 8:=by
 rcases h.1 with⟨h,-⟩ | ⟨h,-⟩ | ⟨h,-⟩ | ⟨h,-⟩ | ⟨-,-,h⟩
 ·omega
 ·omega
 ·omega
 ·omega
 ·exact h
theorem Jv:∀ (l:List Qm) (p:Option (Int×Int)),De p l->∀ x∈l,Gr x
 | x :: l,none,h,y,hy=>by
   rcases List.mem_cons.1 hy with rfl | hy
   ·exact h.1
   ·exact Jv l _ h.2 y hy
 | x :: l,some p,h,y,hy=>by
   rcases List.mem_cons.1 hy with rfl | hy
   ·exact h.1
   ·exact Jv l _ h.2.2 y hy
theorem I7 {E:List WP} (h:Cy E):E.length<=65/\∀ x∈E,Dj x.H/\Dj x.S/\x.G.length<=128:=by
 refine⟨by have:=h.1.1;rwa [List.length_map] at this,fun x hx=>⟨(h.2 x hx).1,?_⟩⟩;obtain⟨-,h2⟩:=Jv _ _ h.1.2 x.en (List.mem_map_of_mem hx);change (if x.kn=true then x.rd=false/\Dj x.S/\I0 x.S<=1024/\(x.G.length:Int)=(I0 x.S+7) / 8 else x.S.length=0/\x.G.length=0) at h2;split at h2
 ·exact⟨h2.2.1,by have:=h2.2.2.1;have:=h2.2.2.2;omega⟩
 ·refine⟨?_,by omega⟩;rw [List.length_eq_zero_iff.1 h2.1];trivial
theorem Z2 {x:WP} (ht:0<=x.t/\x.t<=1099511627776) (hr:0<=x.r/\x.r<=1099511627776) (hh:Dj x.H) (hs:Dj x.S) (hg:x.G.length<=128):(L8 x).length<=210000:=by
 have e:L8 x=Ap [x.t,x.r,U8 x.rd x.kn]++Ap (Az x.H)++Ap (Az x.S)++Ap (Ff x.G):=by
  unfold L8 H7;simp only [Au]
 rw [e];have h0:=O4 x.rd x.kn;have h1:=Bu (Kd ht hr ⟨h0.1,by omega⟩:∀ z∈ [x.t,x.r,U8 x.rd x.kn],0<=z/\z<=1099511627776);have h2:=Gx hh;have h3:=Gx hs
 have h4:(Ap (Ff x.G)).length<=6 * (Ff x.G).length:=Bu (fun z hz=>by
  simp only [Ff,List.mem_cons,List.mem_map] at hz
  rcases hz with rfl | ⟨b,-,rfl⟩
  ·omega
  ·have:=Ln b;omega)
 have h5:(Ff x.G).length=x.G.length+1:=by simp [Ff]
 simp only [List.length_append];simp only [List.length_cons,List.length_nil] at h1;omega
theorem MB.belowB {w w':World} {B g:Nat} {a b c d e f h:Value} (hF:MB w g a b c d e f h) (hb:Below B w w') (hg:g < B):MB w' g a b c d e f h:=(hb.block g hg).trans hF
theorem M9 (w:World):∃ q,w.alloc (.cells #[.slice none 0 0] 84)=q/\PN q w.heap.size w.heap.size []/\Below w.heap.size w q/\q.heap.size=w.heap.size+1:=
 ⟨_,rfl,⟨none,0,heap_alloc_new _ _,World.ownsRow_nil _ _ _ _,Nat.le_refl _⟩,Bf _ _,by simp⟩
theorem Abf (x:Av) (w:World) (hx:RM w w.heap.size x) (ox:Gm x) (hm:¬ B8 x.mp):
 Calls Tryz.prog 21 #[x.val] w fun e w'=>e= .returned (.tuple #[.slice none 0 0,.int .i64 8])/\Below w.heap.size w w':=by
 obtain⟨k,t,r,ix,iA,ic,i,oA,oc,o,sA,sc,s⟩:=x;obtain⟨w1,au,F1,af,ac⟩:=Am w (.int .u8 k) (.int .u32 t) (.int .u8 r) (.int .i64 ix) (.slice iA i.length ic) (.slice oA o.length oc) (.slice sA s.length sc);obtain⟨y0,y1,y2,y3,y4,y5,y6⟩:=F1.cells;have HC:=Aa (Cb ⟨k,t,r,ix,iA,ic,i,oA,oc,o,sA,sc,s⟩ w1 ((hx.below ac).more ac.size) ox);rw [show Fc (Av.mp ⟨k,t,r,ix,iA,ic,i,oA,oc,o,sA,sc,s⟩)=8 from if_neg hm] at HC;have dn:=Aa au;have HB:=Aa ac;clear hx ox hm F1 au ac af;show Calls Tryz.prog 21 #[Ci k t r ix (.slice iA i.length ic) (.slice oA o.length oc) (.slice sA s.length sc)] w _;go_enter Tryz.func21,Tryz.ntmps21;go_wp2_with fail;rw [dn.out];refine HC.out.mono ?_;rintro e w2 ⟨rfl,ae⟩;have al:=Ad HB.out ae;clear y0 y1 y2 y3 y4 y5 y6;go_wp2_with fail;refine bodyPost_ret (v:= .tuple #[.slice none 0 0,.int .i64 8]) (by simp [results,Tryz.results21,go_sem]) rfl ⟨rfl,al⟩
theorem Abh (t r ix:Int) (iA oA sA:Option Addr) (ic oc sc:Nat) (i:List Aq) (o:List Bj) (s:List Ay) (w:World) (hx:RM w w.heap.size ⟨2,t,r,ix,iA,ic,i,oA,oc,o,sA,sc,s⟩) (ox:Gm ⟨2,t,r,ix,iA,ic,i,oA,oc,o,sA,sc,s⟩) (hm:B8 (Av.mp ⟨2,t,r,ix,iA,ic,i,oA,oc,o,sA,sc,s⟩)):
 Calls Tryz.prog 21 #[Av.val ⟨2,t,r,ix,iA,ic,i,oA,oc,o,sA,sc,s⟩] w fun e w'=>Lu w w' e (Bi (Av.mp ⟨2,t,r,ix,iA,ic,i,oA,oc,o,sA,sc,s⟩)):=by
 obtain⟨w1,au,F1,af,ac⟩:=Am w (.int .u8 2) (.int .u32 t) (.int .u8 r) (.int .i64 ix) (.slice iA i.length ic) (.slice oA o.length oc) (.slice sA s.length sc);obtain⟨gx,an⟩:∃ q,q=w.heap.size:=⟨_,rfl⟩;have av:=Aa an;rw [<-an] at F1;obtain⟨y0,y1,y2,y3,y4,y5,y6⟩:=F1.cells;have az:=Aa F1;have HC:=Aa (Cb ⟨2,t,r,ix,iA,ic,i,oA,oc,o,sA,sc,s⟩ w1 ((hx.below ac).more ac.size) ox);rw [show Fc (Av.mp ⟨2,t,r,ix,iA,ic,i,oA,oc,o,sA,sc,s⟩)=0 from if_pos hm] at HC;obtain⟨⟨q1,q2,q3,q4⟩,⟨ki,ko,ks⟩,-⟩:=ox;simp only at q1 q2 q3 q4 ki ko ks;have AP:=Aa ki;have AO:=Aa ko;have FA:=Aa ks;have Hx:=Aa hx;have vw:=Aa (Io hm (by simp [Av.mp])).1;simp only [Av.mp] at vw;have dn:=Aa au;have eu:=Aa ac;obtain⟨BB,jq⟩:∃ q,q=Bi (Av.mp ⟨2,t,r,ix,iA,ic,i,oA,oc,o,sA,sc,s⟩):=⟨_,rfl⟩;have uz:=Aa jq;rw [<-jq];clear hx hm F1 au ac af ki ko ks jq an;show Calls Tryz.prog 21 #[Ci 2 t r ix (.slice iA i.length ic) (.slice oA o.length oc) (.slice sA s.length sc)] w _;go_enter Tryz.func21,Tryz.ntmps21;go_wp2_with fail;rw [dn.out,<-av.out];refine HC.out.mono ?_;rintro e w2 ⟨rfl,ae⟩;have cd:gx < w2.heap.size:=by
  have h1:=ae.size;have h2:w1.heap.size=gx+1:=by rw [<-dn.out,World.size_alloc,av.out]
  omega
 obtain⟨w3,b8,P3,ag,fo⟩:=M9 w2;obtain⟨g,hg⟩:∃ q,q=w2.heap.size:=⟨_,rfl⟩;have Hg:=Aa hg;rw [<-hg] at P3 fo cd;have DE:=Aa fo.symm;have qj:=Aa P3;have bz:=Aa ((az.out.below ae).below ag);have dk:=Aa (Ad (Ad eu.out ae) ag);have ID:=Aa ((Hx.out.below dk.out).more (show w.heap.size<=g by rw [<-av.out];omega));have so:w.heap.size<=g:=by rw [<-av.out];omega
 clear P3 fo ae ag hg az eu Hx HC y0 y1 y2 y3 y4 y5 y6;obtain⟨y0,y1,y2,y3,y4,y5,y6⟩:=bz.out.cells;go_wp2_with fail;rw [<-Hg.out];clear b8;refine (B6 g g 1 _ [] [2] _ rfl w3 rfl qj.out (Ch ⟨by decide,by decide⟩) (by decide)).mono ?_;rintro e w4 ⟨rfl,pw,aw,th⟩;rw [List.nil_append] at pw;have qx:=Aa pw;have ca:=Aa (bz.out.belowB aw cd);have ed:=Aa (dk.out.trans (aw.mono so));have wn:=Aa aw;have uc:=Aa (show (Ap [(2:Int)]).length<=6 from Bu (Ch ⟨by decide,by decide⟩));clear pw aw th qj dk bz y0 y1 y2 y3 y4 y5 y6;obtain⟨y0,y1,y2,y3,y4,y5,y6⟩:=ca.out.cells;go_wp2_with fail;refine (Ke g g (Ap [(2:Int)]) iA i.length ic i w4 qx.out (ID.out.1.below wn.out) rfl AP.out vw.out (by have:=uc.out;omega)).mono ?_;rintro e w5 ⟨rfl,hp,hb,hk⟩
 have EX:=Aa (show (Ap [(2:Int)]++Ap (Az (i.map Aq.pt))).length<=100006 by
  rw [List.length_append]
  have:=Gx vw.out
  have:=uc.out
  omega)
 have uy:=Aa hp;have cl:=Aa (ca.out.belowB hb cd);have ja:=Aa (ed.out.trans (hb.mono so));have GG:=Aa (wn.out.trans hb);clear hp hb hk qx ed ca wn y0 y1 y2 y3 y4 y5 y6;obtain⟨y0,y1,y2,y3,y4,y5,y6⟩:=cl.out.cells;obtain⟨A9,c9,iy,nd,-⟩:=uy.out;have d9:=iy.cell;have ld:=Aa (RD.of_own nd);obtain⟨pl,nc⟩:∃ q,q=List.length (Ap [(2:Int)]++Ap (Az (i.map Aq.pt))):=⟨_,rfl⟩;rw [<-nc] at d9;have ls:=Aa nc.symm;clear iy nd nc;go_wp2_with fail;refine (Hj A9 pl c9 _ w5 ld.out ls.out).mono ?_;rintro e lk ⟨va,wh,y8,rfl,ju,dt,fx⟩;have HQ:=Aa (And.intro ju dt);have ch:=Ad ja.out fx;have ay:=ja.out.size;clear ju dt fx y0 y1 y2 y3 y4 y5 y6 d9;go_wp2_with fail;refine bodyPost_ret (v:= .tuple #[.slice va y8.length wh,.int .i64 (Xf (Ap [(2:Int)]++Ap (Az (i.map Aq.pt))))]) (by simp [results,Tryz.results21,go_sem]) rfl ?_;have e9:BB=Ap [(2:Int)]++Ap (Az (i.map Aq.pt)):=by
  rw [uz.out];rfl
 rw [e9];exact⟨va,wh,y8,rfl,HQ.out.1,Bq HQ.out.2 ay,ch⟩
theorem Qi (t r ix:Int) (iA oA sA:Option Addr) (ic oc sc:Nat) (i:List Aq) (o:List Bj) (s:List Ay) (w:World) (hx:RM w w.heap.size ⟨5,t,r,ix,iA,ic,i,oA,oc,o,sA,sc,s⟩) (ox:Gm ⟨5,t,r,ix,iA,ic,i,oA,oc,o,sA,sc,s⟩) (hm:B8 (Av.mp ⟨5,t,r,ix,iA,ic,i,oA,oc,o,sA,sc,s⟩)):
 Calls Tryz.prog 21 #[Av.val ⟨5,t,r,ix,iA,ic,i,oA,oc,o,sA,sc,s⟩] w fun e w'=>Lu w w' e (Bi (Av.mp ⟨5,t,r,ix,iA,ic,i,oA,oc,o,sA,sc,s⟩)):=by
 obtain⟨w1,au,F1,af,ac⟩:=Am w (.int .u8 5) (.int .u32 t) (.int .u8 r) (.int .i64 ix) (.slice iA i.length ic) (.slice oA o.length oc) (.slice sA s.length sc);obtain⟨gx,an⟩:∃ q,q=w.heap.size:=⟨_,rfl⟩;have av:=Aa an;rw [<-an] at F1;obtain⟨y0,y1,y2,y3,y4,y5,y6⟩:=F1.cells;have az:=Aa F1;have HC:=Aa (Cb ⟨5,t,r,ix,iA,ic,i,oA,oc,o,sA,sc,s⟩ w1 ((hx.below ac).more ac.size) ox);rw [show Fc (Av.mp ⟨5,t,r,ix,iA,ic,i,oA,oc,o,sA,sc,s⟩)=0 from if_pos hm] at HC;obtain⟨⟨q1,q2,q3,q4⟩,⟨ki,ko,ks⟩,-⟩:=ox;simp only at q1 q2 q3 q4 ki ko ks;have AP:=Aa ki;have AO:=Aa ko;have FA:=Aa ks;have Hx:=Aa hx;have vw:=Aa (Io hm (by simp [Av.mp])).1;simp only [Av.mp] at vw;have dn:=Aa au;have eu:=Aa ac;obtain⟨BB,jq⟩:∃ q,q=Bi (Av.mp ⟨5,t,r,ix,iA,ic,i,oA,oc,o,sA,sc,s⟩):=⟨_,rfl⟩;have uz:=Aa jq;rw [<-jq];clear hx hm F1 au ac af ki ko ks jq an;show Calls Tryz.prog 21 #[Ci 5 t r ix (.slice iA i.length ic) (.slice oA o.length oc) (.slice sA s.length sc)] w _;go_enter Tryz.func21,Tryz.ntmps21;go_wp2_with fail;rw [dn.out,<-av.out];refine HC.out.mono ?_;rintro e w2 ⟨rfl,ae⟩;have cd:gx < w2.heap.size:=by
  have h1:=ae.size;have h2:w1.heap.size=gx+1:=by rw [<-dn.out,World.size_alloc,av.out]
  omega
 obtain⟨w3,b8,P3,ag,fo⟩:=M9 w2;obtain⟨g,hg⟩:∃ q,q=w2.heap.size:=⟨_,rfl⟩;have Hg:=Aa hg;rw [<-hg] at P3 fo cd;have DE:=Aa fo.symm;have qj:=Aa P3;have bz:=Aa ((az.out.below ae).below ag);have dk:=Aa (Ad (Ad eu.out ae) ag);have ID:=Aa ((Hx.out.below dk.out).more (show w.heap.size<=g by rw [<-av.out];omega));have so:w.heap.size<=g:=by rw [<-av.out];omega
 clear P3 fo ae ag hg az eu Hx HC y0 y1 y2 y3 y4 y5 y6;obtain⟨y0,y1,y2,y3,y4,y5,y6⟩:=bz.out.cells;go_wp2_with fail;rw [<-Hg.out];clear b8;refine (B6 g g 1 _ [] [5] _ rfl w3 rfl qj.out (Ch ⟨by decide,by decide⟩) (by decide)).mono ?_;rintro e w4 ⟨rfl,pw,aw,th⟩;rw [List.nil_append] at pw;have qx:=Aa pw;have ca:=Aa (bz.out.belowB aw cd);have ed:=Aa (dk.out.trans (aw.mono so));have wn:=Aa aw;have uc:=Aa (show (Ap [(5:Int)]).length<=6 from Bu (Ch ⟨by decide,by decide⟩));clear pw aw th qj dk bz y0 y1 y2 y3 y4 y5 y6;obtain⟨y0,y1,y2,y3,y4,y5,y6⟩:=ca.out.cells;go_wp2_with fail;refine (B6 g g 2 _ (Ap [(5:Int)]) [t,r] _ rfl w4 rfl qx.out (fun z hz=>by simp only [List.mem_cons,List.not_mem_nil,or_false] at hz;omega) (by have:=uc.out;simp only [List.length_cons,List.length_nil] at *;omega)).mono ?_;rintro e w5 ⟨rfl,hp,hb,hk⟩
 have EX:=Aa (show (Ap [(5:Int)]++Ap [t,r]).length<=18 by
  have:=K9 (show ∀ z∈ [t,r],0<=z/\z<=1099511627776 from fun z hz=>by simp only [List.mem_cons,List.not_mem_nil,or_false] at hz;omega) uc.out
  simp only [List.length_cons,List.length_nil] at this
  omega)
 have uy:=Aa hp;have cl:=Aa (ca.out.belowB hb cd);have ja:=Aa (ed.out.trans (hb.mono so));have GG:=Aa (wn.out.trans hb);clear hp hb hk qx ed ca wn y0 y1 y2 y3 y4 y5 y6;obtain⟨y0,y1,y2,y3,y4,y5,y6⟩:=cl.out.cells;go_wp2_with fail;refine (Ke g g (Ap [(5:Int)]++Ap [t,r]) iA i.length ic i w5 uy.out (ID.out.1.below GG.out) rfl AP.out vw.out (by have:=EX.out;omega)).mono ?_;rintro e w6 ⟨rfl,hp,hb,hk⟩
 have BV:=Aa (show (Ap [(5:Int)]++Ap [t,r]++Ap (Az (i.map Aq.pt))).length<=100018 by
  rw [List.length_append]
  have:=Gx vw.out
  have:=EX.out
  omega)
 have ux:=Aa hp;have bj:=Aa (cl.out.belowB hb cd);have dx:=Aa (ja.out.trans (hb.mono so));have GF:=Aa (GG.out.trans hb);clear hp hb hk uy ja cl GG y0 y1 y2 y3 y4 y5 y6;obtain⟨y0,y1,y2,y3,y4,y5,y6⟩:=bj.out.cells;obtain⟨A9,c9,iy,nd,-⟩:=ux.out;have d9:=iy.cell;have ld:=Aa (RD.of_own nd);obtain⟨pl,nc⟩:∃ q,q=List.length (Ap [(5:Int)]++Ap [t,r]++Ap (Az (i.map Aq.pt))):=⟨_,rfl⟩;rw [<-nc] at d9;have ls:=Aa nc.symm;clear iy nd nc;go_wp2_with fail;refine (Hj A9 pl c9 _ w6 ld.out ls.out).mono ?_;rintro e lk ⟨va,wh,y8,rfl,ju,dt,fx⟩;have HQ:=Aa (And.intro ju dt);have ch:=Ad dx.out fx;have ay:=dx.out.size;clear ju dt fx y0 y1 y2 y3 y4 y5 y6 d9;go_wp2_with fail;refine bodyPost_ret (v:= .tuple #[.slice va y8.length wh,.int .i64 (Xf (Ap [(5:Int)]++Ap [t,r]++Ap (Az (i.map Aq.pt))))]) (by simp [results,Tryz.results21,go_sem]) rfl ?_;have e9:BB=Ap [(5:Int)]++Ap [t,r]++Ap (Az (i.map Aq.pt)):=by
  rw [uz.out];rfl
 rw [e9];exact⟨va,wh,y8,rfl,HQ.out.1,Bq HQ.out.2 ay,ch⟩
theorem Acz (t r ix:Int) (iA oA sA:Option Addr) (ic oc sc:Nat) (i:List Aq) (o:List Bj) (s:List Ay) (w:World) (hx:RM w w.heap.size ⟨1,t,r,ix,iA,ic,i,oA,oc,o,sA,sc,s⟩) (ox:Gm ⟨1,t,r,ix,iA,ic,i,oA,oc,o,sA,sc,s⟩) (hm:B8 (Av.mp ⟨1,t,r,ix,iA,ic,i,oA,oc,o,sA,sc,s⟩)):
 Calls Tryz.prog 21 #[Av.val ⟨1,t,r,ix,iA,ic,i,oA,oc,o,sA,sc,s⟩] w fun e w'=>Lu w w' e (Bi (Av.mp ⟨1,t,r,ix,iA,ic,i,oA,oc,o,sA,sc,s⟩)):=by
 obtain⟨w1,au,F1,af,ac⟩:=Am w (.int .u8 1) (.int .u32 t) (.int .u8 r) (.int .i64 ix) (.slice iA i.length ic) (.slice oA o.length oc) (.slice sA s.length sc);obtain⟨gx,an⟩:∃ q,q=w.heap.size:=⟨_,rfl⟩;have av:=Aa an;rw [<-an] at F1;obtain⟨y0,y1,y2,y3,y4,y5,y6⟩:=F1.cells;have az:=Aa F1;have HC:=Aa (Cb ⟨1,t,r,ix,iA,ic,i,oA,oc,o,sA,sc,s⟩ w1 ((hx.below ac).more ac.size) ox);rw [show Fc (Av.mp ⟨1,t,r,ix,iA,ic,i,oA,oc,o,sA,sc,s⟩)=0 from if_pos hm] at HC;obtain⟨⟨q1,q2,q3,q4⟩,⟨ki,ko,ks⟩,-⟩:=ox;simp only at q1 q2 q3 q4 ki ko ks;have AP:=Aa ki;have AO:=Aa ko;have FA:=Aa ks;have Hx:=Aa hx;have mw:=K5 hm (Or.inl rfl);simp only [Av.mp] at mw;have cp:∀ x∈o,Fa x:=fun x hx=>mw.2.2 _ (List.mem_map_of_mem hx);have sy:=Aa (show o.length<=1024 by have:=mw.2.1;rw [List.length_map] at this;omega);have Hoe:=Aa (show X9 o=0 from if_pos cp);have JX:=Aa (show Vj o=B7 o from if_pos cp)
 have JY:=Aa (show (B7 o).length<=1300000 by
  unfold B7
  rw [List.length_append]
  have h1:=Fj o (fun x hx=>⟨cp x hx,ko x hx⟩)
  have h2:=Bu (Ch ⟨by omega,by have:=sy.out;omega⟩:∀ z∈ [(o.length:Int)],0<=z/\z<=1099511627776)
  have h3:=sy.out
  simp only [List.length_cons,List.length_nil] at h2
  omega)
 have JZ:=Aa (show B7 o=J2 (o.map Bj.op) from La o);clear mw cp;have dn:=Aa au;have eu:=Aa ac;obtain⟨BB,jq⟩:∃ q,q=Bi (Av.mp ⟨1,t,r,ix,iA,ic,i,oA,oc,o,sA,sc,s⟩):=⟨_,rfl⟩;have uz:=Aa jq;rw [<-jq];clear hx hm F1 au ac af ki ko ks jq an;show Calls Tryz.prog 21 #[Ci 1 t r ix (.slice iA i.length ic) (.slice oA o.length oc) (.slice sA s.length sc)] w _;go_enter Tryz.func21,Tryz.ntmps21;go_wp2_with fail;rw [dn.out,<-av.out];refine HC.out.mono ?_;rintro e w2 ⟨rfl,ae⟩;have cd:gx < w2.heap.size:=by
  have h1:=ae.size;have h2:w1.heap.size=gx+1:=by rw [<-dn.out,World.size_alloc,av.out]
  omega
 obtain⟨w3,b8,P3,ag,fo⟩:=M9 w2;obtain⟨g,hg⟩:∃ q,q=w2.heap.size:=⟨_,rfl⟩;have Hg:=Aa hg;rw [<-hg] at P3 fo cd;have DE:=Aa fo.symm;have qj:=Aa P3;have bz:=Aa ((az.out.below ae).below ag);have dk:=Aa (Ad (Ad eu.out ae) ag);have ID:=Aa ((Hx.out.below dk.out).more (show w.heap.size<=g by rw [<-av.out];omega));have so:w.heap.size<=g:=by rw [<-av.out];omega
 clear P3 fo ae ag hg az eu Hx HC y0 y1 y2 y3 y4 y5 y6;obtain⟨y0,y1,y2,y3,y4,y5,y6⟩:=bz.out.cells;go_wp2_with fail;rw [<-Hg.out];clear b8;refine (B6 g g 1 _ [] [1] _ rfl w3 rfl qj.out (Ch ⟨by decide,by decide⟩) (by decide)).mono ?_;rintro e w4 ⟨rfl,pw,aw,th⟩;rw [List.nil_append] at pw;have qx:=Aa pw;have ca:=Aa (bz.out.belowB aw cd);have ed:=Aa (dk.out.trans (aw.mono so));have wn:=Aa aw;have uc:=Aa (show (Ap [(1:Int)]).length<=6 from Bu (Ch ⟨by decide,by decide⟩));clear pw aw th qj dk bz y0 y1 y2 y3 y4 y5 y6;obtain⟨y0,y1,y2,y3,y4,y5,y6⟩:=ca.out.cells;go_wp2_with fail;refine (Pq oA o.length oc o w4 ((ID.out.2.1.below wn.out).more (by have:=qx.out.lt;omega)) rfl sy.out AO.out).mono ?_;rw [Hoe.out,JX.out];rintro e w7 ⟨v7,rfl,mi,bu⟩;obtain⟨A7,c7,rfl,-,-,-⟩:=Ao mi;obtain⟨A5,c5,tl,qf,-⟩:=qx.out.below bu;have RK:=Aa tl;have d1:=tl.cell;have dg:=Aa (ca.out.below bu);have qz:=Aa (Ad ed.out bu);have np:(Ap [(1:Int)]).length+(B7 o).length<=1073741824:=by
  have:=uc.out;have:=JY.out;omega
 have IV:g<=w7.heap.size:=by have:=tl.lt;omega
 obtain⟨q,hq⟩:∃ q,q=Ap [(1:Int)]:=⟨_,rfl⟩;have Hq:=Aa hq;rw [<-hq] at d1 tl qf np RK;obtain⟨i0,cr,cb,cu,cq⟩:=info_parts Dq;obtain⟨pl,nc⟩:∃ z,z=(q++B7 o).length:=⟨_,rfl⟩;have ls:=Aa nc.symm;have ct:=Aa (show gx≠g by omega);have ml:=Aa cd;clear hq tl nc cd y0 y1 y2 y3 y4 y5 y6 qx ed ca;obtain⟨y0,y1,y2,y3,y4,y5,y6⟩:=dg.out.cells;go_wp2_with (at_builtin;refine Ar _ rfl (.tmp 65) (.tmp 66) 23 rfl g 5 i0 (.int .u8 0) 1 1 Tryz.underlying23 cr cb cu cq rfl (by decide) _ _ _ rfl qf w7.heap.size A7 (B7 o).length c7 (Cw (B7 o)) rfl (RD.of_own mi) (Ce _) np (by decide) IV ?_;intro v8 w8 gh dj oo;obtain⟨A8,c8,rfl,-,-,-⟩:=Ao gh;have H8:=Aa (show Ry w8 g A5 q.length c5 from oo g _ RK.out (fun bh e=>by simp at e));have f8:=H8.out.fr;have d8:=H8.out.cell;have dp:=Aa (dg.out.belowB dj ml.out);have lg:=Aa (qz.out.trans (dj.mono so));obtain⟨w9,dq⟩:∃ z,w8.setCell ⟨g,0,none⟩ (.slice A8 (q.length+(B7 o).length) c8)=z:=⟨_,rfl⟩;have FD:Hid (PN w9 g g (q++B7 o)):=Aa ⟨A8,c8,by rw [List.length_append,<-dq];exact H8.out.set,by rw [List.length_append,Bg,<-dq];exact Mo gh H8.out (by decide) 0 _,Nat.le_refl _⟩;have eg:=Aa (show MB w9 gx _ _ _ _ _ _ _ by rw [<-dq];exact dp.out.other ct.out 0 _);have yq:=Aa (show Below w.heap.size w w9 by rw [<-dq];exact lg.out.setCell (by simp only;omega) _);obtain⟨z0,z1,z2,z3,z4,z5,z6⟩:=eg.out.cells;obtain⟨A9,c9,iy,nd,-⟩:=FD.out;have d9:=iy.cell;rw [ls.out] at d9;have ld:=Aa (RD.of_own nd);clear gh dj oo iy nd dp lg dg qz y0 y1 y2 y3 y4 y5 y6 d1);refine (Hj A9 pl c9 _ w9 ld.out ls.out).mono ?_;rintro e lk ⟨va,wh,y8,rfl,ju,dt,fx⟩;have HQ:=Aa (And.intro ju dt);have ch:=Ad yq.out fx;have ay:=yq.out.size;clear ju dt fx z0 z1 z2 z3 z4 z5 z6 d9 dq;go_wp2_with fail;refine bodyPost_ret (v:= .tuple #[.slice va y8.length wh,.int .i64 (Xf (q++B7 o))]) (by simp [results,Tryz.results21,go_sem]) rfl ?_;have e9:BB=q++B7 o:=by
  rw [uz.out,Hq.out,JZ.out];rfl
 rw [e9];exact⟨va,wh,y8,rfl,HQ.out.1,Bq HQ.out.2 ay,ch⟩
theorem Abe (t r ix:Int) (iA oA sA:Option Addr) (ic oc sc:Nat) (i:List Aq) (o:List Bj) (s:List Ay) (w:World) (hx:RM w w.heap.size ⟨4,t,r,ix,iA,ic,i,oA,oc,o,sA,sc,s⟩) (ox:Gm ⟨4,t,r,ix,iA,ic,i,oA,oc,o,sA,sc,s⟩) (hm:B8 (Av.mp ⟨4,t,r,ix,iA,ic,i,oA,oc,o,sA,sc,s⟩)):
 Calls Tryz.prog 21 #[Av.val ⟨4,t,r,ix,iA,ic,i,oA,oc,o,sA,sc,s⟩] w fun e w'=>Lu w w' e (Bi (Av.mp ⟨4,t,r,ix,iA,ic,i,oA,oc,o,sA,sc,s⟩)):=by
 obtain⟨w1,au,F1,af,ac⟩:=Am w (.int .u8 4) (.int .u32 t) (.int .u8 r) (.int .i64 ix) (.slice iA i.length ic) (.slice oA o.length oc) (.slice sA s.length sc);obtain⟨gx,an⟩:∃ q,q=w.heap.size:=⟨_,rfl⟩;have av:=Aa an;rw [<-an] at F1;obtain⟨y0,y1,y2,y3,y4,y5,y6⟩:=F1.cells;have az:=Aa F1;have HC:=Aa (Cb ⟨4,t,r,ix,iA,ic,i,oA,oc,o,sA,sc,s⟩ w1 ((hx.below ac).more ac.size) ox);rw [show Fc (Av.mp ⟨4,t,r,ix,iA,ic,i,oA,oc,o,sA,sc,s⟩)=0 from if_pos hm] at HC;obtain⟨⟨q1,q2,q3,q4⟩,⟨ki,ko,ks⟩,-⟩:=ox;simp only at q1 q2 q3 q4 ki ko ks;have AP:=Aa ki;have AO:=Aa ko;have FA:=Aa ks;have Hx:=Aa hx;have mw:=K5 hm (Or.inr rfl);simp only [Av.mp] at mw;have cp:∀ x∈o,Fa x:=fun x hx=>mw.2.2 _ (List.mem_map_of_mem hx);have sy:=Aa (show o.length<=1024 by have:=mw.2.1;rw [List.length_map] at this;omega);have Hoe:=Aa (show X9 o=0 from if_pos cp);have JX:=Aa (show Vj o=B7 o from if_pos cp)
 have JY:=Aa (show (B7 o).length<=1300000 by
  unfold B7
  rw [List.length_append]
  have h1:=Fj o (fun x hx=>⟨cp x hx,ko x hx⟩)
  have h2:=Bu (Ch ⟨by omega,by have:=sy.out;omega⟩:∀ z∈ [(o.length:Int)],0<=z/\z<=1099511627776)
  have h3:=sy.out
  simp only [List.length_cons,List.length_nil] at h2
  omega)
 have JZ:=Aa (show B7 o=J2 (o.map Bj.op) from La o);clear mw cp;have dn:=Aa au;have eu:=Aa ac;obtain⟨BB,jq⟩:∃ q,q=Bi (Av.mp ⟨4,t,r,ix,iA,ic,i,oA,oc,o,sA,sc,s⟩):=⟨_,rfl⟩;have uz:=Aa jq;rw [<-jq];clear hx hm F1 au ac af ki ko ks jq an;show Calls Tryz.prog 21 #[Ci 4 t r ix (.slice iA i.length ic) (.slice oA o.length oc) (.slice sA s.length sc)] w _;go_enter Tryz.func21,Tryz.ntmps21;go_wp2_with fail;rw [dn.out,<-av.out];refine HC.out.mono ?_;rintro e w2 ⟨rfl,ae⟩;have cd:gx < w2.heap.size:=by
  have h1:=ae.size;have h2:w1.heap.size=gx+1:=by rw [<-dn.out,World.size_alloc,av.out]
  omega
 obtain⟨w3,b8,P3,ag,fo⟩:=M9 w2;obtain⟨g,hg⟩:∃ q,q=w2.heap.size:=⟨_,rfl⟩;have Hg:=Aa hg;rw [<-hg] at P3 fo cd;have DE:=Aa fo.symm;have qj:=Aa P3;have bz:=Aa ((az.out.below ae).below ag);have dk:=Aa (Ad (Ad eu.out ae) ag);have ID:=Aa ((Hx.out.below dk.out).more (show w.heap.size<=g by rw [<-av.out];omega));have so:w.heap.size<=g:=by rw [<-av.out];omega
 clear P3 fo ae ag hg az eu Hx HC y0 y1 y2 y3 y4 y5 y6;obtain⟨y0,y1,y2,y3,y4,y5,y6⟩:=bz.out.cells;go_wp2_with fail;rw [<-Hg.out];clear b8;refine (B6 g g 1 _ [] [4] _ rfl w3 rfl qj.out (Ch ⟨by decide,by decide⟩) (by decide)).mono ?_;rintro e w4 ⟨rfl,pw,aw,th⟩;rw [List.nil_append] at pw;have qx:=Aa pw;have ca:=Aa (bz.out.belowB aw cd);have ed:=Aa (dk.out.trans (aw.mono so));have wn:=Aa aw;have uc:=Aa (show (Ap [(4:Int)]).length<=6 from Bu (Ch ⟨by decide,by decide⟩));clear pw aw th qj dk bz y0 y1 y2 y3 y4 y5 y6;obtain⟨y0,y1,y2,y3,y4,y5,y6⟩:=ca.out.cells;go_wp2_with fail;refine (Pq oA o.length oc o w4 ((ID.out.2.1.below wn.out).more (by have:=qx.out.lt;omega)) rfl sy.out AO.out).mono ?_;rw [Hoe.out,JX.out];rintro e w7 ⟨v7,rfl,mi,bu⟩;obtain⟨A7,c7,rfl,-,-,-⟩:=Ao mi;obtain⟨A5,c5,tl,qf,-⟩:=qx.out.below bu;have RK:=Aa tl;have d1:=tl.cell;have dg:=Aa (ca.out.below bu);have qz:=Aa (Ad ed.out bu);have np:(Ap [(4:Int)]).length+(B7 o).length<=1073741824:=by
  have:=uc.out;have:=JY.out;omega
 have IV:g<=w7.heap.size:=by have:=tl.lt;omega
 obtain⟨q,hq⟩:∃ q,q=Ap [(4:Int)]:=⟨_,rfl⟩;have Hq:=Aa hq;rw [<-hq] at d1 tl qf np RK;obtain⟨i0,cr,cb,cu,cq⟩:=info_parts Dq;obtain⟨pl,nc⟩:∃ z,z=(q++B7 o).length:=⟨_,rfl⟩;have ls:=Aa nc.symm;have ct:=Aa (show gx≠g by omega);have ml:=Aa cd;clear hq tl nc cd y0 y1 y2 y3 y4 y5 y6 qx ed ca;obtain⟨y0,y1,y2,y3,y4,y5,y6⟩:=dg.out.cells;go_wp2_with (at_builtin;refine Ar _ rfl (.tmp 65) (.tmp 66) 23 rfl g 5 i0 (.int .u8 0) 1 1 Tryz.underlying23 cr cb cu cq rfl (by decide) _ _ _ rfl qf w7.heap.size A7 (B7 o).length c7 (Cw (B7 o)) rfl (RD.of_own mi) (Ce _) np (by decide) IV ?_;intro v8 w8 gh dj oo;obtain⟨A8,c8,rfl,-,-,-⟩:=Ao gh;have H8:=Aa (show Ry w8 g A5 q.length c5 from oo g _ RK.out (fun bh e=>by simp at e));have f8:=H8.out.fr;have d8:=H8.out.cell;have dp:=Aa (dg.out.belowB dj ml.out);have lg:=Aa (qz.out.trans (dj.mono so));obtain⟨w9,dq⟩:∃ z,w8.setCell ⟨g,0,none⟩ (.slice A8 (q.length+(B7 o).length) c8)=z:=⟨_,rfl⟩;have FD:Hid (PN w9 g g (q++B7 o)):=Aa ⟨A8,c8,by rw [List.length_append,<-dq];exact H8.out.set,by rw [List.length_append,Bg,<-dq];exact Mo gh H8.out (by decide) 0 _,Nat.le_refl _⟩;have eg:=Aa (show MB w9 gx _ _ _ _ _ _ _ by rw [<-dq];exact dp.out.other ct.out 0 _);have yq:=Aa (show Below w.heap.size w w9 by rw [<-dq];exact lg.out.setCell (by simp only;omega) _);obtain⟨z0,z1,z2,z3,z4,z5,z6⟩:=eg.out.cells;obtain⟨A9,c9,iy,nd,-⟩:=FD.out;have d9:=iy.cell;rw [ls.out] at d9;have ld:=Aa (RD.of_own nd);clear gh dj oo iy nd dp lg dg qz y0 y1 y2 y3 y4 y5 y6 d1);refine (Hj A9 pl c9 _ w9 ld.out ls.out).mono ?_;rintro e lk ⟨va,wh,y8,rfl,ju,dt,fx⟩;have HQ:=Aa (And.intro ju dt);have ch:=Ad yq.out fx;have ay:=yq.out.size;clear ju dt fx z0 z1 z2 z3 z4 z5 z6 d9 dq;go_wp2_with fail;refine bodyPost_ret (v:= .tuple #[.slice va y8.length wh,.int .i64 (Xf (q++B7 o))]) (by simp [results,Tryz.results21,go_sem]) rfl ?_;have e9:BB=q++B7 o:=by
  rw [uz.out,Hq.out,JZ.out];rfl
 rw [e9];exact⟨va,wh,y8,rfl,HQ.out.1,Bq HQ.out.2 ay,ch⟩
theorem Ww (t r ix:Int) (iA oA sA:Option Addr) (ic oc sc:Nat) (i:List Aq) (o:List Bj) (s:List Ay) (w:World) (hx:RM w w.heap.size ⟨6,t,r,ix,iA,ic,i,oA,oc,o,sA,sc,s⟩) (ox:Gm ⟨6,t,r,ix,iA,ic,i,oA,oc,o,sA,sc,s⟩) (hm:B8 (Av.mp ⟨6,t,r,ix,iA,ic,i,oA,oc,o,sA,sc,s⟩)):
 Calls Tryz.prog 21 #[Av.val ⟨6,t,r,ix,iA,ic,i,oA,oc,o,sA,sc,s⟩] w fun e w'=>Lu w w' e (Bi (Av.mp ⟨6,t,r,ix,iA,ic,i,oA,oc,o,sA,sc,s⟩)):=by
 obtain⟨w1,au,F1,af,ac⟩:=Am w (.int .u8 6) (.int .u32 t) (.int .u8 r) (.int .i64 ix) (.slice iA i.length ic) (.slice oA o.length oc) (.slice sA s.length sc);obtain⟨gx,an⟩:∃ q,q=w.heap.size:=⟨_,rfl⟩;have av:=Aa an;rw [<-an] at F1;obtain⟨y0,y1,y2,y3,y4,y5,y6⟩:=F1.cells;have az:=Aa F1;have HC:=Aa (Cb ⟨6,t,r,ix,iA,ic,i,oA,oc,o,sA,sc,s⟩ w1 ((hx.below ac).more ac.size) ox);rw [show Fc (Av.mp ⟨6,t,r,ix,iA,ic,i,oA,oc,o,sA,sc,s⟩)=0 from if_pos hm] at HC;obtain⟨⟨q1,q2,q3,q4⟩,⟨ki,ko,ks⟩,-⟩:=ox;simp only at q1 q2 q3 q4 ki ko ks;have AP:=Aa ki;have AO:=Aa ko;have FA:=Aa ks;have Hx:=Aa hx;obtain⟨ix0,ix1,mw⟩:=Le hm rfl;simp only [Av.mp] at ix0 ix1;simp only [Av.mp] at mw;have cp:∀ x∈o,Fa x:=fun x hx=>mw.2.2 _ (List.mem_map_of_mem hx);have sy:=Aa (show o.length<=1024 by have:=mw.2.1;rw [List.length_map] at this;omega);have Hoe:=Aa (show X9 o=0 from if_pos cp);have JX:=Aa (show Vj o=B7 o from if_pos cp)
 have JY:=Aa (show (B7 o).length<=1300000 by
  unfold B7
  rw [List.length_append]
  have h1:=Fj o (fun x hx=>⟨cp x hx,ko x hx⟩)
  have h2:=Bu (Ch ⟨by omega,by have:=sy.out;omega⟩:∀ z∈ [(o.length:Int)],0<=z/\z<=1099511627776)
  have h3:=sy.out
  simp only [List.length_cons,List.length_nil] at h2
  omega)
 have JZ:=Aa (show B7 o=J2 (o.map Bj.op) from La o);clear mw cp;have dn:=Aa au;have eu:=Aa ac;obtain⟨BB,jq⟩:∃ q,q=Bi (Av.mp ⟨6,t,r,ix,iA,ic,i,oA,oc,o,sA,sc,s⟩):=⟨_,rfl⟩;have uz:=Aa jq;rw [<-jq];clear hx hm F1 au ac af ki ko ks jq an;show Calls Tryz.prog 21 #[Ci 6 t r ix (.slice iA i.length ic) (.slice oA o.length oc) (.slice sA s.length sc)] w _;go_enter Tryz.func21,Tryz.ntmps21;go_wp2_with fail;rw [dn.out,<-av.out];refine HC.out.mono ?_;rintro e w2 ⟨rfl,ae⟩;have cd:gx < w2.heap.size:=by
  have h1:=ae.size;have h2:w1.heap.size=gx+1:=by rw [<-dn.out,World.size_alloc,av.out]
  omega
 obtain⟨w3,b8,P3,ag,fo⟩:=M9 w2;obtain⟨g,hg⟩:∃ q,q=w2.heap.size:=⟨_,rfl⟩;have Hg:=Aa hg;rw [<-hg] at P3 fo cd;have DE:=Aa fo.symm;have qj:=Aa P3;have bz:=Aa ((az.out.below ae).below ag);have dk:=Aa (Ad (Ad eu.out ae) ag);have ID:=Aa ((Hx.out.below dk.out).more (show w.heap.size<=g by rw [<-av.out];omega));have so:w.heap.size<=g:=by rw [<-av.out];omega
 clear P3 fo ae ag hg az eu Hx HC y0 y1 y2 y3 y4 y5 y6;obtain⟨y0,y1,y2,y3,y4,y5,y6⟩:=bz.out.cells;go_wp2_with fail;rw [<-Hg.out];clear b8;refine (B6 g g 1 _ [] [6] _ rfl w3 rfl qj.out (Ch ⟨by decide,by decide⟩) (by decide)).mono ?_;rintro e w4 ⟨rfl,pw,aw,th⟩;rw [List.nil_append] at pw;have qx:=Aa pw;have ca:=Aa (bz.out.belowB aw cd);have ed:=Aa (dk.out.trans (aw.mono so));have wn:=Aa aw;have uc:=Aa (show (Ap [(6:Int)]).length<=6 from Bu (Ch ⟨by decide,by decide⟩));clear pw aw th qj dk bz y0 y1 y2 y3 y4 y5 y6;obtain⟨y0,y1,y2,y3,y4,y5,y6⟩:=ca.out.cells;go_wp2_with fail;refine (B6 g g 3 _ (Ap [(6:Int)]) [t,r,ix] _ rfl w4 rfl qx.out (fun z hz=>by simp only [List.mem_cons,List.not_mem_nil,or_false] at hz;omega) (by have:=uc.out;simp only [List.length_cons,List.length_nil] at *;omega)).mono ?_;rintro e w5 ⟨rfl,hp,hb,hk⟩
 have EX:=Aa (show (Ap [(6:Int)]++Ap [t,r,ix]).length<=24 by
  have:=K9 (show ∀ z∈ [t,r,ix],0<=z/\z<=1099511627776 from fun z hz=>by simp only [List.mem_cons,List.not_mem_nil,or_false] at hz;omega) uc.out
  simp only [List.length_cons,List.length_nil] at this
  omega)
 have uy:=Aa hp;have cl:=Aa (ca.out.belowB hb cd);have ja:=Aa (ed.out.trans (hb.mono so));have GG:=Aa (wn.out.trans hb);clear hp hb hk qx ed ca wn y0 y1 y2 y3 y4 y5 y6;obtain⟨y0,y1,y2,y3,y4,y5,y6⟩:=cl.out.cells;go_wp2_with fail;refine (Pq oA o.length oc o w5 ((ID.out.2.1.below GG.out).more (by have:=uy.out.lt;omega)) rfl sy.out AO.out).mono ?_;rw [Hoe.out,JX.out];rintro e w7 ⟨v7,rfl,mi,bu⟩;obtain⟨A7,c7,rfl,-,-,-⟩:=Ao mi;obtain⟨A5,c5,tl,qf,-⟩:=uy.out.below bu;have RK:=Aa tl;have d1:=tl.cell;have dg:=Aa (cl.out.below bu);have qz:=Aa (Ad ja.out bu);have np:(Ap [(6:Int)]++Ap [t,r,ix]).length+(B7 o).length<=1073741824:=by
  have:=EX.out;have:=JY.out;omega
 have IV:g<=w7.heap.size:=by have:=tl.lt;omega
 obtain⟨q,hq⟩:∃ q,q=Ap [(6:Int)]++Ap [t,r,ix]:=⟨_,rfl⟩;have Hq:=Aa hq;rw [<-hq] at d1 tl qf np RK;obtain⟨i0,cr,cb,cu,cq⟩:=info_parts Dq;obtain⟨pl,nc⟩:∃ z,z=(q++B7 o).length:=⟨_,rfl⟩;have ls:=Aa nc.symm;have ct:=Aa (show gx≠g by omega);have ml:=Aa cd;clear hq tl nc cd y0 y1 y2 y3 y4 y5 y6 uy ja cl;obtain⟨y0,y1,y2,y3,y4,y5,y6⟩:=dg.out.cells;go_wp2_with (at_builtin;refine Ar _ rfl (.tmp 65) (.tmp 66) 23 rfl g 5 i0 (.int .u8 0) 1 1 Tryz.underlying23 cr cb cu cq rfl (by decide) _ _ _ rfl qf w7.heap.size A7 (B7 o).length c7 (Cw (B7 o)) rfl (RD.of_own mi) (Ce _) np (by decide) IV ?_;intro v8 w8 gh dj oo;obtain⟨A8,c8,rfl,-,-,-⟩:=Ao gh;have H8:=Aa (show Ry w8 g A5 q.length c5 from oo g _ RK.out (fun bh e=>by simp at e));have f8:=H8.out.fr;have d8:=H8.out.cell;have dp:=Aa (dg.out.belowB dj ml.out);have lg:=Aa (qz.out.trans (dj.mono so));obtain⟨w9,dq⟩:∃ z,w8.setCell ⟨g,0,none⟩ (.slice A8 (q.length+(B7 o).length) c8)=z:=⟨_,rfl⟩;have FD:Hid (PN w9 g g (q++B7 o)):=Aa ⟨A8,c8,by rw [List.length_append,<-dq];exact H8.out.set,by rw [List.length_append,Bg,<-dq];exact Mo gh H8.out (by decide) 0 _,Nat.le_refl _⟩;have eg:=Aa (show MB w9 gx _ _ _ _ _ _ _ by rw [<-dq];exact dp.out.other ct.out 0 _);have yq:=Aa (show Below w.heap.size w w9 by rw [<-dq];exact lg.out.setCell (by simp only;omega) _);obtain⟨z0,z1,z2,z3,z4,z5,z6⟩:=eg.out.cells;obtain⟨A9,c9,iy,nd,-⟩:=FD.out;have d9:=iy.cell;rw [ls.out] at d9;have ld:=Aa (RD.of_own nd);clear gh dj oo iy nd dp lg dg qz y0 y1 y2 y3 y4 y5 y6 d1);refine (Hj A9 pl c9 _ w9 ld.out ls.out).mono ?_;rintro e lk ⟨va,wh,y8,rfl,ju,dt,fx⟩;have HQ:=Aa (And.intro ju dt);have ch:=Ad yq.out fx;have ay:=yq.out.size;clear ju dt fx z0 z1 z2 z3 z4 z5 z6 d9 dq;go_wp2_with fail;refine bodyPost_ret (v:= .tuple #[.slice va y8.length wh,.int .i64 (Xf (q++B7 o))]) (by simp [results,Tryz.results21,go_sem]) rfl ?_;have e9:BB=q++B7 o:=by
  rw [uz.out,Hq.out,JZ.out];rfl
 rw [e9];exact⟨va,wh,y8,rfl,HQ.out.1,Bq HQ.out.2 ay,ch⟩
theorem Y4 (t r ix:Int) (iA oA sA:Option Addr) (ic oc sc:Nat) (i:List Aq) (o:List Bj) (s:List Ay) (w:World) (hx:RM w w.heap.size ⟨3,t,r,ix,iA,ic,i,oA,oc,o,sA,sc,s⟩) (ox:Gm ⟨3,t,r,ix,iA,ic,i,oA,oc,o,sA,sc,s⟩) (hm:B8 (Av.mp ⟨3,t,r,ix,iA,ic,i,oA,oc,o,sA,sc,s⟩)):
 Calls Tryz.prog 21 #[Av.val ⟨3,t,r,ix,iA,ic,i,oA,oc,o,sA,sc,s⟩] w fun e w'=>Lu w w' e (Bi (Av.mp ⟨3,t,r,ix,iA,ic,i,oA,oc,o,sA,sc,s⟩)):=by
 obtain⟨w1,au,F1,af,ac⟩:=Am w (.int .u8 3) (.int .u32 t) (.int .u8 r) (.int .i64 ix) (.slice iA i.length ic) (.slice oA o.length oc) (.slice sA s.length sc);obtain⟨gx,an⟩:∃ q,q=w.heap.size:=⟨_,rfl⟩;have av:=Aa an;rw [<-an] at F1;obtain⟨y0,y1,y2,y3,y4,y5,y6⟩:=F1.cells;have az:=Aa F1;have HC:=Aa (Cb ⟨3,t,r,ix,iA,ic,i,oA,oc,o,sA,sc,s⟩ w1 ((hx.below ac).more ac.size) ox);rw [show Fc (Av.mp ⟨3,t,r,ix,iA,ic,i,oA,oc,o,sA,sc,s⟩)=0 from if_pos hm] at HC;obtain⟨⟨q1,q2,q3,q4⟩,⟨ki,ko,ks⟩,-⟩:=ox;simp only at q1 q2 q3 q4 ki ko ks;have AP:=Aa ki;have AO:=Aa ko;have FA:=Aa ks;have Hx:=Aa hx;have vw:=Aa (Io hm (by simp [Av.mp])).1;simp only [Av.mp] at vw;obtain⟨VN,hwa⟩:=I7 (Kf hm rfl);simp only [Av.mp,List.length_map] at VN;have Hwa:=Aa (show ∀ x∈s,Dj x.wp.H/\Dj x.wp.S/\x.wp.G.length<=128 from fun x hx=>hwa x.wp (List.mem_map_of_mem hx));clear hwa;have dn:=Aa au;have eu:=Aa ac;obtain⟨BB,jq⟩:∃ q,q=Bi (Av.mp ⟨3,t,r,ix,iA,ic,i,oA,oc,o,sA,sc,s⟩):=⟨_,rfl⟩;have uz:=Aa jq;rw [<-jq];clear hx hm F1 au ac af ki ko ks jq an;show Calls Tryz.prog 21 #[Ci 3 t r ix (.slice iA i.length ic) (.slice oA o.length oc) (.slice sA s.length sc)] w _;go_enter Tryz.func21,Tryz.ntmps21;go_wp2_with fail;rw [dn.out,<-av.out];refine HC.out.mono ?_;rintro e w2 ⟨rfl,ae⟩;have cd:gx < w2.heap.size:=by
  have h1:=ae.size;have h2:w1.heap.size=gx+1:=by rw [<-dn.out,World.size_alloc,av.out]
  omega
 obtain⟨w3,b8,P3,ag,fo⟩:=M9 w2;obtain⟨g,hg⟩:∃ q,q=w2.heap.size:=⟨_,rfl⟩;have Hg:=Aa hg;rw [<-hg] at P3 fo cd;have DE:=Aa fo.symm;have qj:=Aa P3;have bz:=Aa ((az.out.below ae).below ag);have dk:=Aa (Ad (Ad eu.out ae) ag);have ID:=Aa ((Hx.out.below dk.out).more (show w.heap.size<=g by rw [<-av.out];omega));have so:w.heap.size<=g:=by rw [<-av.out];omega
 clear P3 fo ae ag hg az eu Hx HC y0 y1 y2 y3 y4 y5 y6;obtain⟨y0,y1,y2,y3,y4,y5,y6⟩:=bz.out.cells;go_wp2_with fail;rw [<-Hg.out];clear b8;refine (B6 g g 1 _ [] [3] _ rfl w3 rfl qj.out (Ch ⟨by decide,by decide⟩) (by decide)).mono ?_;rintro e w4 ⟨rfl,pw,aw,th⟩;rw [List.nil_append] at pw;have qx:=Aa pw;have ca:=Aa (bz.out.belowB aw cd);have ed:=Aa (dk.out.trans (aw.mono so));have wn:=Aa aw;have uc:=Aa (show (Ap [(3:Int)]).length<=6 from Bu (Ch ⟨by decide,by decide⟩));clear pw aw th qj dk bz y0 y1 y2 y3 y4 y5 y6;obtain⟨y0,y1,y2,y3,y4,y5,y6⟩:=ca.out.cells;go_wp2_with fail;refine (Ke g g (Ap [(3:Int)]) iA i.length ic i w4 qx.out (ID.out.1.below wn.out) rfl AP.out vw.out (by have:=uc.out;omega)).mono ?_;rintro e w5 ⟨rfl,hp,hb,hk⟩
 have EX:=Aa (show (Ap [(3:Int)]++Ap (Az (i.map Aq.pt))).length<=100006 by
  rw [List.length_append]
  have:=Gx vw.out
  have:=uc.out
  omega)
 have uy:=Aa hp;have cl:=Aa (ca.out.belowB hb cd);have ja:=Aa (ed.out.trans (hb.mono so));have GG:=Aa (wn.out.trans hb);clear hp hb hk qx ed ca wn y0 y1 y2 y3 y4 y5 y6;obtain⟨y0,y1,y2,y3,y4,y5,y6⟩:=cl.out.cells;go_wp2_with fail;refine (B6 g g 1 _ (Ap [(3:Int)]++Ap (Az (i.map Aq.pt))) [(s.length:Int)] _ rfl w5 rfl uy.out (fun z hz=>by simp only [List.mem_singleton] at hz;omega) (by have:=EX.out;simp only [List.length_cons,List.length_nil] at *;omega)).mono ?_;rintro e w6 ⟨rfl,hp,hb,hk⟩
 have BV:=Aa (show (Ap [(3:Int)]++Ap (Az (i.map Aq.pt))++Ap [(s.length:Int)]).length<=100012 by
  have:=K9 (show ∀ z∈ [(s.length:Int)],0<=z/\z<=1099511627776 from fun z hz=>by simp only [List.mem_singleton] at hz;omega) EX.out
  simp only [List.length_cons,List.length_nil] at this
  omega)
 have ux:=Aa hp;have bj:=Aa (cl.out.belowB hb cd);have dx:=Aa (ja.out.trans (hb.mono so));have GF:=Aa (GG.out.trans hb);clear hp hb hk uy ja cl GG y0 y1 y2 y3 y4 y5 y6;obtain⟨y0,y1,y2,y3,y4,y5,y6⟩:=bj.out.cells;obtain⟨p6,CG⟩:∃ q,q=Ap [(3:Int)]++Ap (Az (i.map Aq.pt))++Ap [(s.length:Int)]:=⟨_,rfl⟩;have Hp6:=Aa CG;rw [<-CG] at ux BV;clear CG;go_wp2_with fail
 go_loopw [90] (fun i wr=>∃ j:Nat,j<=s.length/\i= .int .i64 (j:Int)/\Hid (PN wr g g (p6++((s.map Ay.wp).take j).flatMap L8))/\Hid ((p6++((s.map Ay.wp).take j).flatMap L8).length<=200000+210000 * j)/\Hid (Below w.heap.size w wr)/\Hid (Below g w3 wr)) (fun i _=>s.length - (intOf i).toNat)
 case atStart=>exact⟨0,by omega,rfl,by simpa using ux,Aa (by have:=BV.out;simp only [List.take_zero,List.flatMap_nil,List.append_nil];omega),dx,GF⟩
 case round=>
  obtain⟨j,hj,rfl,uw,EW,DK,HGj⟩:=hrel;clear ux dx GF bj y0 y1 y2 y3 y4 y5 y6;obtain⟨pj,CF⟩:∃ q,q=p6++((s.map Ay.wp).take j).flatMap L8:=⟨_,rfl⟩;have JW:=Aa CF;rw [<-CF] at uw EW;clear CF;by_cases ai:j < s.length
  ·have z0:(j:Int) < s.length:=by omega
   have zj:(0:Int)<=j:=by omega
   have UZ:=Aa (ID.out.2.2.below HGj.out);obtain⟨bb,bo,rfl,hB,fg⟩:=RW.cell UZ.out (show 0 < s.length by omega);obtain⟨d0,d1,d2,d3,d4,d5,d6⟩:=fg j ai;obtain⟨x,hx⟩:∃ x,s[j]=x:=⟨_,rfl⟩;rw [hx] at d0 d1 d2 d3 d4 d5 d6;have ba:x∈s:=by rw [<-hx];exact List.getElem_mem ai
   have DZ:=Aa (FA.out x ba);have me:=Aa (Hwa.out x ba);have og:=Aa (UZ.out.2 x ba);obtain⟨w7,cc,F7,IM,bu⟩:=Ct wr (.int .u32 x.t) (.int .u8 x.r) (.bool x.rd) (.slice x.hA x.h.length x.hc) (.bool x.kn) (.slice x.sA x.s.length x.sc) (.slice x.gA x.g.length x.gc);have OU:g<=wr.heap.size:=by have:=uw.out.lt;omega
   have qw:=Aa (show pj++L8 x.wp=p6++((s.map Ay.wp).take (j+1)).flatMap L8 by
    rw [List.take_succ_eq_append_getElem (by rw [List.length_map];exact ai),List.flatMap_append,List.getElem_map,hx,JW.out,List.append_assoc]
    simp)
   have Hln:=Aa (show (pj++L8 x.wp).length<=200000+210000 * (j+1) by
    obtain⟨o1,o2,o3,o4,-⟩:=DZ.out
    have h1:=Z2 (x:=x.wp) ⟨o1,by show x.t<=1099511627776;omega⟩ ⟨o3,by show x.r<=1099511627776;omega⟩ me.out.1 me.out.2.1 me.out.2.2
    have h2:=EW.out
    rw [List.length_append]
    omega)
   have HW:=Aa (Acm g g pj x w7 (uw.out.below bu) (og.out.1.below (bu.mono OU)) (og.out.2.1.below (bu.mono OU)) (RD.below og.out.2.2 (bu.mono OU)) DZ.out me.out.1 me.out.2.1 me.out.2.2 (by have:=EW.out;omega));have Hw7:=Aa cc;have qz:=Aa (Ad DK.out bu);have ph:=Aa (HGj.out.trans (bu.mono OU));clear fg hx ba F7 cc IM bu uw UZ og DZ me;go_wp2_with fail;rw [Hw7.out];refine HW.out.mono ?_;rintro e w8 ⟨rfl,IQ,dj,-⟩;have YK:=Aa IQ;have lg:=Aa (qz.out.trans (dj.mono so));have AR:=Aa (ph.out.trans dj);clear IQ dj d0 d1 d2 d3 d4 d5 d6;go_wp2_with fail;go_roundw
   case rel=>
    refine⟨j+1,by omega,by go_num,?_,?_,lg,AR⟩
    ·rw [<-qw.out];exact YK
    ·rw [<-qw.out];exact Hln
   case measure=>simp [intOf];omega
  ·obtain rfl:j=s.length:=by omega
   have z0:¬ (s.length:Int) < s.length:=by omega
   obtain⟨A9,c9,iy,nd,-⟩:=uw.out;have d9:=iy.cell;have ld:=Aa (RD.of_own nd);obtain⟨pl,nc⟩:∃ q,q=List.length pj:=⟨_,rfl⟩;rw [<-nc] at d9;have ls:=Aa nc.symm;clear iy nd nc;go_wp2_with fail;refine (Hj A9 pl c9 _ wr ld.out ls.out).mono ?_;rintro e lk ⟨va,wh,y8,rfl,ju,dt,fx⟩;have HQ:=Aa (And.intro ju dt);have ch:=Ad DK.out fx;have ay:=DK.out.size;clear ju dt fx d9;go_wp2_with fail;refine bodyPost_ret (v:= .tuple #[.slice va y8.length wh,.int .i64 (Xf pj)]) (by simp [results,Tryz.results21,go_sem]) rfl ?_;have e9:BB=pj:=by
    rw [uz.out,JW.out,Hp6.out,List.take_of_length_le (by rw [List.length_map];exact Nat.le_refl _)];show _++Ap [((s.map Ay.wp).length:Int)]++_=_;rw [List.length_map];rfl
   rw [e9];exact⟨va,wh,y8,rfl,HQ.out.1,Bq HQ.out.2 ay,ch⟩
def Vf (m:MP):Int:=if B8 m then Xf (Bi m) else 8
def Ve (m:MP):List UInt8:=if B8 m then wrV (Bi m) else []
theorem Abg (x:Av) (w:World) (hx:RM w w.heap.size x) (ox:Gm x):
 Calls Tryz.prog 21 #[x.val] w fun e w'=>∃ (A:Option Addr) (c:Nat) (q:List UInt8),e= .returned (.tuple #[.slice A (List.length (α:=UInt8) q) c,.int .i64 (Vf x.mp)])/\q=Ve x.mp/\w'.ownsRow w.heap.size 5 1 (.slice A q.length c) q.length (Cw q)/\Below w.heap.size w w':=by
 by_cases hm:B8 x.mp
 ·rw [show Vf x.mp=Xf (Bi x.mp) from if_pos hm,show Ve x.mp=wrV (Bi x.mp) from if_pos hm];obtain⟨k,t,r,ix,iA,ic,i,oA,oc,o,sA,sc,s⟩:=x;have hk:k=1\/k=2\/k=3\/k=4\/k=5\/k=6:=by
   rcases hm.1 with⟨h | h,-⟩ | ⟨h,-⟩ | ⟨h,-⟩ | ⟨h,-⟩ | ⟨h,-⟩ <;> simp only [Av.mp] at h <;> omega
  rcases hk with rfl | rfl | rfl | rfl | rfl | rfl
  ·exact Acz t r ix iA oA sA ic oc sc i o s w hx ox hm
  ·exact Abh t r ix iA oA sA ic oc sc i o s w hx ox hm
  ·exact Y4 t r ix iA oA sA ic oc sc i o s w hx ox hm
  ·exact Abe t r ix iA oA sA ic oc sc i o s w hx ox hm
  ·exact Qi t r ix iA oA sA ic oc sc i o s w hx ox hm
  ·exact Ww t r ix iA oA sA ic oc sc i o s w hx ox hm
 ·rw [show Vf x.mp=8 from if_neg hm,show Ve x.mp= [] from if_neg hm];refine (Abf x w hx ox hm).mono ?_;rintro e w' ⟨rfl,hb⟩;exact⟨none,0, [],rfl,rfl,World.ownsRow_nil _ _ _ _,hb⟩
end Go.Proofs.YtmkpfdcnikgokaaGreat
