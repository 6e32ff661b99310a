/- Sch8 Src1 Src2 Src3 Same1 -/
import Derived.Test.YtjlhbfbdcfajfaaGreatDoorB17
namespace Go.Proofs.YtjlhbfbdcfajfaaGreatDoor
open Go.RowKit
def mT (kind nm:ByteArray) (ns:List ByteArray):Int:=
 if aN kind=[] then 2
 else if tk kind=false then(if nm≠⟨#[]⟩ then 2 else if 0<ns.length then 3 else 0)
 else if nm=⟨#[]⟩ then 6
 else if pq nm.data.toList=false∨((nm.data.toList[0]?).getD 0).toNat<97∨24<nm.size then 8
 else if Lib.containsS ns nm=true then 3
 else if(ns.length:Int)=iQ kind then 7 else 0
set_option maxRecDepth 20000 in
set_option maxHeartbeats 2000000 in
theorem YM {w:World} {bb mn N:Nat} {f:ByteArray→Option Value} (bn:bb<w.heap.size) (hc:w.cell? ⟨bb,14,none⟩=some (.map (some mn))) (hm:dr w mn N f) (kind nm:ByteArray) (QH:fG kind) (wt:fG nm) {S:Nat→Prop} {A:Option Addr} {n c:Nat} {ns:List ByteArray} (hf:(f kind).getD (.slice none 0 0)=.slice A n c) (hr:RS w S A n c ns) (hS:∀b,S b→b<w.heap.size) (F:Value) (line:Int) (hFF:∃A n c,F=.slice A n c) : Calls Tryz.prog 94 #[.pointer (some ⟨bb,0,none⟩),.agg #[.string kind,.string nm,F,.int .i64 line]] w (gy w (.int .i64 (mT kind nm ns))):=by
 obtain⟨AF,nF,cF,rfl⟩:=hFF;have AI:kind.size≤maxLen:=Nat.le_trans QH (by unfold maxLen;omega);obtain⟨z,hz⟩:∃z,mT kind nm ns=z:=⟨_,rfl⟩;have eh:=hz.symm;unfold mT at eh;rw[hz];have bq:Below w.heap.size w (w.alloc (.cells #[.string kind,.string nm,.slice AF nF cF,.int .i64 line] 110)):=(Below.refl _ _).alloc (Nat.le_refl _) _;have ct:aK (w.alloc (.cells #[.string kind,.string nm,.slice AF nF cF,.int .i64 line] 110)) w.heap.size 110 #[.string kind,.string nm,.slice AF nF cF,.int .i64 line]:=aK.new _ _ _;obtain⟨w1,bj⟩:∃x,w.alloc (.cells #[.string kind,.string nm,.slice AF nF cF,.int .i64 line] 110)=x:=⟨_,rfl⟩;rw[bj] at bq ct;have k0:w1.cell? ⟨w.heap.size,0,none⟩=some (.string kind):=ct.cell 0;have k1:w1.cell? ⟨w.heap.size,1,none⟩=some (.string nm):=ct.cell 1;have kc:w1.cell? ⟨bb,14,none⟩=some (.map (some mn)):=by rw[bq.cell bn];exact hc
 have dO:=zH bj;have HZ:=zH eh;have HM:=zH (hm.keep bq);have HF:=zH hf;have HR:=zH hr;have jc:=zH bq;have mY:=zH ct;clear bj eh hz hm hf hr bq ct hc;go_enter Tryz.func94,Tryz.ntmps94;go_wp2_with fail;rw[dO.out];refine Go.wp_region_quiet_lit (by kernel_rfl) (by kernel_rfl) ?_;repeat (first|(go_big_quiet_step (fail))|(go_big_quiet_want;(with_reducible (refine cI _ _ _ 22 rfl Tryz.underlying132 (.slice none 0 0) (fun _=>rfl) rfl HM.out kind rfl AI (.slice A n c) HF.out ?_));(try simp only[Act.put,List.setIfInBounds_toArray,List.set_cons_zero,List.set_cons_succ]);(try simp only[List.getElem_toArray,List.getElem_cons_zero,List.getElem_cons_succ]);go_big_quiet_on))
 refine Go.wpQuiet_nil ?_;intro _ Ux;obtain⟨nq,aqo⟩:=Ux;subst aqo;have bY:Below w.heap.size w (w1.drewN nq):=below_drewN jc.out nq;have fM:=mY.out.drewN nq;obtain⟨w2,jY⟩:∃x,w1.drewN nq=x:=⟨_,rfl⟩;rw[jY] at bY fM ⊢;have q0:w2.cell? ⟨w.heap.size,0,none⟩=some (.string kind):=fM.cell 0;have q1:w2.cell? ⟨w.heap.size,1,none⟩=some (.string nm):=fM.cell 1;have bX:=zH bY;have jg:=zH fM;clear bY fM jY dO mY jc k0 k1 kc HM HF;go_wp2_with fail;refine(D5 kind w2).mono ?_;rintro e w3 ⟨A3,n3,c3,rfl,D8,hn3,ey⟩;have ad1:Below w.heap.size w w3:=ae bX.out ey;have iF:=jg.out.keep ey;have p0:w3.cell? ⟨w.heap.size,0,none⟩=some (.string kind):=iF.cell 0;have p1:w3.cell? ⟨w.heap.size,1,none⟩=some (.string nm):=iF.cell 1;have iT:=zH ad1;have hq:=Lib.run_eql_slice_nil w3 22 9 A3 n3 c3 0 0 Tryz.underlying22;have un:=zH iF;by_cases AJ:aN kind=[]
 ·obtain rfl:A3=none:=hn3.2 AJ;have h0:n3=0:=by rw[←D8.len,AJ];rfl
  subst h0;have av:=HZ.out;rw[if_pos AJ] at av;have bm:=zH av;clear av HZ AJ hn3 D8 ey ad1 iF q0 q1;go_wp2_with fail;go_ret
  exact⟨by rw[bm.out];rfl,iT.out⟩
 have xo:0<n3:=by rw[←D8.len];exact List.length_pos_iff.2 AJ
 obtain⟨b3,o3,rfl⟩:=D8.some_of xo;obtain⟨nb,rj⟩:∃b,tk kind=b:=⟨_,rfl⟩;obtain⟨L,hL⟩:∃b,iQ kind=b:=⟨_,rfl⟩;have ac9:=Qj kind;have adN:=I7 kind;rw[hL] at adN;rw[rj] at ac9;have eQ:=HZ.out;rw[if_neg AJ,rj,hL] at eQ;have fy:=zH eQ;have HNK:=zH ac9;have HCK:=zH adN;have OM:=zH HR.out.len;have axu:=HR.out.max;clear eQ HZ AJ hn3 D8 ey ad1 iF q0 q1 rj hL ac9 adN;go_wp2_with fail;refine(HNK.out _).mono ?_;rintro e w' ⟨rfl,rfl⟩;cases nb
 case false=>
  by_cases AH:nm=⟨#[]⟩
  ·by_cases hn0:0<n
   ·skip
    have av:z=3:=by
     rw[fy.out];rw[if_pos rfl,if_neg (fun h=>h AH),if_pos (by rw[OM.out];exact hn0)]
    have bm:=zH av;clear av fy;subst AH;have d0:((0:Int)<(n:Int))=True:=eq_true (by omega);go_wp2_with fail;refine(HNK.out _).mono ?_;rintro e w' ⟨rfl,rfl⟩;go_wp2_with fail;go_ret
    exact⟨by rw[bm.out];rfl,iT.out⟩
   ·have hn1:n=0:=by omega
    have av:z=0:=by
     rw[fy.out];rw[if_pos rfl,if_neg (fun h=>h AH),if_neg (by rw[OM.out];exact hn0)]
    have bm:=zH av;clear av fy;subst AH hn1;go_wp2_with fail;refine(HNK.out _).mono ?_;rintro e w' ⟨rfl,rfl⟩;go_wp2_with fail;refine(HNK.out _).mono ?_;rintro e w' ⟨rfl,rfl⟩;go_wp2_with fail;go_ret
    exact⟨by rw[bm.out];rfl,iT.out⟩
  ·have hme:(nm.toList==[])=false:=aC (l:=[]) AH;have av:z=2:=by
    rw[fy.out];rw[if_pos rfl,if_pos AH]
   have bm:=zH av;clear av fy;clear AH;go_wp2_with fail;go_ret
   exact⟨by rw[bm.out];rfl,iT.out⟩
 case true=>
  go_wp2_with fail;refine(HNK.out _).mono ?_;rintro e w' ⟨rfl,rfl⟩;go_wp2_with fail;refine(HNK.out _).mono ?_;rintro e w' ⟨rfl,rfl⟩;by_cases AH:nm=⟨#[]⟩
  ·have av:z=6:=by
    rw[fy.out,if_neg (by decide),if_pos AH]
   have bm:=zH av;clear av fy;subst AH;go_wp2_with fail;go_ret
   exact⟨by rw[bm.out];rfl,iT.out⟩
  have hme:(nm.toList==[])=false:=aC (l:=[]) AH;have h0:0<nm.size:=by
   rcases Nat.eq_zero_or_pos nm.size with h0|h0
   ·exact absurd (ByteArray.ext (Array.eq_empty_of_size_eq_zero h0)) AH
   ·exact h0
  have jE:=fy.out;rw[if_neg (by decide),if_neg AH] at jE;obtain⟨bl,xt⟩:∃b,pq nm.data.toList=b:=⟨_,rfl⟩;have iW:=Py nm w3 (Nat.le_trans wt (by omega));have hx:=str_at h0;obtain⟨x,rh⟩:∃x,nm[0]=x:=⟨_,rfl⟩;rw[rh] at hx;rw[hx,xt] at jE;rw[xt] at iW;have iL:=zH jE;have py:=zH iW;have Yt:nm.size≤17592186044416:=wt;clear jE fy AH xt iW hx;go_wp2_with fail;refine py.out.mono ?_;rintro e w4 ⟨rfl,fa⟩;have jj:=un.out.keep fa;have r0:w4.cell? ⟨w.heap.size,0,none⟩=some (.string kind):=jj.cell 0;have r1:w4.cell? ⟨w.heap.size,1,none⟩=some (.string nm):=jj.cell 1;have lH:=zH (ae iT.out fa);have HC:=zH (tI (HR.out.below lH.out hS) nm);clear fa jj py p0 p1 un iT;cases bl
  case false=>
   have av:z=8:=by
    rw[iL.out];rw[if_pos (.inl rfl)]
   have bm:=zH av;clear av iL;go_wp2_with fail;go_ret
   exact⟨by rw[bm.out];rfl,lH.out⟩
  case true=>
   by_cases h97:x.toNat<97
   ·have atb:(x.toNat:Int)<97:=by omega
    have av:z=8:=by
     rw[iL.out];rw[if_pos (.inr (.inl h97))]
    have bm:=zH av;clear av iL;go_wp2_with fail;go_ret
    exact⟨by rw[bm.out];rfl,lH.out⟩
   have atb:((x.toNat:Int)<97)=False:=eq_false (by omega);have aCK:(x.toNat<97)=False:=eq_false h97;by_cases lk:24<nm.size
   ·have aqz:(24:Int)<(nm.size:Int):=by omega
    have av:z=8:=by
     rw[iL.out];rw[if_pos (.inr (.inr lk))]
    have bm:=zH av;clear av iL;go_wp2_with fail;go_ret
    exact⟨by rw[bm.out];rfl,lH.out⟩
   have aqz:((24:Int)<(nm.size:Int))=False:=eq_false (by omega);have aBo:(24<nm.size)=False:=eq_false lk;have xN:=iL.out;rw[if_neg (by rintro(h|h|h);exact absurd h (by decide);exact h97 h;exact lk h)] at xN;obtain⟨cb,hcb⟩:∃b,Lib.containsS ns nm=b:=⟨_,rfl⟩;have sC:=HC.out;rw[hcb] at sC xN;rw[OM.out] at xN;have rU:=zH xN;have HCC:=zH sC;clear xN iL hcb sC HC h97 lk;go_wp2_with fail;refine HCC.out.mono ?_;rintro e w' ⟨rfl,rfl⟩;cases cb
   case true=>
    have av:z=3:=by
     rw[rU.out];rw[if_pos rfl]
    have bm:=zH av;clear av rU;go_wp2_with fail;go_ret
    exact⟨by rw[bm.out];rfl,lH.out⟩
   case false=>
    go_wp2_with fail;refine(HCK.out _).mono ?_;rintro e w' ⟨rfl,rfl⟩;by_cases hL:(n:Int)=L
    ·have hLb:((n:Int)==L)=true:=by rw[beq_iff_eq];exact hL
     have av:z=7:=by
      rw[rU.out];rw[if_neg (by decide),if_pos hL]
     have bm:=zH av;clear hL av rU;go_wp2_with fail;go_ret
     exact⟨by rw[bm.out];rfl,lH.out⟩
    ·have hLb:((n:Int)==L)=false:=by rw[beq_eq_false_iff_ne];exact hL
     have av:z=0:=by
      rw[rU.out];rw[if_neg (by decide),if_neg hL]
     have bm:=zH av;clear hL av rU;go_wp2_with fail;go_ret
     exact⟨by rw[bm.out];rfl,lH.out⟩
instance:bG ag where
 sz:=3
 rep w S cs x:=∃A n c,cs=[.string x.key,.slice A n c,.int .i64 x.line]∧RS w S A n c x.vals
 len h:=by obtain⟨A,n,c,rfl,_⟩:=h;rfl
 keep h hS hk:=by
  obtain⟨A,n,c,rfl,h⟩:=h;exact⟨A,n,c,rfl,h.keep hS hk⟩
def fJ (k:ByteArray) (v:Int):ByteArray:=if v<1∨((cU k).length:Int)<v then⟨#[]⟩ else(cU k).getD (v.toNat-1) ⟨#[]⟩
set_option maxRecDepth 20000 in
set_option maxHeartbeats 1000000 in
theorem oQ (k:ByteArray) (v:Int) (w:World) (hv:v≤9223372036854775807):Calls Tryz.prog 103 #[.string k,.int .i64 v] w (gy w (.string (fJ k v))):=by
 obtain⟨z,hz⟩:∃z,fJ k v=z:=⟨_,rfl⟩;have eh:=hz.symm;unfold fJ at eh;rw[hz];have HZ:=zH eh;clear hz eh;go_enter Tryz.func103,Tryz.ntmps103;go_wp2_with fail;refine(BH k w).mono ?_;rintro e w1 ⟨A,n,c,rfl,hr,_,hb⟩;have HB:=zH hb;have xq:=hr.max;have eQ:=HZ.out;rw[hr.len] at eQ;have fy:=zH eQ;have HR:=zH hr;clear hr hb eQ HZ;by_cases h1:v<1
 ·have av:z=⟨#[]⟩:=by rw[fy.out,if_pos (.inl h1)]
  have bm:=zH av;clear av fy;go_wp2_with fail;go_ret
  exact⟨by rw[bm.out];rfl,HB.out⟩
 have h1f:(v<1)=False:=eq_false h1;by_cases h2:(n:Int)<v
 ·have av:z=⟨#[]⟩:=by rw[fy.out,if_pos (.inr h2)]
  have bm:=zH av;clear av fy h1;go_wp2_with fail;go_ret
  exact⟨by rw[bm.out];rfl,HB.out⟩
 have h2f:((n:Int)<v)=False:=eq_false h2;obtain⟨j,hj⟩:∃j:Nat,v-1=(j:Int):=⟨(v-1).toNat,by omega⟩;have hjn:j<n:=by omega
 obtain⟨b,o,x,rfl,_,hx,e1⟩:=HR.out.str_at hjn;have av:z=x:=by
  rw[fy.out,if_neg (by omega)];have:v.toNat-1=j:=by omega
  rw[this,List.getD_eq_getElem?_getD,hx];rfl
 have hw:IntKind.i64.wrap (v-1)=(j:Int):=by rw[IntKind.wrap_i64]<;>omega
 have hcj:(j:Int)≤(c:Int):=by have:=HR.out.cap;omega
 have aB7:(j:Int)<(n:Int):=by omega
 have bm:=zH av;clear av fy h1 h2 hj hx;go_wp2_with fail;go_ret
 exact⟨by rw[bm.out];rfl,HB.out⟩
set_option maxRecDepth 20000 in
set_option maxHeartbeats 1000000 in
theorem nf (k s:ByteArray) (w:World):Calls Tryz.prog 72 #[.string k,.string s] w (gh w (⟨k,[s],0⟩:ag)):=by
 obtain⟨w1,bj⟩:∃x,w.alloc (.cells #[.string k,.slice (some ⟨w.heap.size+1,0,none⟩) 1 1,.int .i64 0] 113)=x:=⟨_,rfl⟩;have lk:w1.heap.size=w.heap.size+1:=by rw[←bj];simp
 have bd:Below w.heap.size w w1:=by rw[←bj];exact(Below.refl _ _).alloc (Nat.le_refl _) _
 have dy:aK w1 w.heap.size 113 #[.string k,.slice (some ⟨w.heap.size+1,0,none⟩) 1 1,.int .i64 0]:=by rw[←bj];exact aK.new _ _ _
 obtain⟨A,n,c,he,hr,_,bY⟩:=dI w1 s [] (by simp[maxLen]);injection he with he
 injection he with e1 e2 e3
 subst e1 e2 e3;rw[lk] at hr;have dO:=zH bj;have bS:=zH bd;have bX:=zH bY;have HR:=zH hr;have oW:=zH dy;have Cy:=zH lk;clear bj bd hr bY dy lk;go_enter Tryz.func72,Tryz.ntmps72;go_wp2_with fail;rw[dO.out];refine bodyPost_ret (results_cell_row rfl _ _ w.heap.size 113 #[.string k,.slice (some ⟨w.heap.size+1,0,none⟩) 1 1,.int .i64 0] (0,0) _ rfl (oW.out.keep bX.out) Tryz.underlying113 rfl (by kernel_rfl)) rfl ?_;exact⟨_,rfl,⟨_,rfl,_,_,_,rfl,HR.out.sub (fun b hb=>⟨Nat.le_trans bS.out.size hb.1,hb.2⟩)⟩,ae bS.out bX.out⟩
def EL (B:Nat) (w:World):Prop:=∀w',Below B w w'→Lib.TabIs Tryz.prog w' "internal/strconv.uint64pow10" .u64 Lib.pow10Tab
theorem EL.keep {B:Nat} {w w':World} (h:EL B w) (hb:Below B w w'):EL B w':=fun w2 h2=>h w2 (hb.trans h2)
theorem EL.up {B:Nat} {w w':World} (h:EL B w) (hB:B≤w.heap.size) (hb:Below w.heap.size w w'):EL B w':=h.keep (hb.mono hB)
def Br (n:Int):ByteArray:=⟨(Lib.itoa n).toArray⟩
theorem Yi {B:Nat} {w:World} (h:EL B w) (n:Int) (h0:-9223372036854775808≤n) (h1:n≤9223372036854775807):Calls Tryz.prog 102 #[.int .i64 n] w (gy w (.string (Br n))):=
 (Tryz.strconv_Itoa n h0 h1 w (h w (Below.refl _ _))).mono fun e w' hh=>by
  obtain⟨he,k,os,rfl⟩:=hh;exact⟨he,rfl,rfl,rfl,by show w.heap.size≤(w.heap++os).size;rw[Array.size_append];omega,fun j hj=>by show(w.heap++os)[j]?=_;exact Array.getElem?_append_left hj⟩
set_option maxRecDepth 20000 in
set_option maxHeartbeats 1000000 in
theorem lz {B:Nat} {w:World} (h:EL B w) (hB:B≤w.heap.size) (k:ByteArray) (v:Int) (h0:-9223372036854775808≤v) (h1:v≤9223372036854775807) : Calls Tryz.prog 68 #[.string k,.int .i64 v] w (gh w (⟨k,[Br v],0⟩:ag)):=by
 have bq:Below w.heap.size w (w.alloc (.cells #[.string ⟨#[]⟩,.slice none 0 0,.int .i64 0] 113)):=(Below.refl _ _).alloc (Nat.le_refl _) _;have ct:aK (w.alloc (.cells #[.string ⟨#[]⟩,.slice none 0 0,.int .i64 0] 113)) w.heap.size 113 #[.string ⟨#[]⟩,.slice none 0 0,.int .i64 0]:=aK.new _ _ _;obtain⟨w1,bj⟩:∃x,w.alloc (.cells #[.string ⟨#[]⟩,.slice none 0 0,.int .i64 0] 113)=x:=⟨_,rfl⟩;rw[bj] at bq ct;obtain⟨s,hs⟩:∃s,Br v=s:=⟨_,rfl⟩;have hit:=Yi (h.up hB bq) v h0 h1;rw[hs] at hit ⊢;have dO:=zH bj;have jc:=zH bq;have mY:=zH ct;have HIT:=zH hit;clear bj bq ct hit hs h;go_enter Tryz.func68,Tryz.ntmps68;go_wp2_with fail;rw[dO.out];refine HIT.out.mono ?_;rintro e w2 ⟨rfl,bY⟩;have uj:=ae jc.out bY;obtain⟨A,n,c,he,hr,_,ey⟩:=dI w2 s [] (by simp[maxLen]);injection he with he
 injection he with e1 e2 e3
 subst e1 e2 e3;have iF:aK (w2.alloc (.cells #[.string s] 9)) w.heap.size 113 #[.string ⟨#[]⟩,.slice none 0 0,.int .i64 0]:=(mY.out.keep bY).keep ey;obtain⟨d0,d1,d2,d3,d4,d5⟩:=iF.facts3;have un:=zH iF;have HR:=zH hr;have iT:=zH (ae uj ey);have bn:=jc.out.size;have Cy:=zH (show w.heap.size<w2.heap.size from Nat.lt_of_lt_of_le mY.out.lt bY.size);clear bY uj hr ey iF HIT;go_wp2_with fail;refine bC (x:=(⟨k,[s],0⟩:ag)) (S:=bz w2 (w2.alloc (.cells #[.string s] 9))) (cs:=[.string k,.slice (some ⟨w2.heap.size,0,none⟩) 1 1,.int .i64 0]) rfl rfl (Nat.le_refl _) un.out rfl Tryz.underlying113 rfl (by kernel_rfl) ⟨_,_,_,rfl,HR.out⟩ (fun b hb=>?_) iT.out rfl id;have h1:=Cy.out;have h2:=hb.1;exact⟨⟨by omega,hb.2⟩,by omega⟩
theorem Tryz.strsTy:cW Tryz.prog 22 9 1 16:=cW.mk' (z:=.string ⟨#[]⟩) Tryz.underlying22 (by kernel_rfl) rfl (by omega)
theorem Own.own_ne {α:Type} [bG α] {w:World} {S:Nat→Prop} {base:Nat} {e:TypeId} {v:Value} {xs:List α} (h:Own w S base e v xs) {g:Nat} (hg:g<base):v.ownBlock≠some g:=fun e=>by
 have:=(h.lt g e).1;omega
def nameAt (fr:List ByteArray) (i:Int):ByteArray:=if 0≤i∧i<(fr.length:Int) then fr.getD i.toNat ⟨#[]⟩ else⟨#[]⟩
def eK (FN:List Int) (fr:List ByteArray):List ByteArray:=FN.map (nameAt fr)
set_option maxRecDepth 20000 in
set_option maxHeartbeats 2000000 in
theorem Kx {w:World} (key:ByteArray) {S S2:Nat→Prop} {A A2:Option Addr} {n c n2 c2:Nat} {FN:List Int} {fr:List ByteArray} (h:RS w S A n c FN) (h2:RS w S2 A2 n2 c2 fr) (hS:∀b,S b→b<w.heap.size) (eF:∀b,S2 b→b<w.heap.size) (hn:n≤1099511627776) : Calls Tryz.prog 71 #[.string key,.slice A n c,.slice A2 n2 c2] w (gh w (⟨key,eK FN fr,0⟩:ag)):=by
 obtain⟨w1,bj⟩:∃x,(w.alloc (.cells #[.string ⟨#[]⟩,.slice none 0 0,.int .i64 0] 113)).alloc (.cells #[.string key,.slice none 0 0,.int .i64 0] 113)=x:=⟨_,rfl⟩;have bd:Below w.heap.size w w1:=by rw[←bj];exact((Below.refl _ _).alloc (Nat.le_refl _) _).alloc (by simp) _
 have jz:aK w1 w.heap.size 113 #[.string ⟨#[]⟩,.slice none 0 0,.int .i64 0]:=by rw[←bj];exact(aK.new _ _ _).alloc _
 have lw:w1.heap.size=w.heap.size+2:=by rw[←bj];simp
 have ow:aK w1 (w.heap.size+1) 113 #[.string key,.slice none 0 0,.int .i64 0]:=by
  rw[←bj];have:=aK.new (w.alloc (.cells #[.string ⟨#[]⟩,.slice none 0 0,.int .i64 0] 113)) 113 #[.string key,.slice none 0 0,.int .i64 0];simpa using this
 have dO:=zH bj;have bS:=zH bd;have av6:=zH jz;have av5:=zH ow;have Gf:=zH lw;have HI:=zH h;have HF:=zH h2;have PH:=zH h.len;have SR:=zH h2.len;have wt:=h.max;have Yu:=h2.max;clear bj bd jz ow lw h h2;go_enter Tryz.func71,Tryz.ntmps71;go_wp2_with fail;rw[dO.out];go_loopw [15] (fun iv wr=>∃(k:Nat) (sl:Value),k≤n∧iv=.int .i64 k∧aK wr (w.heap.size+1) 113 #[.string key,sl,.int .i64 0]∧Own wr aA (w.heap.size+2) 9 sl (eK (FN.take k) fr)∧aK wr w.heap.size 113 #[.string ⟨#[]⟩,.slice none 0 0,.int .i64 0]∧Below w.heap.size w wr) (fun iv _=>n-(intOf iv).toNat)
 case atStart=>exact⟨0,_,Nat.zero_le _,rfl,av5.out,Own.nil _ _ _,av6.out,bS.out⟩
 case round=>
  obtain⟨k,sl,hk,rfl,uZ,dB,kC,fp⟩:=hrel;have lk:w.heap.size+2≤wr.heap.size:=uZ.lt;obtain⟨q0,q1,q2,q3,q4,q5⟩:=uZ.facts3;have jf:=zH uZ;have jJ:=zH kC;have HO:=zH dB;have wF:=zH fp;have Cy:=zH lk;have kV:=zH (show∀g,g<w.heap.size+2→some g≠sl.ownBlock from fun g hg e=>dB.own_ne hg e.symm);have ew:=zH (show(eK (FN.take k) fr).length≤1099511627776 by unfold eK;rw[List.length_map,List.length_take];omega);have JF:=HI.out.below fp hS;have qA:=HF.out.below fp eF;have ZA:=zH JF;have ET:=zH qA;clear uZ dB kC fp lk JF qA;by_cases bn:k<n
  ·have dK:(k:Int)<(n:Int):=by omega
   obtain⟨b,o,x,rfl,_,hx,e1⟩:=ZA.out.int_at bn;have gO:(k:Int)≤(c:Int):=by have:=ZA.out.cap;omega
   have xp:k≤c:=by omega
   obtain⟨y,hy⟩:∃y,nameAt fr x=y:=⟨_,rfl⟩;have KS:eK (FN.take (k+1)) fr=eK (FN.take k) fr++[y]:=by
    unfold eK;rw[du hx,List.map_append,←hy];rfl
   have EQ:=zH KS;have HY:=zH hy;clear KS hx hy;by_cases h0:0≤x
   ·by_cases h1:x<(n2:Int)
    ·obtain⟨j,rfl⟩:∃j:Nat,x=(j:Int):=⟨x.toNat,by omega⟩;have hjn:j<n2:=by omega
     obtain⟨b2,o2,y',rfl,_,hy',e2⟩:=ET.out.str_at hjn;have hjc:(j:Int)≤(c2:Int):=by have:=ET.out.cap;omega
     obtain rfl:y'=y:=by
      have:=HY.out;unfold nameAt at this;rw[if_pos ⟨h0,by rw[SR.out];exact h1⟩,Int.toNat_natCast,List.getD_eq_getElem?_getD,hy'] at this;exact this
     clear hy' HY;go_wp2_with (at_builtin;refine aF (α:=ByteArray) (w0:=w) (B:=w.heap.size) (base:=w.heap.size+2) rfl _ _ 22 rfl 16 Tryz.strsTy rfl HO.out wF.out (by omega) Cy.out [.string y'] y' 1 rfl rfl 9 (by simp[Value.oneCell']) (by have:=ew.out;omega) ?_;intro v4 w4 hown4 fa hg4 hl4;have jj:=(jf.out.alloc (.cells #[.string y'] 9)).grown hg4 (kV.out _ (by omega));have zE:=(jJ.out.alloc (.cells #[.string y'] 9)).grown hg4 (kV.out _ (by omega));obtain⟨d0,d1,d2,d3,d4,d5⟩:=jj.facts3;have WC:=zH jj;have WE:=zH zE;obtain⟨A4,n4,c4,rfl,hn4⟩:=hown4.slice;have qL:=zH hown4;have lH:=zH fa;clear hown4 fa hg4 hl4 hn4 jj zE);go_roundw
     case rel=>exact⟨k+1,_,by omega,by go_num,WC.out.set_ 1 _,by rw[EQ.out];exact qL.out.setCell (p:=⟨w.heap.size+1,1,none⟩) (qL.out.own_ne (by show w.heap.size+1<w.heap.size+2;omega)) (fun _ h=>h.elim) _,WE.out.far (p:=⟨w.heap.size+1,1,none⟩) (by show w.heap.size≠w.heap.size+1;omega) _,lH.out.setCell (p:=⟨w.heap.size+1,1,none⟩) (by show w.heap.size≤w.heap.size+1;omega) _⟩
     case measure=>simp[intOf];omega
    ·have hyf:y=⟨#[]⟩:=by
      have:=HY.out;unfold nameAt at this;rw[if_neg (by rw[SR.out];omega)] at this;exact this.symm
     have h1f:(x<(n2:Int))=False:=eq_false h1;have h0t:(0≤x)=True:=eq_true h0;subst hyf;clear h1 HY;go_wp2_with (at_builtin;refine aF (α:=ByteArray) (w0:=w) (B:=w.heap.size) (base:=w.heap.size+2) rfl _ _ 22 rfl 16 Tryz.strsTy rfl HO.out wF.out (by omega) Cy.out [.string ⟨#[]⟩] (⟨#[]⟩:ByteArray) 1 rfl rfl 9 (by simp[Value.oneCell']) (by have:=ew.out;omega) ?_;intro v4 w4 hown4 fa hg4 hl4;have jj:=(jf.out.alloc (.cells #[.string ⟨#[]⟩] 9)).grown hg4 (kV.out _ (by omega));have zE:=(jJ.out.alloc (.cells #[.string ⟨#[]⟩] 9)).grown hg4 (kV.out _ (by omega));obtain⟨d0,d1,d2,d3,d4,d5⟩:=jj.facts3;have WC:=zH jj;have WE:=zH zE;obtain⟨A4,n4,c4,rfl,hn4⟩:=hown4.slice;have qL:=zH hown4;have lH:=zH fa;clear hown4 fa hg4 hl4 hn4 jj zE);go_roundw
     case rel=>exact⟨k+1,_,by omega,by go_num,WC.out.set_ 1 _,by rw[EQ.out];exact qL.out.setCell (p:=⟨w.heap.size+1,1,none⟩) (qL.out.own_ne (by show w.heap.size+1<w.heap.size+2;omega)) (fun _ h=>h.elim) _,WE.out.far (p:=⟨w.heap.size+1,1,none⟩) (by show w.heap.size≠w.heap.size+1;omega) _,lH.out.setCell (p:=⟨w.heap.size+1,1,none⟩) (by show w.heap.size≤w.heap.size+1;omega) _⟩
     case measure=>simp[intOf];omega
   ·have hyf:y=⟨#[]⟩:=by
     have:=HY.out;unfold nameAt at this;rw[if_neg (by rw[SR.out];omega)] at this;exact this.symm
    have h0f:(0≤x)=False:=eq_false h0;subst hyf;clear h0 HY;go_wp2_with (at_builtin;refine aF (α:=ByteArray) (w0:=w) (B:=w.heap.size) (base:=w.heap.size+2) rfl _ _ 22 rfl 16 Tryz.strsTy rfl HO.out wF.out (by omega) Cy.out [.string ⟨#[]⟩] (⟨#[]⟩:ByteArray) 1 rfl rfl 9 (by simp[Value.oneCell']) (by have:=ew.out;omega) ?_;intro v4 w4 hown4 fa hg4 hl4;have jj:=(jf.out.alloc (.cells #[.string ⟨#[]⟩] 9)).grown hg4 (kV.out _ (by omega));have zE:=(jJ.out.alloc (.cells #[.string ⟨#[]⟩] 9)).grown hg4 (kV.out _ (by omega));obtain⟨d0,d1,d2,d3,d4,d5⟩:=jj.facts3;have WC:=zH jj;have WE:=zH zE;obtain⟨A4,n4,c4,rfl,hn4⟩:=hown4.slice;have qL:=zH hown4;have lH:=zH fa;clear hown4 fa hg4 hl4 hn4 jj zE);go_roundw
    case rel=>exact⟨k+1,_,by omega,by go_num,WC.out.set_ 1 _,by rw[EQ.out];exact qL.out.setCell (p:=⟨w.heap.size+1,1,none⟩) (qL.out.own_ne (by show w.heap.size+1<w.heap.size+2;omega)) (fun _ h=>h.elim) _,WE.out.far (p:=⟨w.heap.size+1,1,none⟩) (by show w.heap.size≠w.heap.size+1;omega) _,lH.out.setCell (p:=⟨w.heap.size+1,1,none⟩) (by show w.heap.size≤w.heap.size+1;omega) _⟩
    case measure=>simp[intOf];omega
  ·have fI:k=n:=by omega
   have bA:FN.take k=FN:=List.take_of_length_le (by rw[PH.out];omega);have dB:=HO.out;rw[bA] at dB;obtain⟨A4,n4,c4,rfl,hn4⟩:=dB.slice;have qL:=zH dB;clear hn4;have ary:((k:Int)<(n:Int))=False:=eq_false (by omega);obtain⟨z0,z1,z2,z3,z4,z5⟩:=jJ.out.facts3;clear dB bA fI;go_wp2_with fail;refine bC (x:=(⟨key,eK FN fr,0⟩:ag)) (S:=fun b=>w.heap.size+2≤b∧b<wr.heap.size) (cs:=[.string key,.slice A4 n4 c4,.int .i64 0]) rfl rfl (Nat.le_refl _) jJ.out rfl Tryz.underlying113 rfl (by kernel_rfl) ⟨_,_,_,rfl,qL.out.rs8⟩ (fun b hb=>?_) wF.out rfl id;have h1:=hb.1;exact⟨⟨by omega,hb.2⟩,by omega⟩
structure aX where
 name:ByteArray
 prec:List Int
 cont:List Int
instance:bG aX where
 sz:=3
 rep w S cs x:=∃A n c A2 n2 c2,cs=[.string x.name,.slice A n c,.slice A2 n2 c2]∧RS w S A n c x.prec∧RS w S A2 n2 c2 x.cont
 len h:=by obtain⟨A,n,c,A2,n2,c2,rfl,_⟩:=h;rfl
 keep h hS hk:=by
  obtain⟨A,n,c,A2,n2,c2,rfl,h1,h2⟩:=h;exact⟨A,n,c,A2,n2,c2,rfl,h1.keep hS hk,h2.keep hS hk⟩
def dc (a b:aX):Bool:=decide (a.name=b.name)&&(decide (a.prec=b.prec)&&decide (a.cont=b.cont))
set_option maxRecDepth 20000 in
set_option maxHeartbeats 1000000 in
theorem Io {w:World} {S S2:Nat→Prop} {v v2:Value} {a b:aX} (h:SV w S v a) (h2:SV w S2 v2 b) (hS:∀b,S b→b<w.heap.size) (eF:∀b,S2 b→b<w.heap.size) : Calls Tryz.prog 80 #[v,v2] w (gy w (.bool (dc a b))):=by
 obtain⟨cs,rfl,A,n,c,A2,n2,c2,rfl,r1,r2⟩:=h;obtain⟨cs,rfl,A3,n3,c3,A4,n4,c4,rfl,r3,r4⟩:=h2;obtain⟨w1,bj⟩:∃x,(w.alloc (.cells #[.string a.name,.slice A n c,.slice A2 n2 c2] 97)).alloc (.cells #[.string b.name,.slice A3 n3 c3,.slice A4 n4 c4] 97)=x:=⟨_,rfl⟩;have bd:Below w.heap.size w w1:=by rw[←bj];exact((Below.refl _ _).alloc (Nat.le_refl _) _).alloc (by simp) _
 have jz:aK w1 w.heap.size 97 #[.string a.name,.slice A n c,.slice A2 n2 c2]:=by rw[←bj];exact(aK.new _ _ _).alloc _
 have ow:aK w1 (w.heap.size+1) 97 #[.string b.name,.slice A3 n3 c3,.slice A4 n4 c4]:=by
  rw[←bj];have:=aK.new (w.alloc (.cells #[.string a.name,.slice A n c,.slice A2 n2 c2] 97)) 97 #[.string b.name,.slice A3 n3 c3,.slice A4 n4 c4];simpa using this
 have H1:=zH (r1.below bd hS);have H2:=zH (r2.below bd hS);have H3:=zH (r3.below bd eF);have H4:=zH (r4.below bd eF);obtain⟨na,pa,ca⟩:=a;obtain⟨nb,pb,cb⟩:=b;obtain⟨z,hz⟩:∃z,dc ⟨na,pa,ca⟩ ⟨nb,pb,cb⟩=z:=⟨_,rfl⟩;have eh:z=(decide (na=nb)&&(decide (pa=pb)&&decide (ca=cb))):=hz.symm;rw[hz];obtain⟨d0,d1,d2,_,_,_⟩:=jz.facts3;obtain⟨d3,d4,d5,_,_,_⟩:=ow.facts3;have dO:=zH bj;have bS:=zH bd;have HZ:=zH eh;clear bj bd hz eh jz ow r1 r2 r3 r4;go_enter Tryz.func80,Tryz.ntmps80;by_cases hn:na=nb
 ·have av:=HZ.out;rw[decide_eq_true hn,Bool.true_and] at av;have bm:=zH av;have Fl:(na.toList==nb.toList)=true:=by rw[hn];simp
  clear av HZ hn;go_wp2_with fail;rw[dO.out];go_wp2_with fail;refine(Hh H1.out H3.out).mono ?_;rintro e w' ⟨rfl,m,rfl⟩;by_cases hx:pa=pb
  ·have av:=bm.out;rw[decide_eq_true hx,Bool.true_and] at av;rw[decide_eq_true hx];have iL:=zH av;clear av bm hx;go_wp2_with fail;refine(Hh (H2.out.drewN m) (H4.out.drewN m)).mono ?_;rintro e w' ⟨rfl,m2,rfl⟩;rw[←iL.out];go_wp2_with fail;go_ret
   exact⟨rfl,below_drewN bS.out (m+m2)⟩
  ·have av:=bm.out;rw[decide_eq_false hx,Bool.false_and] at av;rw[decide_eq_false hx];have iL:=zH av;clear av bm hx;go_wp2_with fail;go_ret
   exact⟨by rw[iL.out];rfl,below_drewN bS.out m⟩
 ·have av:=HZ.out;rw[decide_eq_false hn,Bool.false_and] at av;have bm:=zH av;have Fl:(na.toList==nb.toList)=false:=by
   have:=Lib.bytes_beq_false_iff na nb;exact this.2 hn
  clear av HZ hn;go_wp2_with fail;rw[dO.out];go_wp2_with fail;go_ret
  exact⟨by rw[bm.out];rfl,bS.out⟩
end Go.Proofs.YtjlhbfbdcfajfaaGreatDoor
