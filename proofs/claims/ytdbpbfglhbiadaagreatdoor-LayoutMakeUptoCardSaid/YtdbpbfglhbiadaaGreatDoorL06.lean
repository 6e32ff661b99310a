/- Nat7 Nat8 Nat9 -/
import Derived.Test.YtdbpbfglhbiadaaGreatDoorL03
import Derived.Outline
import Derived.Test.YtdbpbfglhbiadaaGreatDoorL02
set_option maxHeartbeats 8000000
set_option maxRecDepth 100000
namespace Go.Proofs.YtdbpbfglhbiadaaGreatDoor
open Go.RowKit
def Xz (w:World) (v n:Nat) (en:Ending) (w':World):Prop:=
 ∃(s:Value) (zs:List (BitVec 32)),en=.returned s∧Own w' bz w.heap.size 172 s zs∧val zs=v∧zs.length=n∧Below w.heap.size w w'
theorem xO (M k:Nat):(List.replicate M 0#32).getD k 0#32=0#32:=by
 rw[List.getD_eq_getElem?_getD,List.getElem?_replicate];split<;>rfl
theorem pW {l:List (BitVec 32)} {k:Nat} (z:BitVec 32) (h:k<l.length):(l.set k z).getD k 0#32=z:=by
 rw[List.getD_eq_getElem?_getD,List.getElem?_set_self h];rfl
theorem yJ {l:List (BitVec 32)} {k:Nat} (z:BitVec 32):(l.set (k+1) z).take (k+1)=l.take (k+1):=by
 rw[List.take_set,List.set_eq_of_length_le (by simp;omega)]
theorem I7 {S:Nat→Prop} {A:Option Addr} {n c:Nat} {xs:List (BitVec 32)} {w:World} (sh:Nat) (h:RS w S A n c xs) (hS:∀b,S b→b<w.heap.size) (hn:n≤1073741824) (hs:sh<32) : Calls Tryz.prog 224 #[.slice A n c,.int .i64 sh] w (Xz w (val xs*2^sh) (n+1)):=by
 obtain⟨i0,hi,kI,fF,iO⟩:=info_parts Tryz.u32Info;have HI:=zH hi;have qR:=zH kI;have ku:=zH fF;have lC:=zH iO;have H:=zH h;have HL:=zH h.len;clear h hi kI fF iO;have Jm:(n:Int)+1=((n+1:Nat):Int):=by omega
 obtain⟨M,hM⟩:∃M,n+1=M:=⟨_,rfl⟩;rw[hM] at Jm;rw[hM];have hMb:M≤1073741825:=by omega
 have HM:=zH hM;clear hM;go_enter Tryz.func224,Tryz.ntmps224;go_wp2_with (refine ct (α:=BitVec 32) _ rfl _ _ _ rfl rfl w.heap.size i0 (.int .u32 0) Tryz.underlying26 HI.out qR.out ku.out rfl .i64 .i64 (M:Int) (M:Int) M rfl rfl rfl rfl (by rw[lC.out];omega) (by unfold maxLen;omega) (Nat.le_refl _) 0#32 bz (fun _ h=>h.elim) (fun _ _=>rfl) ?_; intro w1 qX hg1; have jk:=zH qX; have fK:=zH ((Below.refl w.heap.size w).grown hg1 (Nat.le_refl _) (fun k hk=>by cases hk)); clear qX hg1);obtain⟨g,hg⟩:∃g,w.heap.size=g:=⟨_,rfl⟩;rw[hg] at jk;rw[hg];have HG:=zH hg;clear hg Jm;go_loopw [15] (fun i wr=>∃(k:Nat) (zs:List (BitVec 32)),k≤n∧i=.int .i64 k∧zs.length=M∧(zs.getD k 0#32).toNat<2^sh∧val (zs.take k)+4294967296^k*(zs.getD k 0#32).toNat=val (xs.take k)*2^sh∧Own wr bz g 172 (.slice (some ⟨g,0,none⟩) M M) zs∧Below w.heap.size w wr)
  (fun i _=>n-(intOf i).toNat)
 case atStart=>
  have hp:=Nat.two_pow_pos sh;refine⟨0,List.replicate M 0#32,by omega,rfl,by simp,?_,?_,jk.out,fK.out⟩
  ·rw[xO];exact hp
  ·rw[xO];simp[val]
 case round=>
  clear jk fK;obtain⟨k,zs,hk,rfl,z9,vn,iL,ho,hb⟩:=hrel;have jk:=zH ho;have fK:=zH hb;have tl:=zH z9;have kU:=zH iL;have HCL:=zH vn;clear ho hb z9 iL vn;by_cases hlt:k<n
  ·have gX:(k:Int)<(n:Int):=by omega
   have hkM:(k:Int)<(M:Int):=by have:=HM.out;omega
   have asr:(k:Int)+1<(M:Int):=by have:=HM.out;omega
   obtain⟨b,o,x,rfl,_,hx,e1⟩:=(H.out.below fK.out hS).limb_at hlt;have pC:=x.isLt;obtain⟨ft,nC⟩:=jk.out.limb (k:=k) (by rw[tl.out];have:=HM.out;omega);obtain⟨c0,Ql⟩:∃c0,zs.getD k 0#32=c0:=⟨_,rfl⟩;rw[Ql] at ft kU HCL;obtain⟨v,hv⟩:∃v,x.toNat*2^sh=v:=⟨_,rfl⟩;have h2p:2^sh≤2^31:=Nat.pow_le_pow_right (by omega) (by omega);have hvb:v<18446744073709551616:=by
    have:x.toNat*2^sh≤4294967295*2^31:=Nat.mul_le_mul (by omega) h2p;omega
   have hvw:IntKind.u64.wrap ((x.toNat:Int)*2^sh)=(v:Int):=by
    have:(x.toNat:Int)*2^sh=(v:Int):=by rw[←hv,Int.natCast_mul,Int.natCast_pow];rfl
    rw[this,IntKind.wrap_u64];omega
   have hxw:IntKind.u64.wrap (x.toNat:Int)=(x.toNat:Int):=by rw[IntKind.wrap_u64];omega
   have h1:=jr v;obtain⟨z1,fF⟩:∃z,BitVec.ofNat 32 v=z:=⟨_,rfl⟩;have ZK:=eN v;rw[fF] at h1 ZK;have lT:=SP c0 z1;obtain⟨z2,iO⟩:∃z,c0||| z1=z:=⟨_,rfl⟩;have aeN:z2.toNat=c0.toNat+v%4294967296:=by
    rw[←iO,BitVec.toNat_or,ZK,←hv];exact Uq HCL.out (by omega)
   rw[iO] at lT;have hvd:(v:Int)/4294967296=((v/4294967296:Nat):Int):=rfl;have h3:=jr (v/4294967296);obtain⟨z3,hz3⟩:∃z,BitVec.ofNat 32 (v/4294967296)=z:=⟨_,rfl⟩;have ZI:=eN (v/4294967296);rw[hz3] at h3 ZI;have hl3:v/4294967296<2^sh:=by rw[←hv];exact Ur pC
   have ZJ:z3.toNat=v/4294967296:=by rw[ZI,Nat.mod_eq_of_lt (by omega)]
   have fb:=left_step (B:=4294967296) (x:=x.toNat) kU.out;rw[hv] at fb;have WV:=lE hx;have PW:k<zs.length:=by rw[tl.out];have:=HM.out;omega
   have aac:k+1<(zs.set k z2).length:=by rw[List.length_set,tl.out];have:=HM.out;omega
   have nP:val (((zs.set k z2).set (k+1) z3).take (k+1))+4294967296^(k+1)*(((zs.set k z2).set (k+1) z3).getD (k+1) 0#32).toNat=val (xs.take (k+1))*2^sh:=by
    rw[yJ,fh z2 PW,pW z3 aac,aeN,ZJ,WV,Nat.pow_succ];exact fb
   have GI:(((zs.set k z2).set (k+1) z3).getD (k+1) 0#32).toNat<2^sh:=by rw[pW z3 aac,ZJ];exact hl3
   obtain⟨vd,aeQ⟩:∃vd,v/4294967296=vd:=⟨_,rfl⟩;rw[aeQ] at hvd h3;clear aeQ;have hO2:=jk.out.setLimb k z2;obtain⟨akO,asx⟩:=hO2.limb (k:=k+1) aac;have hO3:=hO2.setLimb (k+1) z3;have Fs:=zH hO3;have HJ:=zH nP;have HNL:=zH GI;clear hv h2p fF ZK iO aeN hz3 ZI hl3 ZJ fb WV PW nP GI hO2 hO3 hx Ql;go_wp2_with fail;go_roundw
   case rel=>
    refine⟨k+1,_,by omega,by go_num,by rw[List.length_set,List.length_set];exact tl.out,HNL.out,HJ.out,Fs.out,(fK.out.setCell (by have:=HG.out;simp;omega) _).setCell (by have:=HG.out;simp;omega) _⟩
   case measure=>simp[intOf];omega
  ·have gX:k=n:=by omega
   have eD:val zs=val xs*2^sh:=by
    have h1:=kU.out;rw[gX,←bp,bL _ _ (by rw[tl.out];have:=HM.out;omega),bL xs _ (by rw[HL.out];exact Nat.le_refl _)] at h1;exact h1
   have yy:=zH eD;clear eD gX;go_wp2_with fail;go_ret
   exact⟨_,zs,rfl,by rw[HG.out];exact jk.out,yy.out,tl.out,fK.out⟩
theorem ad3 (x y:Nat) (hx:x<4294967296) (hy:y<4294967296):bits .or .u64 (x:Int) ((y:Int)*4294967296)=((x+4294967296*y:Nat):Int):=by
 have e:(y:Int)*4294967296=((y*4294967296:Nat):Int):=by omega
 rw[e,u64_or_nat _ _ (by omega) (by omega),Nat.or_comm,Dw _ _ hx];congr 1;omega
theorem N3 {S:Nat→Prop} {A:Option Addr} {n c:Nat} {xs:List (BitVec 32)} {w:World} (sh:Nat) (h:RS w S A n c xs) (hS:∀b,S b→b<w.heap.size) (hn:n≤1073741824) (hs:sh<32) : Calls Tryz.prog 226 #[.slice A n c,.int .i64 sh] w (Xz w (val xs/2^sh) n):=by
 obtain⟨i0,hi,kI,fF,iO⟩:=info_parts Tryz.u32Info;have HI:=zH hi;have qR:=zH kI;have ku:=zH fF;have lC:=zH iO;have H:=zH h;have HL:=zH h.len;clear h hi kI fF iO;go_enter Tryz.func226,Tryz.ntmps226;go_wp2_with (refine ct (α:=BitVec 32) _ rfl _ _ _ rfl rfl w.heap.size i0 (.int .u32 0) Tryz.underlying26 HI.out qR.out ku.out rfl .i64 .i64 (n:Int) (n:Int) n rfl rfl rfl rfl (by rw[lC.out];omega) (by unfold maxLen;omega) (Nat.le_refl _) 0#32 bz (fun _ h=>h.elim) (fun _ _=>rfl) ?_; intro w1 qX hg1; have jk:=zH qX; have fK:=zH ((Below.refl w.heap.size w).grown hg1 (Nat.le_refl _) (fun k hk=>by cases hk)); clear qX hg1);obtain⟨g,hg⟩:∃g,w.heap.size=g:=⟨_,rfl⟩;rw[hg] at jk;rw[hg];have HG:=zH hg;clear hg;go_loopw [6,12] (fun _ i wr=>∃(k:Nat) (zs:List (BitVec 32)),k≤n∧i=.int .i64 k∧zs.length=n∧val (zs.take k)=val xs/2^sh%4294967296^k∧Own wr bz g 172 (.slice (some ⟨g,0,none⟩) n n) zs∧Below w.heap.size w wr)
  (fun _ i _=>n-(intOf i).toNat)
 case atStart=>exact⟨0,List.replicate n 0#32,by omega,rfl,by simp,by simp[val,Nat.mod_one],jk.out,fK.out⟩
 case round=>
  clear jk fK;obtain⟨k,zs,hk,rfl,z9,iL,ho,hb⟩:=hrel;have jk:=zH ho;have fK:=zH hb;have tl:=zH z9;have kU:=zH iL;clear ho hb z9 iL;by_cases hlt:k<n
  ·have gX:(k:Int)<(n:Int):=by omega
   have fb:=right_step xs k sh (by omega);obtain⟨x,hx⟩:∃x,(xs.getD k 0#32).toNat=x:=⟨_,rfl⟩;obtain⟨y,hy⟩:∃y,(xs.getD (k+1) 0#32).toNat=y:=⟨_,rfl⟩;have pC:x<4294967296:=by rw[←hx];exact eh k
   have Ec:y<4294967296:=by rw[←hy];exact eh (k+1)
   rw[hx,hy] at fb;have lT:=ad3 x y pC Ec;obtain⟨s,Fw⟩:∃s,x+4294967296*y=s:=⟨_,rfl⟩;rw[Fw] at lT fb;have Sn:s<18446744073709551616:=by omega
   obtain⟨t,ht⟩:∃t,s/2^sh=t:=⟨_,rfl⟩;have htd:(s:Int)/2^sh=(t:Int):=by rw[←ht,Int.natCast_ediv,Int.natCast_pow];rfl
   rw[ht] at fb;have h1:=jr t;obtain⟨z,hz⟩:∃z,BitVec.ofNat 32 t=z:=⟨_,rfl⟩;have qW:=eN t;rw[hz] at h1 qW;rw[←qW] at fb;obtain⟨ft,nC⟩:=jk.out.limb (k:=k) (by rw[tl.out];exact hlt);have nP:val ((zs.set k z).take (k+1))=val xs/2^sh%4294967296^(k+1):=by
    rw[fh z (by rw[tl.out];exact hlt),kU.out,OO,fb]
   have oF:(k:Int)+1=((k+1:Nat):Int):=by omega
   obtain⟨k1,aad⟩:∃k1,k+1=k1:=⟨_,rfl⟩;rw[aad] at oF hy nP;have HX:=zH hx;have HY:=zH hy;have HJ:=zH nP;have Wi:=zH aad;clear fb hx hy Fw ht hz qW nP aad;go_wp2_with fail;refine(lq k (H.out.below fK.out hS)).mono ?_;rintro e w' ⟨rfl,rfl⟩;rw[HX.out];go_wp2_with fail;refine(lq k1 (H.out.below fK.out hS)).mono ?_;rintro e w' ⟨rfl,rfl⟩;rw[HY.out];clear oF;go_wp2_with fail;go_roundw
   case rel=>
    exact⟨k+1,zs.set k z,by omega,by go_num,by rw[List.length_set];exact tl.out,by rw[Wi.out];exact HJ.out,jk.out.setLimb k z,fK.out.setCell (by have:=HG.out;simp;omega) _⟩
   case measure=>simp[intOf];omega
  ·have gX:k=n:=by omega
   have eD:val zs=val xs/2^sh:=by
    have h1:=kU.out;rw[gX,bL _ _ (by rw[tl.out];exact Nat.le_refl _),Nat.mod_eq_of_lt] at h1
    ·exact h1
    ·have h2:=eI xs;rw[HL.out] at h2;exact Nat.lt_of_le_of_lt (Nat.div_le_self _ _) h2
   have yy:=zH eD;clear eD gX;go_wp2_with fail;go_ret
   exact⟨_,zs,rfl,by rw[HG.out];exact jk.out,yy.out,tl.out,fK.out⟩
def RJ (w:World) (U V:Nat) (e:Ending) (w':World):Prop:=∃q m:Nat,e=.returned (.int .u64 q)∧U/V≤q∧q≤U/V+1∧q<4294967296∧w'=w.drewN m
theorem ait {us vs:List (BitVec 32)} {j n:Nat} (hn:2≤n) (hv:vs.length=n) (hu:j+n<us.length) : ∃P ul vl,0<P∧ul<P∧vl<P∧ val ((us.drop j).take (n+1))=P*((((us.getD (j+n) 0#32).toNat*4294967296+(us.getD (j+n-1) 0#32).toNat))*4294967296+(us.getD (j+n-2) 0#32).toNat)+ul∧ val vs=P*((vs.getD (n-1) 0#32).toNat*4294967296+(vs.getD (n-2) 0#32).toNat)+vl:=by
 refine⟨4294967296^(n-2),val ((us.drop j).take (n-2)),val (vs.take (n-2)),Nat.pow_pos (by omega),?_,?_,?_,?_⟩
 ·have:=eI ((us.drop j).take (n-2));rw[List.length_take,List.length_drop,Nat.min_eq_left (by omega)] at this;exact this
 ·have:=eI (vs.take (n-2));rw[List.length_take,Nat.min_eq_left (by omega)] at this;exact this
 ·have hg:∀i,((us.drop j).getD i 0#32)=us.getD (j+i) 0#32:=by
   intro i;rw[List.getD_eq_getElem?_getD,List.getD_eq_getElem?_getD,List.getElem?_drop]
  have e1:=bp (us.drop j) n;have e2:=bp (us.drop j) (n-1);have e3:=bp (us.drop j) (n-2);rw[hg] at e1 e2 e3;have f1:n-1+1=n:=by omega
  have f2:n-2+1=n-1:=by omega
  have f3:j+(n-1)=j+n-1:=by omega
  have f4:j+(n-2)=j+n-2:=by omega
  rw[f1,f3] at e2;rw[f2,f4] at e3;have p1:4294967296^n=4294967296^(n-2)*4294967296*4294967296:=by rw[←Nat.pow_succ,←Nat.pow_succ];congr 1;omega
  have p2:4294967296^(n-1)=4294967296^(n-2)*4294967296:=by rw[←Nat.pow_succ];congr 1;omega
  rw[e1,e2,e3,p1,p2]
  grind
 ·have e2:=bp vs (n-1);have e3:=bp vs (n-2);have f1:n-1+1=n:=by omega
  have f2:n-2+1=n-1:=by omega
  rw[f1,bL vs n (by omega)] at e2;rw[f2] at e3;have p2:4294967296^(n-1)=4294967296^(n-2)*4294967296:=by rw[←Nat.pow_succ];congr 1;omega
  rw[e2,e3,p2]
  grind
theorem RS.limbD {w:World} {S:Nat→Prop} {A:Option Addr} {n c:Nat} {xs:List (BitVec 32)} (h:RS w S A n c xs) {k:Nat} (hk:k<n):∃b o,A=some ⟨b,o,none⟩∧w.cell? ⟨b,o+k,none⟩=some (.int .u32 ((xs.getD k 0#32).toNat:Int)):=by
 obtain⟨b,o,x,rfl,_,hx,e⟩:=h.limb_at hk;exact⟨b,o,rfl,by rw[List.getD_eq_getElem?_getD,hx];exact e⟩
theorem Qt {Su Sv:Nat→Prop} {Au Av:Option Addr} {nu cu n cv:Nat} {us vs:List (BitVec 32)} {w:World} (j:Nat) (hu:RS w Su Au nu cu us) (hv:RS w Sv Av n cv vs) (hn:2≤n) (hj:j+n<nu) (hnu:nu≤2147483648) (hh:2147483648≤(vs.getD (n-1) 0#32).toNat) (hlt:val ((us.drop j).take (n+1))<val vs*4294967296) : Calls Tryz.prog 249 #[.slice Au nu cu,.slice Av n cv,.int .i64 j] w (RJ w (val ((us.drop j).take (n+1))) (val vs)):=by
 obtain⟨P,ul,vl,hP,Sj,Cy,eU,eV⟩:=ait (us:=us) (vs:=vs) (j:=j) hn hv.len (by rw[hu.len];exact hj);obtain⟨bu,ou,rfl,c1⟩:=hu.limbD (k:=j+n) hj;obtain⟨bu',ou',nQ,c2⟩:=hu.limbD (k:=j+n-1) (by omega);obtain⟨rfl,rfl⟩:bu=bu'∧ou=ou':=by injection nQ with nQ;injection nQ with h1 h2;exact⟨h1,h2⟩
 obtain⟨bu',ou',nQ,c3⟩:=hu.limbD (k:=j+n-2) (by omega);obtain⟨rfl,rfl⟩:bu=bu'∧ou=ou':=by injection nQ with nQ;injection nQ with h1 h2;exact⟨h1,h2⟩
 obtain⟨bv,ov,rfl,c4⟩:=hv.limbD (k:=n-1) (by omega);obtain⟨bv',ov',nQ,c5⟩:=hv.limbD (k:=n-2) (by omega);obtain⟨rfl,rfl⟩:bv=bv'∧ov=ov':=by injection nQ with nQ;injection nQ with h1 h2;exact⟨h1,h2⟩
 have l1:=eh (l:=us) (j+n);have l2:=eh (l:=us) (j+n-1);have l3:=eh (l:=us) (j+n-2);have l4:=eh (l:=vs) (n-1);have l5:=eh (l:=vs) (n-2);obtain⟨U,hU⟩:∃U,val ((us.drop j).take (n+1))=U:=⟨_,rfl⟩;obtain⟨V,hV⟩:∃V,val vs=V:=⟨_,rfl⟩;obtain⟨u0,h0⟩:∃u0,(us.getD (j+n) 0#32).toNat=u0:=⟨_,rfl⟩;obtain⟨u1,h1⟩:∃u1,(us.getD (j+n-1) 0#32).toNat=u1:=⟨_,rfl⟩;obtain⟨u2,h2⟩:∃u2,(us.getD (j+n-2) 0#32).toNat=u2:=⟨_,rfl⟩;obtain⟨h,h3⟩:∃h,(vs.getD (n-1) 0#32).toNat=h:=⟨_,rfl⟩;obtain⟨v2,h4⟩:∃v2,(vs.getD (n-2) 0#32).toNat=v2:=⟨_,rfl⟩;rw[hU,hV] at hlt;rw[hU,h0,h1,h2] at eU;rw[hV,h3,h4] at eV;rw[h0] at c1 l1;rw[h1] at c2 l2;rw[h2] at c3 l3;rw[h3] at c4 l4 hh;rw[h4] at c5 l5;rw[hU,hV];obtain⟨T,hT⟩:∃T,u0*4294967296+u1=T:=⟨_,rfl⟩;have lT:=YR u0 u1 l1 l2;rw[hT] at lT eU;have hTb:T<18446744073709551616:=by omega
 have hTt:=LG eU eV Cy l5 hlt;have GL:=Eo eU Sj l3 eV (by omega);have hcu:=hu.cap;have SA:=hv.cap;have EU:=zH eU;have EV:=zH eV;have FD:=zH hTt;have HUL:=zH Sj;have HVL:=zH Cy;obtain⟨a,ha⟩:∃a,j+n=a:=⟨_,rfl⟩;obtain⟨b,hb⟩:∃b,j+n-1=b:=⟨_,rfl⟩;obtain⟨c,hc⟩:∃c,j+n-2=c:=⟨_,rfl⟩;obtain⟨d,hd⟩:∃d,n-1=d:=⟨_,rfl⟩;obtain⟨f,hf⟩:∃f,n-2=f:=⟨_,rfl⟩;rw[ha] at c1;rw[hb] at c2;rw[hc] at c3;rw[hd] at c4;rw[hf] at c5;have i1:(j:Int)+(n:Int)=(a:Int):=by omega
 have i2:(a:Int)-1=(b:Int):=by omega
 have i3:(a:Int)-2=(c:Int):=by omega
 have i4:(n:Int)-1=(d:Int):=by omega
 have i5:(n:Int)-2=(f:Int):=by omega
 have k1:(a:Int)<(nu:Int):=by omega
 have k2:(b:Int)<(nu:Int):=by omega
 have k3:(c:Int)<(nu:Int):=by omega
 have k4:(d:Int)<(n:Int):=by omega
 have k5:(f:Int)<(n:Int):=by omega
 have wa:IntKind.i64.wrap (a:Int)=(a:Int):=by rw[IntKind.wrap_i64];omega
 have wb:IntKind.i64.wrap (b:Int)=(b:Int):=by rw[IntKind.wrap_i64];omega
 have wc:IntKind.i64.wrap (c:Int)=(c:Int):=by rw[IntKind.wrap_i64];omega
 have w0:IntKind.u64.wrap (u0:Int)=(u0:Int):=by rw[IntKind.wrap_u64];omega
 have w1:IntKind.u64.wrap (u1:Int)=(u1:Int):=by rw[IntKind.wrap_u64];omega
 have w2:IntKind.u64.wrap (u2:Int)=(u2:Int):=by rw[IntKind.wrap_u64];omega
 have w3:IntKind.u64.wrap (h:Int)=(h:Int):=by rw[IntKind.wrap_u64];omega
 have w4:IntKind.u64.wrap (v2:Int)=(v2:Int):=by rw[IntKind.wrap_u64];omega
 have w5:IntKind.u64.wrap ((u0:Int)*4294967296)=(u0:Int)*4294967296:=by rw[IntKind.wrap_u64];omega
 have hu0:((h:Int)==0)=false:=by rw[beq_eq_false_iff_ne];omega
 obtain⟨q0,PL⟩:∃q,T/h=q:=⟨_,rfl⟩;obtain⟨r0,Cz⟩:∃r,T%h=r:=⟨_,rfl⟩;have Fx:q0*h+r0=T:=by rw[←PL,←Cz,Nat.mul_comm];exact Nat.div_add_mod T h
 have ae4:r0<4294967296:=by have:=Nat.mod_lt T (show 0<h by omega);omega
 have ae9:q0<18446744073709551616:=by have:=Nat.div_le_self T h;omega
 rw[PL] at GL;have WW:(T:Int).tdiv (h:Int)=(q0:Int):=by rw[←PL];rfl
 have Sp:(T:Int).tmod (h:Int)=(r0:Int):=by rw[←Cz];rfl
 have ae7:(T:Int)/(h:Int)=(q0:Int):=by rw[←PL];rfl
 have aeZ:(T:Int)%(h:Int)=(r0:Int):=by rw[←Cz];rfl
 have wq:IntKind.u64.wrap (q0:Int)=(q0:Int):=by rw[IntKind.wrap_u64];omega
 have wr0:IntKind.u64.wrap (r0:Int)=(r0:Int):=by rw[IntKind.wrap_u64];omega
 have HFI:=zH GL;have HQR:=zH Fx;have HUB:Hid (U/V<4294967296):=zH (Nat.div_lt_of_lt_mul hlt);clear eU eV hTt Sj Cy GL ha hb hc hd hf h0 h1 h2 h3 h4 hU hV hT hlt hu hv hP PL Cz Fx;go_enter Tryz.func249,Tryz.ntmps249;go_wp2_with fail;go_quiet (fail)
 go_wp2_with fail;go_quiet (fail)
 go_wp2_with fail;go_loopw [10,11] (fun qv rv wr=>∃(q r m:Nat),qv=.int .u64 q∧rv=.int .u64 r∧q*h+r=T∧U/V≤q∧r<4294967296∧q<18446744073709551616∧wr=w.drewN m)
  (fun qv _ _=>(intOf qv).toNat)
 case atStart=>exact⟨q0,r0,_,rfl,rfl,HQR.out,HFI.out,ae4,ae9,World.drewN_drewN _ _ _⟩
 case round=>
  clear wq wr0 WW ae7 Sp aeZ lT HQR HFI ae4 ae9;obtain⟨q,r,m,rfl,rfl,Fx,nU,hr,hq,rfl⟩:=hrel;have HQR:=zH Fx;have CI:=zH nU;have wh:IntKind.u64.wrap ((r:Int)+(h:Int))=(r:Int)+(h:Int):=by rw[IntKind.wrap_u64];omega
  by_cases hB:4294967296≤q
  ·have hB':(4294967296:Int)≤(q:Int):=by omega
   have wq1:IntKind.u64.wrap ((q:Int)-1)=(q:Int)-1:=by rw[IntKind.wrap_u64];omega
   have Sq:1≤q:=by omega
   have GF:(q-1)*h+(r+h)=T:=by
    have e:q=q-1+1:=by omega
    rw[e,Nat.add_mul] at Fx;omega
   have GK:U/V≤q-1:=by have:=HUB.out;omega
   have Cs:=zH GF;have H7:=zH GK;obtain⟨q',MB⟩:∃x,q-1=x:=⟨_,rfl⟩;obtain⟨r',j4⟩:∃x,r+h=x:=⟨_,rfl⟩;rw[MB,j4] at Cs;rw[MB] at H7;have iq:(q:Int)-1=(q':Int):=by omega
   have ir:(r:Int)+(h:Int)=(r':Int):=by omega
   rw[iq] at wq1;rw[ir] at wh;by_cases hR:4294967296≤r'
   ·have hR':(4294967296:Int)≤(r':Int):=by omega
    have Lu:=xN (u2:=u2) Cs.out FD.out hR l5;have Jq:=qO EU.out EV.out HVL.out (by omega) Cs.out Lu.1 Lu.2;have eD:Hid (U/V≤q'∧q'≤U/V+1∧q'<4294967296):=zH ⟨H7.out,Jq,Lu.1⟩;clear Fx nU GF GK Lu Jq MB j4 hR hB;go_wp2_with fail;go_quiet (fail)
    go_wp2_with fail;go_ret
    exact⟨q',_,rfl,eD.out.1,eD.out.2.1,eD.out.2.2,rfl⟩
   ·have hR':(r':Int)<(4294967296:Int):=by omega
    have hR2:¬((4294967296:Int)≤(r':Int)):=by omega
    have hR3:decide ((4294967296:Int)≤(r':Int))=false:=decide_eq_false hR2;have Af:r'<4294967296:=by omega
    have CB:q'<18446744073709551616:=by omega
    have WW:q'<q:=by omega
    clear Fx nU GF GK hB MB j4 hR;go_wp2_with fail;go_quiet (fail)
    go_wp2_with fail;go_roundw
    case rel=>exact⟨q',r',_,rfl,rfl,Cs.out,H7.out,Af,CB,rfl⟩
    case measure=>simp[intOf];omega
  ·have hB':(q:Int)<(4294967296:Int):=by omega
   have hB2:¬((4294967296:Int)≤(q:Int)):=by omega
   have hB3:decide ((4294967296:Int)≤(q:Int))=false:=decide_eq_false hB2;obtain⟨p,hp⟩:∃p,q*v2=p:=⟨_,rfl⟩;obtain⟨s,hs⟩:∃s,r*4294967296+u2=s:=⟨_,rfl⟩;have yS:p≤4294967295*4294967295:=by rw[←hp];exact Nat.mul_le_mul (by omega) (by omega)
   have ip:(q:Int)*(v2:Int)=(p:Int):=by rw[←hp];omega
   have wp':IntKind.u64.wrap (p:Int)=(p:Int):=by rw[IntKind.wrap_u64];omega
   have wr':IntKind.u64.wrap ((r:Int)*4294967296)=(r:Int)*4294967296:=by rw[IntKind.wrap_u64];omega
   have akh:=YR r u2 hr l3;rw[hs] at akh;by_cases Z2:s<p
   ·have hbig:=LH EU.out HUL.out EV.out Fx (by rw[hs,hp];exact Z2);have akd:(s:Int)<(p:Int):=by omega
    have Sq:1≤q:=Nat.lt_of_le_of_lt (Nat.zero_le _) hbig;have wq1:IntKind.u64.wrap ((q:Int)-1)=(q:Int)-1:=by rw[IntKind.wrap_u64];omega
    have GF:(q-1)*h+(r+h)=T:=by
     have e:q=q-1+1:=by omega
     rw[e,Nat.add_mul] at Fx;omega
    have GK:U/V≤q-1:=Nat.le_sub_one_of_lt hbig;have Cs:=zH GF;have H7:=zH GK;obtain⟨q',MB⟩:∃x,q-1=x:=⟨_,rfl⟩;obtain⟨r',j4⟩:∃x,r+h=x:=⟨_,rfl⟩;rw[MB,j4] at Cs;rw[MB] at H7;have iq:(q:Int)-1=(q':Int):=by omega
    have ir:(r:Int)+(h:Int)=(r':Int):=by omega
    rw[iq] at wq1;rw[ir] at wh;by_cases hR:4294967296≤r'
    ·have hR':(4294967296:Int)≤(r':Int):=by omega
     have Lu:=xN (u2:=u2) Cs.out FD.out hR l5;have Jq:=qO EU.out EV.out HVL.out (by omega) Cs.out Lu.1 Lu.2;have eD:Hid (U/V≤q'∧q'≤U/V+1∧q'<4294967296):=zH ⟨H7.out,Jq,Lu.1⟩;clear Fx nU GF GK Lu Jq MB j4 hR hB hp hs Z2 yS hbig;go_wp2_with fail;go_quiet (fail)
     go_wp2_with fail;go_ret
     exact⟨q',_,rfl,eD.out.1,eD.out.2.1,eD.out.2.2,rfl⟩
    ·have hR':(r':Int)<(4294967296:Int):=by omega
     have hR2:¬((4294967296:Int)≤(r':Int)):=by omega
     have hR3:decide ((4294967296:Int)≤(r':Int))=false:=decide_eq_false hR2;have Af:r'<4294967296:=by omega
     have CB:q'<18446744073709551616:=by omega
     have WW:q'<q:=by omega
     clear Fx nU GF GK hB MB j4 hR hp hs Z2 yS hbig;go_wp2_with fail;go_quiet (fail)
     go_wp2_with fail;go_roundw
     case rel=>exact⟨q',r',_,rfl,rfl,Cs.out,H7.out,Af,CB,rfl⟩
     case measure=>simp[intOf];omega
   ·have akd:(p:Int)≤(s:Int):=by omega
    have akc:¬((s:Int)<(p:Int)):=by omega
    have arZ:decide ((s:Int)<(p:Int))=false:=decide_eq_false akc;have arY:decide (s<p)=false:=decide_eq_false Z2;have Jq:=qO EU.out EV.out HVL.out (by omega) Fx (by omega) (by rw[hs,hp];omega);have eD:Hid (U/V≤q∧q≤U/V+1∧q<4294967296):=zH ⟨nU,Jq,by omega⟩;clear Fx nU Jq hB hp hs Z2 yS;go_wp2_with fail;go_quiet (fail)
    go_wp2_with fail;go_ret
    exact⟨q,_,rfl,eD.out.1,eD.out.2.1,eD.out.2.2,World.drewN_drewN _ _ _⟩
def V5 (w:World) (bs gu nu cu U V m:Nat) (e:Ending) (w':World):Prop:=
 ∃(s:Value) (qs rs:List (BitVec 32)),e=.returned s∧Own w' bz w.heap.size 172 s qs∧val qs=U/V∧qs.length=m∧
  Own w' bz bs 172 (.slice (some ⟨gu,0,none⟩) nu cu) rs∧val rs=U%V∧rs.length=nu∧Below bs w w'
theorem VP (p:Nat) (hp:p<18446744073709551616):bits .and .u64 (p:Int) 4294967295=((p%4294967296:Nat):Int):=by
 have h:=bits_and_u64_nat p 4294967295 hp (by omega);have e:p&&& 4294967295=p%4294967296:=Nat.and_two_pow_sub_one_eq_mod p 32;rw[e] at h;exact h
theorem xk {n V:Nat} {us ts xs qs:List (BitVec 32)} {j q:Nat} {z:BitVec 32} (hj:j+(n+1)≤ts.length) (hV:V<4294967296^n) (UP:val (ts.drop (j+1))<V) (bG:xs.length=ts.length) (h1:xs.take j=ts.take j) (h2:xs.drop (j+(n+1))=ts.drop (j+(n+1))) (hw:val ((xs.drop j).take (n+1))=val ((ts.drop j).take (n+1))%V) (hq:q=val ((ts.drop j).take (n+1))/V) (hz:z.toNat=q) (hjq:j<qs.length) (iL:val us=val ts+V*(4294967296^(j+1)*val (qs.drop (j+1)))):val us=val xs+V*(4294967296^j*val ((qs.set j z).drop j))∧val (xs.drop j)<V:=by
 obtain⟨_,h3,h4⟩:=Gr hj hV UP bG h1 h2 hw;refine⟨?_,h3⟩;rw[pX z hjq,val,hz,iL,h4,←hq,Nat.pow_succ]
 grind
theorem TX {S:Nat→Prop} {Av:Option Addr} {bs gu nu cu n cv:Nat} {us vs:List (BitVec 32)} {w:World} (hu:Own w bz bs 172 (.slice (some ⟨gu,0,none⟩) nu cu) us) (hv:RS w S Av n cv vs) (hS:∀b,S b→b<w.heap.size∧b≠gu) (hn:2≤n) (hnu:n<nu) (afj:nu≤1073741825) (hh:2147483648≤(vs.getD (n-1) 0#32).toNat) (ZQ:val (us.drop (nu-n))<val vs) : Calls Tryz.prog 225 #[.slice (some ⟨gu,0,none⟩) nu cu,.slice Av n cv] w (V5 w bs gu nu cu (val us) (val vs) (nu-n)):=by
 obtain⟨i0,hi,kI,fF,iO⟩:=info_parts Tryz.u32Info;have HI:=zH hi;have qR:=zH kI;have ku:=zH fF;have lC:=zH iO;have HU:=zH hu;have HV:=zH hv;have HUL:=zH hu.rsAll.len;have HSS:=zH hS;have HH:=zH hh;have US:bs≤gu∧gu<w.heap.size:=hu.lt gu rfl;obtain⟨m,hm⟩:∃m,nu-n=m:=⟨_,rfl⟩;rw[hm] at ZQ;rw[hm];have HT:=zH ZQ;have Jm:(nu:Int)-(n:Int)=(m:Int):=by omega
 have hmb:m≤1073741825:=by omega
 have hm0:1≤m:=by omega
 have wm:IntKind.i64.wrap (m:Int)=(m:Int):=by rw[IntKind.wrap_i64];omega
 obtain⟨V,hV⟩:∃V,val vs=V:=⟨_,rfl⟩;rw[hV] at HT;rw[hV];have HVV:=zH hV;clear hu hv hh ZQ hi kI fF iO hV hS;go_enter Tryz.func225,Tryz.ntmps225;go_wp2_with (refine ct (α:=BitVec 32) _ rfl _ _ _ rfl rfl w.heap.size i0 (.int .u32 0) Tryz.underlying26 HI.out qR.out ku.out rfl .i64 .i64 (m:Int) (m:Int) m rfl rfl rfl rfl (by rw[lC.out];omega) (by unfold maxLen;omega) (Nat.le_refl _) 0#32 bz (fun _ h=>h.elim) (fun _ _=>rfl) ?_; intro w1 qX hg1; have jk:=zH qX; have fK:=zH ((Below.refl w.heap.size w).grown hg1 (Nat.le_refl _) (fun k hk=>by cases hk)); clear qX hg1);obtain⟨g,hg⟩:∃g,w.heap.size=g:=⟨_,rfl⟩;rw[hg] at jk US;have HG:=zH hg;have fg:Hid (Below bs w w1):=zH (fK.out.mono (by rw[hg];omega));have HU1:=zH (HU.out.below fK.out);have Wi:Hid (aA S w w1):=zH ((aA.of_below fK.out).sub fun b hb=>(HSS.out b hb).1);clear hg;go_loopw [7] (fun jv wr=>∃(k:Nat) (z:Int) (ts qs:List (BitVec 32)),k≤m∧jv=.int .i64 z∧z+1=k∧ts.length=nu∧qs.length=m∧val us=val ts+V*(4294967296^k*val (qs.drop k))∧val (ts.drop k)<V∧ Own wr bz bs 172 (.slice (some ⟨gu,0,none⟩) nu cu) ts∧Own wr bz g 172 (.slice (some ⟨g,0,none⟩) m m) qs∧aA S w wr∧Below bs w wr)
  (fun jv _=>(intOf jv+1).toNat)
 case atStart=>
  exact⟨m,(m:Int)-1,us,List.replicate m 0#32,Nat.le_refl _,rfl,by omega,HUL.out,by simp,by rw[List.drop_eq_nil_of_le (by simp)];simp[val],HT.out,HU1.out,jk.out,Wi.out,fg.out⟩
 case round=>
  clear jk fK fg HU1 Wi HU;obtain⟨k,z,ts,qs,hk,rfl,hz,Fv,CB,iL,UP,Lv,yT,bX,qM⟩:=hrel;have J1:=zH Fv;have J3:=zH CB;have kU:=zH iL;have RV:=zH UP;have Fp:=zH Lv;have CH:=zH yT;have HK:=zH bX;have HB:=zH qM;have HVR:=zH (HV.out.keep (fun b hb=>hb) bX);clear Fv CB iL UP Lv yT bX qM;rcases k with _|j
  ·obtain rfl:z= -1:=by omega
   have eD:val qs=val us/V∧val ts=val us%V:=by
    have h1:=kU.out;have h2:=RV.out;rw[List.drop_zero] at h1 h2;rw[Nat.pow_zero,Nat.one_mul] at h1;exact AB (by rw[Nat.mul_comm,h1];omega) h2
   have HF:=zH eD;clear eD hz;go_wp2_with fail;go_ret
   exact⟨_,qs,ts,rfl,by rw[HG.out];exact CH.out,HF.out.1,J3.out,Fp.out,HF.out.2,J1.out,HB.out⟩
  ·obtain rfl:z=j:=by omega
   have hjn:j+(n+1)≤nu:=by omega
   have Lr:=XL (n:=n) (by rw[J1.out];exact hjn) RV.out;have HWL:=zH Lr;clear Lr hz;go_wp2_with fail;refine(Qt j Fp.out.rsAll HVR.out hn (by omega) (by omega) HH.out (by rw[HVV.out];exact HWL.out)).mono ?_;rintro e w' ⟨q,mm,rfl,nU,vm,hqB,rfl⟩;rw[HVV.out] at nU vm;have CI:=zH nU;have HHI:=zH vm;have RU:=zH (Fp.out.drewN mm);have ab4:=zH (CH.out.drewN mm);have RX:Hid (aA S w (wr.drewN mm)):=zH HK.out;have fg:=zH (below_drewN HB.out mm);obtain⟨wd,Ed⟩:∃x,wr.drewN mm=x:=⟨_,rfl⟩;rw[Ed] at RU ab4 RX fg;rw[Ed];clear nU vm Ed Fp CH HK HB HVR;obtain⟨N,hN⟩:∃N,n+1=N:=⟨_,rfl⟩;have hN1:(n:Int)+1=(N:Int):=by omega
   have wN:IntKind.i64.wrap (N:Int)=(N:Int):=by rw[IntKind.wrap_i64];omega
   go_wp2_with fail;go_loopw [9,10,38] (fun bv cv iv wr=>∃(b c i:Nat) (xs:List (BitVec 32)),i≤N∧iv=.int .i64 i∧bv=.int .u64 b∧cv=.int .u64 c∧b≤1∧c<4294967296∧(n<i→c=0)∧xs.length=nu∧xs.take j=ts.take j∧xs.drop (j+i)=ts.drop (j+i)∧ val ((xs.drop j).take i)+q*val (vs.take i)=val ((ts.drop j).take i)+4294967296^i*(c+b)∧ Own wr bz bs 172 (.slice (some ⟨gu,0,none⟩) nu cu) xs∧Own wr bz g 172 (.slice (some ⟨g,0,none⟩) m m) qs∧aA S w wr∧Below bs w wr)
    (fun _ _ iv _=>N-(intOf iv).toNat)
   case atStart=>exact⟨0,0,0,ts,Nat.zero_le _,rfl,rfl,rfl,Nat.zero_le _,by omega,by omega,J1.out,rfl,rfl,by simp[val],RU.out,ab4.out,RX.out,fg.out⟩
   case round=>
    clear RU ab4 RX fg;obtain⟨b,c,i,xs,hi,rfl,rfl,rfl,hb,hc,UX,pC,hxt,ZM,iL,Lv,yT,bX,qM⟩:=hrel;have HXL:=zH pC;have HXT:=zH hxt;have HXD:=zH ZM;have XD:=zH iL;have Fp:=zH Lv;have CH:=zH yT;have HK:=zH bX;have HB:=zH qM;have HCN:=zH UX;have HVR:Hid (RS wr S Av n cv vs):=zH (HV.out.keep (fun b hb=>hb) bX);clear pC hxt ZM iL Lv yT bX qM UX;by_cases hlt:i<N
    ·have P3:(i:Int)<(N:Int):=by omega
     have P1:j+i<nu:=by omega
     obtain⟨y,hy⟩:∃y,(vs.getD i 0#32).toNat=y:=⟨_,rfl⟩;obtain⟨x,hx⟩:∃x,(xs.getD (j+i) 0#32).toNat=x:=⟨_,rfl⟩;have Ec:y<4294967296:=by rw[←hy];exact(vs.getD i 0#32).isLt
     have pC:x<4294967296:=by rw[←hx];exact(xs.getD (j+i) 0#32).isLt
     obtain⟨ft,nC⟩:=Fp.out.limb (k:=j+i) (by rw[HXL.out];exact P1);rw[hx] at ft;obtain⟨p0,PO⟩:∃p,q*y=p:=⟨_,rfl⟩;have ar5:p0≤4294967295*4294967295:=by rw[←PO];exact Nat.mul_le_mul (by omega) (by omega)
     have ar6:(q:Int)*(y:Int)=(p0:Int):=by rw[←PO];exact(Int.natCast_mul _ _).symm
     obtain⟨p,hp⟩:∃p,p0+c=p:=⟨_,rfl⟩;have hpi:(p0:Int)+(c:Int)=(p:Int):=by omega
     have yS:p<18446744073709551616:=by omega
     have wp0:IntKind.u64.wrap (p0:Int)=(p0:Int):=by rw[IntKind.wrap_u64];omega
     have wp1:IntKind.u64.wrap (p:Int)=(p:Int):=by rw[IntKind.wrap_u64];omega
     obtain⟨c',Qm⟩:∃c',p/4294967296=c':=⟨_,rfl⟩;have hcd:(p:Int)/4294967296=(c':Int):=by rw[←Qm];rfl
     have akR:c'<4294967296:=by omega
     have hand:=VP p yS;obtain⟨pm,hpm⟩:∃z,p%4294967296=z:=⟨_,rfl⟩;rw[hpm] at hand;have ar1:pm<4294967296:=by omega
     obtain⟨s,hs⟩:∃s,4294967296+x-pm-b=s:=⟨_,rfl⟩;obtain⟨s1,nM⟩:∃s,4294967296+x=s:=⟨_,rfl⟩;obtain⟨s2,Fw⟩:∃s,s1-pm=s:=⟨_,rfl⟩;have aj4:(4294967296:Int)+(x:Int)=(s1:Int):=by omega
     have arT:(s1:Int)-(pm:Int)=(s2:Int):=by omega
     have hsi:(s2:Int)-(b:Int)=(s:Int):=by omega
     have ws1:IntKind.u64.wrap (s1:Int)=(s1:Int):=by rw[IntKind.wrap_u64];omega
     have ws2:IntKind.u64.wrap (s2:Int)=(s2:Int):=by rw[IntKind.wrap_u64];omega
     have ws:IntKind.u64.wrap (s:Int)=(s:Int):=by rw[IntKind.wrap_u64];omega
     have wx:IntKind.u64.wrap (x:Int)=(x:Int):=by rw[IntKind.wrap_u64];omega
     obtain⟨d,hd⟩:∃d,s/4294967296=d:=⟨_,rfl⟩;have UK:(s:Int)/4294967296=(d:Int):=by rw[←hd];rfl
     have Xa:d≤1:=by omega
     obtain⟨b',nQ⟩:∃b',1-d=b':=⟨_,rfl⟩;have hbi:(1:Int)-(d:Int)=(b':Int):=by omega
     have wb:IntKind.u64.wrap (b':Int)=(b':Int):=by rw[IntKind.wrap_u64];omega
     have Ac:=jr s;obtain⟨t,ht⟩:∃t,BitVec.ofNat 32 s=t:=⟨_,rfl⟩;have Sk:=eN s;rw[ht] at Ac Sk;obtain⟨k,mn⟩:∃k,j+i=k:=⟨_,rfl⟩;have hki:(i:Int)+(j:Int)=(k:Int):=by omega
     have wk:IntKind.i64.wrap (k:Int)=(k:Int):=by rw[IntKind.wrap_i64];omega
     have gX:(k:Int)<(nu:Int):=by omega
     have hw:=If t (by rw[HXL.out];exact P1) HXT.out HXD.out;have e1:=bp (ts.drop j) i;have e2:=bp vs i;have fb:=K9 (B:=4294967296) rfl pC (show q*y+c=p by rw[PO];exact hp) (show 4294967296+x-p%4294967296-b=s by rw[hpm];exact hs) hb XD.out;have e3:(ts.drop j).getD i 0#32=ts.getD (j+i) 0#32:=by rw[List.getD_eq_getElem?_getD,List.getD_eq_getElem?_getD,List.getElem?_drop]
     rw[e3,←hw.2.2.2,hx] at e1;rw[hy] at e2;rw[←e1,←e2,Qm,hd,nQ,←Sk,←hw.2.2.1,←Nat.pow_succ] at fb;have afG:n<i+1→c'=0:=by
      intro h;have yR:y=0:=by
       rw[←hy,List.getD_eq_getElem?_getD,List.getElem?_eq_none (by rw[HV.out.len];omega)];rfl
      rw[yR,Nat.mul_zero] at PO;omega
     rw[mn] at hw fb ft nC;have oS:=zH hw.1;have HW2:=zH hw.2.1;have AM:=zH fb;have ano:=zH afG;have HY:=zH hy;clear hw fb afG hy hx e1 e2 e3 PO hp Qm hpm hs nM Fw hd nQ ht Sk mn XD hN hm;go_wp2_with fail;refine(lq i HVR.out).mono ?_;rintro e w' ⟨rfl,rfl⟩;rw[HY.out];go_wp2_with fail;go_roundw
     case rel=>exact⟨b',c',i+1,xs.set k t,by omega,by go_num,rfl,rfl,by omega,akR,ano.out,by rw[List.length_set];exact HXL.out,oS.out,HW2.out,AM.out,Fp.out.setLimb k t,CH.out.setCell (by simp[Value.ownBlock];omega) (fun _ h=>h.elim) _,HK.out.setCell (fun hb=>(HSS.out _ hb).2 rfl) _,HB.out.setCell US.1 _⟩
     case measure=>simp[intOf];omega
    ·have P3:i=N:=by omega
     have Ql:=HCN.out (by omega);have P2:=XD.out;rw[Ql] at P2;clear Ql;rw[bL vs i (by rw[HV.out.len];omega),HVV.out] at P2;have Lr:=eI ((xs.drop j).take i);have Sx:((xs.drop j).take i).length=i:=by rw[List.length_take,List.length_drop,HXL.out];omega
     rw[Sx] at Lr;have hVp:0<V:=Nat.lt_of_le_of_lt (Nat.zero_le _) RV.out;have hVn:V<4294967296^n:=by rw[←HVV.out,←HV.out.len];exact eI vs
     rw[P3,←hN] at P2 Lr;have ZM:xs.drop (j+(n+1))=ts.drop (j+(n+1)):=by rw[hN,←P3];exact HXD.out
     obtain⟨h0,h1⟩:=OM hVp Lr CI.out HHI.out hb P2;have hjm:(j:Int)<(m:Int):=by omega
     obtain⟨ft,nC⟩:=CH.out.limb (k:=j) (by rw[J3.out];omega);rw[←HG.out] at ft nC;have hgl:w.heap.size≠gu:=by have:=HG.out;omega
     have HGU:Hid (gu<w.heap.size):=zH (by rw[HG.out];exact US.2);rcases Nat.eq_zero_or_pos b with hb0|hb0
     ·obtain⟨hq,PE⟩:=h0 hb0;have Qo:decide (0<b)=false:=decide_eq_false (by omega);have hbg:(0<b)=False:=eq_false (by omega);have Ac:=jr q;obtain⟨zq,Px⟩:∃z,BitVec.ofNat 32 q=z:=⟨_,rfl⟩;have fL:=eN q;rw[Px] at Ac fL;have qW:zq.toNat=q:=by omega
      have PQ:=xk (us:=us) (qs:=qs) (by rw[J1.out];exact hjn) hVn RV.out (by rw[HXL.out,J1.out]) HXT.out ZM PE hq qW (by rw[J3.out];omega) kU.out;have RP:=zH PQ;have q1:Own (wr.setCell ⟨w.heap.size,j,none⟩ (.int .u32 (zq.toNat:Int))) bz bs 172 (.slice (some ⟨gu,0,none⟩) nu cu) xs:=Fp.out.setCell (by simp[Value.ownBlock];omega) (fun _ h=>h.elim) _;have q2:Own (wr.setCell ⟨w.heap.size,j,none⟩ (.int .u32 (zq.toNat:Int))) bz g 172 (.slice (some ⟨g,0,none⟩) m m) (qs.set j zq):=by rw[HG.out];exact CH.out.setLimb j zq
      have q3:aA S w (wr.setCell ⟨w.heap.size,j,none⟩ (.int .u32 (zq.toNat:Int))):=HK.out.setCell (fun hb=>Nat.lt_irrefl _ (HSS.out _ hb).1) _;have q4:Below bs w (wr.setCell ⟨w.heap.size,j,none⟩ (.int .u32 (zq.toNat:Int))):=HB.out.setCell (by have:=HG.out;simp;omega) _;have Q1:=zH q1;have Q2:=zH q2;have Q3:=zH q3;have Q4:=zH q4;clear PQ hq PE h0 h1 P2 Lr Sx Px fL qW hN ZM P3 hb0 q1 q2 q3 q4;have aaf:((i:Int)<(N:Int))=False:=eq_false (by omega);go_wp2_with fail;go_roundw
      case rel=>exact⟨j,(j:Int)-1,xs,qs.set j zq,by omega,by go_num,by omega,HXL.out,by rw[List.length_set];exact J3.out,RP.out.1,RP.out.2,Q1.out,Q2.out,Q3.out,Q4.out⟩
      case measure=>simp[intOf]
     ·obtain⟨hq,PE⟩:=h1 hb0;have cK:b=1:=by omega
      obtain⟨q1,Sq⟩:∃q1,q-1=q1:=⟨_,rfl⟩;have PL:1≤q:=by rw[hq];exact Nat.le_add_left _ _
      have arW:(q:Int)-1=(q1:Int):=by omega
      have ae8:q1=val ((ts.drop j).take (n+1))/V:=by rw[←Sq,hq];rfl
      have wq1:IntKind.u64.wrap (q1:Int)=(q1:Int):=by rw[IntKind.wrap_u64];omega
      have Ac:=jr q1;obtain⟨zq,Px⟩:∃z,BitVec.ofNat 32 q1=z:=⟨_,rfl⟩;have fL:=eN q1;rw[Px] at Ac fL;have qW:zq.toNat=q1:=by omega
      have hbg:(0<b)=True:=eq_true (by omega);have Qo:decide (0<b)=true:=decide_eq_true (by omega);have aaf:((i:Int)<(N:Int))=False:=eq_false (by omega);obtain⟨U1,hU1⟩:∃U1,val ((xs.drop j).take (n+1))=U1:=⟨_,rfl⟩;obtain⟨RR,hRR⟩:∃U1,val ((ts.drop j).take (n+1))%V=U1:=⟨_,rfl⟩;have Fo:=zH hRR;have HQ1:=zH ae8;have HZN:=zH qW;have amK:=zH ZM;have amM:=zH PE;have HN:=zH hN;clear h0 h1 P2 Lr Sx Px fL qW hN ZM P3 hb0 hq PE hU1 hRR Sq ae8 cK XD HXD;go_wp2_with fail;go_loopw [10,80] (fun cv iv wr=>∃(c i:Nat) (ys:List (BitVec 32)),i≤N∧iv=.int .i64 i∧cv=.int .u64 c∧c≤1∧ys.length=nu∧ys.take j=xs.take j∧ys.drop (j+i)=xs.drop (j+i)∧ val ((ys.drop j).take i)+4294967296^i*c=val ((xs.drop j).take i)+val (vs.take i)∧ Own wr bz bs 172 (.slice (some ⟨gu,0,none⟩) nu cu) ys∧Own wr bz g 172 (.slice (some ⟨g,0,none⟩) m m) qs∧aA S w wr∧Below bs w wr)
       (fun _ iv _=>N-(intOf iv).toNat)
      case atStart=>exact⟨0,0,xs,Nat.zero_le _,rfl,rfl,Nat.zero_le _,HXL.out,rfl,rfl,by simp[val],Fp.out,CH.out,HK.out,HB.out⟩
      case round=>
       clear Fp CH HK HB HVR hi hlt aaf ft nC hc hb hbg Qo;obtain⟨c,i,ys,hi,rfl,rfl,hc,Ec,hyt,WT,iL,Lv,yT,bX,qM⟩:=hrel;have HYL:=zH Ec;have HYT:=zH hyt;have HYD:=zH WT;have XD:=zH iL;have Fp:=zH Lv;have CH:=zH yT;have HK:=zH bX;have HB:=zH qM;have HVR:Hid (RS wr S Av n cv vs):=zH (HV.out.keep (fun b hb=>hb) bX);clear Ec hyt WT iL Lv yT bX qM;by_cases hlt:i<N
       ·have P3:(i:Int)<(N:Int):=by omega
        have P1:j+i<nu:=by have:=HN.out;omega
        obtain⟨y,hy⟩:∃y,(vs.getD i 0#32).toNat=y:=⟨_,rfl⟩;obtain⟨x,hx⟩:∃x,(ys.getD (j+i) 0#32).toNat=x:=⟨_,rfl⟩;have Ec:y<4294967296:=by rw[←hy];exact(vs.getD i 0#32).isLt
        have pC:x<4294967296:=by rw[←hx];exact(ys.getD (j+i) 0#32).isLt
        obtain⟨ft,nC⟩:=Fp.out.limb (k:=j+i) (by rw[HYL.out];exact P1);rw[hx] at ft;obtain⟨s,hs⟩:∃s,x+y+c=s:=⟨_,rfl⟩;obtain⟨s1,nM⟩:∃s,x+y=s:=⟨_,rfl⟩;have aj4:(x:Int)+(y:Int)=(s1:Int):=by omega
        have hsi:(s1:Int)+(c:Int)=(s:Int):=by omega
        have ws1:IntKind.u64.wrap (s1:Int)=(s1:Int):=by rw[IntKind.wrap_u64];omega
        have ws:IntKind.u64.wrap (s:Int)=(s:Int):=by rw[IntKind.wrap_u64];omega
        have wx:IntKind.u64.wrap (x:Int)=(x:Int):=by rw[IntKind.wrap_u64];omega
        obtain⟨d,hd⟩:∃d,s/4294967296=d:=⟨_,rfl⟩;have UK:(s:Int)/4294967296=(d:Int):=by rw[←hd];rfl
        have Xa:d≤1:=by omega
        have ajZ:=jr s;obtain⟨t,ht⟩:∃t,BitVec.ofNat 32 s=t:=⟨_,rfl⟩;have Sk:=eN s;rw[ht] at ajZ Sk;obtain⟨k,mn⟩:∃k,j+i=k:=⟨_,rfl⟩;have hki:(i:Int)+(j:Int)=(k:Int):=by omega
        have wk:IntKind.i64.wrap (k:Int)=(k:Int):=by rw[IntKind.wrap_i64];omega
        have gX:(k:Int)<(nu:Int):=by omega
        have hw:=If t (by rw[HYL.out];exact P1) HYT.out HYD.out;have e1:=bp (xs.drop j) i;have e2:=bp vs i;have fb:=Fh hs XD.out;have e3:(xs.drop j).getD i 0#32=xs.getD (j+i) 0#32:=by rw[List.getD_eq_getElem?_getD,List.getD_eq_getElem?_getD,List.getElem?_drop]
        rw[e3,←hw.2.2.2,hx] at e1;rw[hy] at e2;rw[←e1,←e2,hd,←Sk,←hw.2.2.1,←Nat.pow_succ] at fb;rw[mn] at hw fb ft nC;have oS:=zH hw.1;have HW2:=zH hw.2.1;have AM:=zH fb;have agL:Hid (∀z,Calls Tryz.prog 250 #[.slice Av n cv,.int .i64 i] (wr.drewN z) (gW (wr.drewN z) (.int .u64 (y:Int)))):=zH fun z=>by
         rw[←hy];exact lq i (HVR.out.drewN z)
        clear hw fb hy hx e1 e2 e3 hs nM hd ht Sk mn XD hm Ac;go_wp2_with fail;go_quiet ((go_at_call 250;(with_reducible refine(agL.out _).mono ?_);rintro e w' ⟨rfl,rfl⟩;exact⟨rfl,_,rfl⟩))
        go_wp2_with fail;go_roundw
        case rel=>exact⟨d,i+1,ys.set k t,by omega,by go_num,rfl,Xa,by rw[List.length_set];exact HYL.out,oS.out,HW2.out,AM.out,(Fp.out.drewN _).setLimb k t,(CH.out.drewN _).setCell (by simp[Value.ownBlock];omega) (fun _ h=>h.elim) _,(HK.out.drewN _).setCell (fun hb=>(HSS.out _ hb).2 rfl) _,(below_drewN HB.out _).setCell US.1 _⟩
        case measure=>simp[intOf];omega
       ·have P3:i=n+1:=by have:=HN.out;omega
        have P2:=XD.out;have Lr:=eI ((ys.drop j).take i);have Sx:((ys.drop j).take i).length=i:=by rw[List.length_take,List.length_drop,HYL.out];omega
        rw[Sx] at Lr;rw[bL vs i (by rw[HV.out.len];omega),HVV.out] at P2;rw[P3] at P2 Lr;have hR:=Fg Lr P2 amM.out hc;have WT:ys.drop (j+(n+1))=ts.drop (j+(n+1)):=by rw[←P3,HYD.out,P3];exact amK.out
        have PQ:=xk (us:=us) (qs:=qs) (by rw[J1.out];exact hjn) hVn RV.out (by rw[HYL.out,J1.out]) (HYT.out.trans HXT.out) WT hR HQ1.out HZN.out (by rw[J3.out];omega) kU.out;have RP:=zH PQ;obtain⟨ft,nC⟩:=CH.out.limb (k:=j) (by rw[J3.out];omega);rw[←HG.out] at ft nC;have q1':Own (wr.setCell ⟨w.heap.size,j,none⟩ (.int .u32 (zq.toNat:Int))) bz bs 172 (.slice (some ⟨gu,0,none⟩) nu cu) ys:=Fp.out.setCell (by simp[Value.ownBlock];omega) (fun _ h=>h.elim) _;have q2:Own (wr.setCell ⟨w.heap.size,j,none⟩ (.int .u32 (zq.toNat:Int))) bz g 172 (.slice (some ⟨g,0,none⟩) m m) (qs.set j zq):=by rw[HG.out];exact CH.out.setLimb j zq
        have q3:aA S w (wr.setCell ⟨w.heap.size,j,none⟩ (.int .u32 (zq.toNat:Int))):=HK.out.setCell (fun hb=>Nat.lt_irrefl _ (HSS.out _ hb).1) _;have q4:Below bs w (wr.setCell ⟨w.heap.size,j,none⟩ (.int .u32 (zq.toNat:Int))):=HB.out.setCell (by have:=HG.out;simp;omega) _;have Q1:=zH q1';have Q2:=zH q2;have Q3:=zH q3;have Q4:=zH q4;have aaf:((i:Int)<(N:Int))=False:=eq_false (by omega);clear PQ hR WT P2 Lr Sx P3 q1' q2 q3 q4 hlt;go_wp2_with fail;go_roundw
        case rel=>exact⟨j,(j:Int)-1,ys,qs.set j zq,by omega,by go_num,by omega,HYL.out,by rw[List.length_set];exact J3.out,RP.out.1,RP.out.2,Q1.out,Q2.out,Q3.out,Q4.out⟩
        case measure=>simp[intOf]
end Go.Proofs.YtdbpbfglhbiadaaGreatDoor
