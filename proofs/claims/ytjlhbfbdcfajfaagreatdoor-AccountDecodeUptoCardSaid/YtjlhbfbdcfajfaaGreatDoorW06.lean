/- Nat7 Nat8 Nat9 -/
import Derived.Test.YtjlhbfbdcfajfaaGreatDoorW03
import Derived.Outline
import Derived.Test.YtjlhbfbdcfajfaaGreatDoorW02
set_option maxHeartbeats 8000000
set_option maxRecDepth 100000
namespace Go.Proofs.YtjlhbfbdcfajfaaGreatDoor
open Go.RowKit
def Xw (w:World) (v n:Nat) (en:Ending) (w':World):Prop:=
 ∃(s:Value) (zs:List (BitVec 32)),en=.returned s∧Own w' bw w.heap.size 98 s zs∧val zs=v∧zs.length=n∧Below w.heap.size w w'
theorem xz (M k:Nat):(List.replicate M 0#32).getD k 0#32=0#32:=by
 rw[List.getD_eq_getElem?_getD,List.getElem?_replicate];split<;>rfl
theorem pR {l:List (BitVec 32)} {k:Nat} (z:BitVec 32) (h:k<l.length):(l.set k z).getD k 0#32=z:=by
 rw[List.getD_eq_getElem?_getD,List.getElem?_set_self h];rfl
theorem yu {l:List (BitVec 32)} {k:Nat} (z:BitVec 32):(l.set (k+1) z).take (k+1)=l.take (k+1):=by
 rw[List.take_set,List.set_eq_of_length_le (by simp;omega)]
theorem IZ {S:Nat→Prop} {A:Option Addr} {n c:Nat} {xs:List (BitVec 32)} {w:World} (sh:Nat) (h:RS w S A n c xs) (hS:∀b,S b→b<w.heap.size) (hn:n≤1073741824) (hs:sh<32) : Calls Tryz.prog 163 #[.slice A n c,.int .i64 sh] w (Xw w (val xs*2^sh) (n+1)):=by
 obtain⟨i0,hi,kG,fH,iP⟩:=info_parts Tryz.u32Info;have HI:=zH hi;have qJ:=zH kG;have kr:=zH fH;have lA:=zH iP;have H:=zH h;have HL:=zH h.len;clear h hi kG fH iP;have Jd:(n:Int)+1=((n+1:Nat):Int):=by omega
 obtain⟨M,hM⟩:∃M,n+1=M:=⟨_,rfl⟩;rw[hM] at Jd;rw[hM];have hMb:M≤1073741825:=by omega
 have HM:=zH hM;clear hM;go_enter Tryz.func163,Tryz.ntmps163;go_wp2_with (refine ck (α:=BitVec 32) _ rfl _ _ _ rfl rfl w.heap.size i0 (.int .u32 0) Tryz.underlying26 HI.out qJ.out kr.out rfl .i64 .i64 (M:Int) (M:Int) M rfl rfl rfl rfl (by rw[lA.out];omega) (by unfold maxLen;omega) (Nat.le_refl _) 0#32 bw (fun _ h=>h.elim) (fun _ _=>rfl) ?_; intro w1 qN hg1; have jm:=zH qN; have fL:=zH ((Below.refl w.heap.size w).grown hg1 (Nat.le_refl _) (fun k hk=>by cases hk)); clear qN hg1);obtain⟨g,hg⟩:∃g,w.heap.size=g:=⟨_,rfl⟩;rw[hg] at jm;rw[hg];have HG:=zH hg;clear hg Jd;go_loopw [15] (fun i wr=>∃(k:Nat) (zs:List (BitVec 32)),k≤n∧i=.int .i64 k∧zs.length=M∧(zs.getD k 0#32).toNat<2^sh∧val (zs.take k)+4294967296^k*(zs.getD k 0#32).toNat=val (xs.take k)*2^sh∧Own wr bw g 98 (.slice (some ⟨g,0,none⟩) M M) zs∧Below w.heap.size w wr)
  (fun i _=>n-(intOf i).toNat)
 case atStart=>
  have hp:=Nat.two_pow_pos sh;refine⟨0,List.replicate M 0#32,by omega,rfl,by simp,?_,?_,jm.out,fL.out⟩
  ·rw[xz];exact hp
  ·rw[xz];simp[val]
 case round=>
  clear jm fL;obtain⟨k,zs,hk,rfl,zM,uZ,iM,ho,hb⟩:=hrel;have jm:=zH ho;have fL:=zH hb;have sK:=zH zM;have kR:=zH iM;have HCL:=zH uZ;clear ho hb zM iM uZ;by_cases hlt:k<n
  ·have gV:(k:Int)<(n:Int):=by omega
   have hkM:(k:Int)<(M:Int):=by have:=HM.out;omega
   have ar8:(k:Int)+1<(M:Int):=by have:=HM.out;omega
   obtain⟨b,o,x,rfl,_,hx,e1⟩:=(H.out.below fL.out hS).limb_at hlt;have nA:=x.isLt;obtain⟨fu,nD⟩:=jm.out.limb (k:=k) (by rw[sK.out];have:=HM.out;omega);obtain⟨c0,P0⟩:∃c0,zs.getD k 0#32=c0:=⟨_,rfl⟩;rw[P0] at fu kR HCL;obtain⟨v,hv⟩:∃v,x.toNat*2^sh=v:=⟨_,rfl⟩;have h2p:2^sh≤2^31:=Nat.pow_le_pow_right (by omega) (by omega);have hvb:v<18446744073709551616:=by
    have:x.toNat*2^sh≤4294967295*2^31:=Nat.mul_le_mul (by omega) h2p;omega
   have hvw:IntKind.u64.wrap ((x.toNat:Int)*2^sh)=(v:Int):=by
    have:(x.toNat:Int)*2^sh=(v:Int):=by rw[←hv,Int.natCast_mul,Int.natCast_pow];rfl
    rw[this,IntKind.wrap_u64];omega
   have hxw:IntKind.u64.wrap (x.toNat:Int)=(x.toNat:Int):=by rw[IntKind.wrap_u64];omega
   have h1:=jt v;obtain⟨z1,fH⟩:∃z,BitVec.ofNat 32 v=z:=⟨_,rfl⟩;have Zg:=eP v;rw[fH] at h1 Zg;have lP:=SH c0 z1;obtain⟨z2,iP⟩:∃z,c0||| z1=z:=⟨_,rfl⟩;have ad2:z2.toNat=c0.toNat+v%4294967296:=by
    rw[←iP,BitVec.toNat_or,Zg,←hv];exact Ul HCL.out (by omega)
   rw[iP] at lP;have hvd:(v:Int)/4294967296=((v/4294967296:Nat):Int):=rfl;have h3:=jt (v/4294967296);obtain⟨z3,hz3⟩:∃z,BitVec.ofNat 32 (v/4294967296)=z:=⟨_,rfl⟩;have Ze:=eP (v/4294967296);rw[hz3] at h3 Ze;have hl3:v/4294967296<2^sh:=by rw[←hv];exact Um nA
   have Zf:z3.toNat=v/4294967296:=by rw[Ze,Nat.mod_eq_of_lt (by omega)]
   have fa:=left_step (B:=4294967296) (x:=x.toNat) kR.out;rw[hv] at fa;have BC:=lB hx;have Pz:k<zs.length:=by rw[sK.out];have:=HM.out;omega
   have ZF:k+1<(zs.set k z2).length:=by rw[List.length_set,sK.out];have:=HM.out;omega
   have pA:val (((zs.set k z2).set (k+1) z3).take (k+1))+4294967296^(k+1)*(((zs.set k z2).set (k+1) z3).getD (k+1) 0#32).toNat=val (xs.take (k+1))*2^sh:=by
    rw[yu,fg z2 Pz,pR z3 ZF,ad2,Zf,BC,Nat.pow_succ];exact fa
   have Gv:(((zs.set k z2).set (k+1) z3).getD (k+1) 0#32).toNat<2^sh:=by rw[pR z3 ZF,Zf];exact hl3
   obtain⟨vd,ad4⟩:∃vd,v/4294967296=vd:=⟨_,rfl⟩;rw[ad4] at hvd h3;clear ad4;have hO2:=jm.out.setLimb k z2;obtain⟨akH,asg⟩:=hO2.limb (k:=k+1) ZF;have hO3:=hO2.setLimb (k+1) z3;have E9:=zH hO3;have Hl:=zH pA;have HNL:=zH Gv;clear hv h2p fH Zg iP ad2 hz3 Ze hl3 Zf fa BC Pz pA Gv hO2 hO3 hx P0;go_wp2_with fail;go_roundw
   case rel=>
    refine⟨k+1,_,by omega,by go_num,by rw[List.length_set,List.length_set];exact sK.out,HNL.out,Hl.out,E9.out,(fL.out.setCell (by have:=HG.out;simp;omega) _).setCell (by have:=HG.out;simp;omega) _⟩
   case measure=>simp[intOf];omega
  ·have gV:k=n:=by omega
   have eB:val zs=val xs*2^sh:=by
    have h1:=kR.out;rw[gV,←bo,bK _ _ (by rw[sK.out];have:=HM.out;omega),bK xs _ (by rw[HL.out];exact Nat.le_refl _)] at h1;exact h1
   have yh:=zH eB;clear eB gV;go_wp2_with fail;go_ret
   exact⟨_,zs,rfl,by rw[HG.out];exact jm.out,yh.out,sK.out,fL.out⟩
theorem ado (x y:Nat) (hx:x<4294967296) (hy:y<4294967296):bits .or .u64 (x:Int) ((y:Int)*4294967296)=((x+4294967296*y:Nat):Int):=by
 have e:(y:Int)*4294967296=((y*4294967296:Nat):Int):=by omega
 rw[e,u64_or_nat _ _ (by omega) (by omega),Nat.or_comm,Do _ _ hx];congr 1;omega
theorem NE {S:Nat→Prop} {A:Option Addr} {n c:Nat} {xs:List (BitVec 32)} {w:World} (sh:Nat) (h:RS w S A n c xs) (hS:∀b,S b→b<w.heap.size) (hn:n≤1073741824) (hs:sh<32) : Calls Tryz.prog 165 #[.slice A n c,.int .i64 sh] w (Xw w (val xs/2^sh) n):=by
 obtain⟨i0,hi,kG,fH,iP⟩:=info_parts Tryz.u32Info;have HI:=zH hi;have qJ:=zH kG;have kr:=zH fH;have lA:=zH iP;have H:=zH h;have HL:=zH h.len;clear h hi kG fH iP;go_enter Tryz.func165,Tryz.ntmps165;go_wp2_with (refine ck (α:=BitVec 32) _ rfl _ _ _ rfl rfl w.heap.size i0 (.int .u32 0) Tryz.underlying26 HI.out qJ.out kr.out rfl .i64 .i64 (n:Int) (n:Int) n rfl rfl rfl rfl (by rw[lA.out];omega) (by unfold maxLen;omega) (Nat.le_refl _) 0#32 bw (fun _ h=>h.elim) (fun _ _=>rfl) ?_; intro w1 qN hg1; have jm:=zH qN; have fL:=zH ((Below.refl w.heap.size w).grown hg1 (Nat.le_refl _) (fun k hk=>by cases hk)); clear qN hg1);obtain⟨g,hg⟩:∃g,w.heap.size=g:=⟨_,rfl⟩;rw[hg] at jm;rw[hg];have HG:=zH hg;clear hg;go_loopw [6,12] (fun _ i wr=>∃(k:Nat) (zs:List (BitVec 32)),k≤n∧i=.int .i64 k∧zs.length=n∧val (zs.take k)=val xs/2^sh%4294967296^k∧Own wr bw g 98 (.slice (some ⟨g,0,none⟩) n n) zs∧Below w.heap.size w wr)
  (fun _ i _=>n-(intOf i).toNat)
 case atStart=>exact⟨0,List.replicate n 0#32,by omega,rfl,by simp,by simp[val,Nat.mod_one],jm.out,fL.out⟩
 case round=>
  clear jm fL;obtain⟨k,zs,hk,rfl,zM,iM,ho,hb⟩:=hrel;have jm:=zH ho;have fL:=zH hb;have sK:=zH zM;have kR:=zH iM;clear ho hb zM iM;by_cases hlt:k<n
  ·have gV:(k:Int)<(n:Int):=by omega
   have fa:=right_step xs k sh (by omega);obtain⟨x,hx⟩:∃x,(xs.getD k 0#32).toNat=x:=⟨_,rfl⟩;obtain⟨y,hy⟩:∃y,(xs.getD (k+1) 0#32).toNat=y:=⟨_,rfl⟩;have nA:x<4294967296:=by rw[←hx];exact d9 k
   have DY:y<4294967296:=by rw[←hy];exact d9 (k+1)
   rw[hx,hy] at fa;have lP:=ado x y nA DY;obtain⟨s,Ff⟩:∃s,x+4294967296*y=s:=⟨_,rfl⟩;rw[Ff] at lP fa;have Sf:s<18446744073709551616:=by omega
   obtain⟨t,ht⟩:∃t,s/2^sh=t:=⟨_,rfl⟩;have htd:(s:Int)/2^sh=(t:Int):=by rw[←ht,Int.natCast_ediv,Int.natCast_pow];rfl
   rw[ht] at fa;have h1:=jt t;obtain⟨z,hz⟩:∃z,BitVec.ofNat 32 t=z:=⟨_,rfl⟩;have qM:=eP t;rw[hz] at h1 qM;rw[←qM] at fa;obtain⟨fu,nD⟩:=jm.out.limb (k:=k) (by rw[sK.out];exact hlt);have pA:val ((zs.set k z).take (k+1))=val xs/2^sh%4294967296^(k+1):=by
    rw[fg z (by rw[sK.out];exact hlt),kR.out,Oz,fa]
   have ui:(k:Int)+1=((k+1:Nat):Int):=by omega
   obtain⟨k1,ZG⟩:∃k1,k+1=k1:=⟨_,rfl⟩;rw[ZG] at ui hy pA;have HX:=zH hx;have HY:=zH hy;have Hl:=zH pA;have V9:=zH ZG;clear fa hx hy Ff ht hz qM pA ZG;go_wp2_with fail;refine(lk k (H.out.below fL.out hS)).mono ?_;rintro e w' ⟨rfl,rfl⟩;rw[HX.out];go_wp2_with fail;refine(lk k1 (H.out.below fL.out hS)).mono ?_;rintro e w' ⟨rfl,rfl⟩;rw[HY.out];clear ui;go_wp2_with fail;go_roundw
   case rel=>
    exact⟨k+1,zs.set k z,by omega,by go_num,by rw[List.length_set];exact sK.out,by rw[V9.out];exact Hl.out,jm.out.setLimb k z,fL.out.setCell (by have:=HG.out;simp;omega) _⟩
   case measure=>simp[intOf];omega
  ·have gV:k=n:=by omega
   have eB:val zs=val xs/2^sh:=by
    have h1:=kR.out;rw[gV,bK _ _ (by rw[sK.out];exact Nat.le_refl _),Nat.mod_eq_of_lt] at h1
    ·exact h1
    ·have h2:=eJ xs;rw[HL.out] at h2;exact Nat.lt_of_le_of_lt (Nat.div_le_self _ _) h2
   have yh:=zH eB;clear eB gV;go_wp2_with fail;go_ret
   exact⟨_,zs,rfl,by rw[HG.out];exact jm.out,yh.out,sK.out,fL.out⟩
def RF (w:World) (U V:Nat) (e:Ending) (w':World):Prop:=∃q m:Nat,e=.returned (.int .u64 q)∧U/V≤q∧q≤U/V+1∧q<4294967296∧w'=w.drewN m
theorem ah6 {us vs:List (BitVec 32)} {j n:Nat} (hn:2≤n) (hv:vs.length=n) (hu:j+n<us.length) : ∃P ul vl,0<P∧ul<P∧vl<P∧ val ((us.drop j).take (n+1))=P*((((us.getD (j+n) 0#32).toNat*4294967296+(us.getD (j+n-1) 0#32).toNat))*4294967296+(us.getD (j+n-2) 0#32).toNat)+ul∧ val vs=P*((vs.getD (n-1) 0#32).toNat*4294967296+(vs.getD (n-2) 0#32).toNat)+vl:=by
 refine⟨4294967296^(n-2),val ((us.drop j).take (n-2)),val (vs.take (n-2)),Nat.pow_pos (by omega),?_,?_,?_,?_⟩
 ·have:=eJ ((us.drop j).take (n-2));rw[List.length_take,List.length_drop,Nat.min_eq_left (by omega)] at this;exact this
 ·have:=eJ (vs.take (n-2));rw[List.length_take,Nat.min_eq_left (by omega)] at this;exact this
 ·have hg:∀i,((us.drop j).getD i 0#32)=us.getD (j+i) 0#32:=by
   intro i;rw[List.getD_eq_getElem?_getD,List.getD_eq_getElem?_getD,List.getElem?_drop]
  have e1:=bo (us.drop j) n;have e2:=bo (us.drop j) (n-1);have e3:=bo (us.drop j) (n-2);rw[hg] at e1 e2 e3;have f1:n-1+1=n:=by omega
  have f2:n-2+1=n-1:=by omega
  have f3:j+(n-1)=j+n-1:=by omega
  have f4:j+(n-2)=j+n-2:=by omega
  rw[f1,f3] at e2;rw[f2,f4] at e3;have p1:4294967296^n=4294967296^(n-2)*4294967296*4294967296:=by rw[←Nat.pow_succ,←Nat.pow_succ];congr 1;omega
  have p2:4294967296^(n-1)=4294967296^(n-2)*4294967296:=by rw[←Nat.pow_succ];congr 1;omega
  rw[e1,e2,e3,p1,p2]
  grind
 ·have e2:=bo vs (n-1);have e3:=bo vs (n-2);have f1:n-1+1=n:=by omega
  have f2:n-2+1=n-1:=by omega
  rw[f1,bK vs n (by omega)] at e2;rw[f2] at e3;have p2:4294967296^(n-1)=4294967296^(n-2)*4294967296:=by rw[←Nat.pow_succ];congr 1;omega
  rw[e2,e3,p2]
  grind
theorem RS.limbD {w:World} {S:Nat→Prop} {A:Option Addr} {n c:Nat} {xs:List (BitVec 32)} (h:RS w S A n c xs) {k:Nat} (hk:k<n):∃b o,A=some ⟨b,o,none⟩∧w.cell? ⟨b,o+k,none⟩=some (.int .u32 ((xs.getD k 0#32).toNat:Int)):=by
 obtain⟨b,o,x,rfl,_,hx,e⟩:=h.limb_at hk;exact⟨b,o,rfl,by rw[List.getD_eq_getElem?_getD,hx];exact e⟩
theorem Qj {Su Sv:Nat→Prop} {Au Av:Option Addr} {nu cu n cv:Nat} {us vs:List (BitVec 32)} {w:World} (j:Nat) (hu:RS w Su Au nu cu us) (hv:RS w Sv Av n cv vs) (hn:2≤n) (hj:j+n<nu) (hnu:nu≤2147483648) (hh:2147483648≤(vs.getD (n-1) 0#32).toNat) (hlt:val ((us.drop j).take (n+1))<val vs*4294967296) : Calls Tryz.prog 188 #[.slice Au nu cu,.slice Av n cv,.int .i64 j] w (RF w (val ((us.drop j).take (n+1))) (val vs)):=by
 obtain⟨P,ul,vl,hP,Sc,Cq,eU,eV⟩:=ah6 (us:=us) (vs:=vs) (j:=j) hn hv.len (by rw[hu.len];exact hj);obtain⟨bu,ou,rfl,c1⟩:=hu.limbD (k:=j+n) hj;obtain⟨bu',ou',nN,c2⟩:=hu.limbD (k:=j+n-1) (by omega);obtain⟨rfl,rfl⟩:bu=bu'∧ou=ou':=by injection nN with nN;injection nN with h1 h2;exact⟨h1,h2⟩
 obtain⟨bu',ou',nN,c3⟩:=hu.limbD (k:=j+n-2) (by omega);obtain⟨rfl,rfl⟩:bu=bu'∧ou=ou':=by injection nN with nN;injection nN with h1 h2;exact⟨h1,h2⟩
 obtain⟨bv,ov,rfl,c4⟩:=hv.limbD (k:=n-1) (by omega);obtain⟨bv',ov',nN,c5⟩:=hv.limbD (k:=n-2) (by omega);obtain⟨rfl,rfl⟩:bv=bv'∧ov=ov':=by injection nN with nN;injection nN with h1 h2;exact⟨h1,h2⟩
 have l1:=d9 (l:=us) (j+n);have l2:=d9 (l:=us) (j+n-1);have l3:=d9 (l:=us) (j+n-2);have l4:=d9 (l:=vs) (n-1);have l5:=d9 (l:=vs) (n-2);obtain⟨U,hU⟩:∃U,val ((us.drop j).take (n+1))=U:=⟨_,rfl⟩;obtain⟨V,hV⟩:∃V,val vs=V:=⟨_,rfl⟩;obtain⟨u0,h0⟩:∃u0,(us.getD (j+n) 0#32).toNat=u0:=⟨_,rfl⟩;obtain⟨u1,h1⟩:∃u1,(us.getD (j+n-1) 0#32).toNat=u1:=⟨_,rfl⟩;obtain⟨u2,h2⟩:∃u2,(us.getD (j+n-2) 0#32).toNat=u2:=⟨_,rfl⟩;obtain⟨h,h3⟩:∃h,(vs.getD (n-1) 0#32).toNat=h:=⟨_,rfl⟩;obtain⟨v2,h4⟩:∃v2,(vs.getD (n-2) 0#32).toNat=v2:=⟨_,rfl⟩;rw[hU,hV] at hlt;rw[hU,h0,h1,h2] at eU;rw[hV,h3,h4] at eV;rw[h0] at c1 l1;rw[h1] at c2 l2;rw[h2] at c3 l3;rw[h3] at c4 l4 hh;rw[h4] at c5 l5;rw[hU,hV];obtain⟨T,hT⟩:∃T,u0*4294967296+u1=T:=⟨_,rfl⟩;have lP:=Yx u0 u1 l1 l2;rw[hT] at lP eU;have hTb:T<18446744073709551616:=by omega
 have hTt:=Lp eU eV Cq l5 hlt;have Gz:=Ea eU Sc l3 eV (by omega);have hcu:=hu.cap;have Sq:=hv.cap;have EU:=zH eU;have EV:=zH eV;have Fs:=zH hTt;have HUL:=zH Sc;have HVL:=zH Cq;obtain⟨a,ha⟩:∃a,j+n=a:=⟨_,rfl⟩;obtain⟨b,hb⟩:∃b,j+n-1=b:=⟨_,rfl⟩;obtain⟨c,hc⟩:∃c,j+n-2=c:=⟨_,rfl⟩;obtain⟨d,hd⟩:∃d,n-1=d:=⟨_,rfl⟩;obtain⟨f,hf⟩:∃f,n-2=f:=⟨_,rfl⟩;rw[ha] at c1;rw[hb] at c2;rw[hc] at c3;rw[hd] at c4;rw[hf] at c5;have i1:(j:Int)+(n:Int)=(a:Int):=by omega
 have i2:(a:Int)-1=(b:Int):=by omega
 have i3:(a:Int)-2=(c:Int):=by omega
 have i4:(n:Int)-1=(d:Int):=by omega
 have i5:(n:Int)-2=(f:Int):=by omega
 have k1:(a:Int)<(nu:Int):=by omega
 have k2:(b:Int)<(nu:Int):=by omega
 have k3:(c:Int)<(nu:Int):=by omega
 have k4:(d:Int)<(n:Int):=by omega
 have k5:(f:Int)<(n:Int):=by omega
 have wa:IntKind.i64.wrap (a:Int)=(a:Int):=by rw[IntKind.wrap_i64];omega
 have wb:IntKind.i64.wrap (b:Int)=(b:Int):=by rw[IntKind.wrap_i64];omega
 have wc:IntKind.i64.wrap (c:Int)=(c:Int):=by rw[IntKind.wrap_i64];omega
 have w0:IntKind.u64.wrap (u0:Int)=(u0:Int):=by rw[IntKind.wrap_u64];omega
 have w1:IntKind.u64.wrap (u1:Int)=(u1:Int):=by rw[IntKind.wrap_u64];omega
 have w2:IntKind.u64.wrap (u2:Int)=(u2:Int):=by rw[IntKind.wrap_u64];omega
 have w3:IntKind.u64.wrap (h:Int)=(h:Int):=by rw[IntKind.wrap_u64];omega
 have w4:IntKind.u64.wrap (v2:Int)=(v2:Int):=by rw[IntKind.wrap_u64];omega
 have w5:IntKind.u64.wrap ((u0:Int)*4294967296)=(u0:Int)*4294967296:=by rw[IntKind.wrap_u64];omega
 have hu0:((h:Int)==0)=false:=by rw[beq_eq_false_iff_ne];omega
 obtain⟨q0,Pq⟩:∃q,T/h=q:=⟨_,rfl⟩;obtain⟨r0,zQ⟩:∃r,T%h=r:=⟨_,rfl⟩;have Fg:q0*h+r0=T:=by rw[←Pq,←zQ,Nat.mul_comm];exact Nat.div_add_mod T h
 have aeh:r0<4294967296:=by have:=Nat.mod_lt T (show 0<h by omega);omega
 have aem:q0<18446744073709551616:=by have:=Nat.div_le_self T h;omega
 rw[Pq] at Gz;have WQ:(T:Int).tdiv (h:Int)=(q0:Int):=by rw[←Pq];rfl
 have Sg:(T:Int).tmod (h:Int)=(r0:Int):=by rw[←zQ];rfl
 have aek:(T:Int)/(h:Int)=(q0:Int):=by rw[←Pq];rfl
 have aec:(T:Int)%(h:Int)=(r0:Int):=by rw[←zQ];rfl
 have wq:IntKind.u64.wrap (q0:Int)=(q0:Int):=by rw[IntKind.wrap_u64];omega
 have wr0:IntKind.u64.wrap (r0:Int)=(r0:Int):=by rw[IntKind.wrap_u64];omega
 have HFI:=zH Gz;have HQR:=zH Fg;have HUB:Hid (U/V<4294967296):=zH (Nat.div_lt_of_lt_mul hlt);clear eU eV hTt Sc Cq Gz ha hb hc hd hf h0 h1 h2 h3 h4 hU hV hT hlt hu hv hP Pq zQ Fg;go_enter Tryz.func188,Tryz.ntmps188;go_wp2_with fail;go_quiet (fail)
 go_wp2_with fail;go_quiet (fail)
 go_wp2_with fail;go_loopw [10,11] (fun qv rv wr=>∃(q r m:Nat),qv=.int .u64 q∧rv=.int .u64 r∧q*h+r=T∧U/V≤q∧r<4294967296∧q<18446744073709551616∧wr=w.drewN m)
  (fun qv _ _=>(intOf qv).toNat)
 case atStart=>exact⟨q0,r0,_,rfl,rfl,HQR.out,HFI.out,aeh,aem,World.drewN_drewN _ _ _⟩
 case round=>
  clear wq wr0 WQ aek Sg aec lP HQR HFI aeh aem;obtain⟨q,r,m,rfl,rfl,Fg,nS,hr,hq,rfl⟩:=hrel;have HQR:=zH Fg;have Cz:=zH nS;have wh:IntKind.u64.wrap ((r:Int)+(h:Int))=(r:Int)+(h:Int):=by rw[IntKind.wrap_u64];omega
  by_cases hB:4294967296≤q
  ·have hB':(4294967296:Int)≤(q:Int):=by omega
   have wq1:IntKind.u64.wrap ((q:Int)-1)=(q:Int)-1:=by rw[IntKind.wrap_u64];omega
   have Si:1≤q:=by omega
   have Gs:(q-1)*h+(r+h)=T:=by
    have e:q=q-1+1:=by omega
    rw[e,Nat.add_mul] at Fg;omega
   have Gy:U/V≤q-1:=by have:=HUB.out;omega
   have Cl:=zH Gs;have Hm:=zH Gy;obtain⟨q',Mm⟩:∃x,q-1=x:=⟨_,rfl⟩;obtain⟨r',j3⟩:∃x,r+h=x:=⟨_,rfl⟩;rw[Mm,j3] at Cl;rw[Mm] at Hm;have iq:(q:Int)-1=(q':Int):=by omega
   have ir:(r:Int)+(h:Int)=(r':Int):=by omega
   rw[iq] at wq1;rw[ir] at wh;by_cases hR:4294967296≤r'
   ·have hR':(4294967296:Int)≤(r':Int):=by omega
    have Lh:=xy (u2:=u2) Cl.out Fs.out hR l5;have Jh:=qF EU.out EV.out HVL.out (by omega) Cl.out Lh.1 Lh.2;have eB:Hid (U/V≤q'∧q'≤U/V+1∧q'<4294967296):=zH ⟨Hm.out,Jh,Lh.1⟩;clear Fg nS Gs Gy Lh Jh Mm j3 hR hB;go_wp2_with fail;go_quiet (fail)
    go_wp2_with fail;go_ret
    exact⟨q',_,rfl,eB.out.1,eB.out.2.1,eB.out.2.2,rfl⟩
   ·have hR':(r':Int)<(4294967296:Int):=by omega
    have hR2:¬((4294967296:Int)≤(r':Int)):=by omega
    have hR3:decide ((4294967296:Int)≤(r':Int))=false:=decide_eq_false hR2;have zP:r'<4294967296:=by omega
    have Cr:q'<18446744073709551616:=by omega
    have WQ:q'<q:=by omega
    clear Fg nS Gs Gy hB Mm j3 hR;go_wp2_with fail;go_quiet (fail)
    go_wp2_with fail;go_roundw
    case rel=>exact⟨q',r',_,rfl,rfl,Cl.out,Hm.out,zP,Cr,rfl⟩
    case measure=>simp[intOf];omega
  ·have hB':(q:Int)<(4294967296:Int):=by omega
   have hB2:¬((4294967296:Int)≤(q:Int)):=by omega
   have hB3:decide ((4294967296:Int)≤(q:Int))=false:=decide_eq_false hB2;obtain⟨p,hp⟩:∃p,q*v2=p:=⟨_,rfl⟩;obtain⟨s,hs⟩:∃s,r*4294967296+u2=s:=⟨_,rfl⟩;have yE:p≤4294967295*4294967295:=by rw[←hp];exact Nat.mul_le_mul (by omega) (by omega)
   have ip:(q:Int)*(v2:Int)=(p:Int):=by rw[←hp];omega
   have wp':IntKind.u64.wrap (p:Int)=(p:Int):=by rw[IntKind.wrap_u64];omega
   have wr':IntKind.u64.wrap ((r:Int)*4294967296)=(r:Int)*4294967296:=by rw[IntKind.wrap_u64];omega
   have aj6:=Yx r u2 hr l3;rw[hs] at aj6;by_cases hps:s<p
   ·have hbig:=Lq EU.out HUL.out EV.out Fg (by rw[hs,hp];exact hps);have aj2:(s:Int)<(p:Int):=by omega
    have Si:1≤q:=Nat.lt_of_le_of_lt (Nat.zero_le _) hbig;have wq1:IntKind.u64.wrap ((q:Int)-1)=(q:Int)-1:=by rw[IntKind.wrap_u64];omega
    have Gs:(q-1)*h+(r+h)=T:=by
     have e:q=q-1+1:=by omega
     rw[e,Nat.add_mul] at Fg;omega
    have Gy:U/V≤q-1:=Nat.le_sub_one_of_lt hbig;have Cl:=zH Gs;have Hm:=zH Gy;obtain⟨q',Mm⟩:∃x,q-1=x:=⟨_,rfl⟩;obtain⟨r',j3⟩:∃x,r+h=x:=⟨_,rfl⟩;rw[Mm,j3] at Cl;rw[Mm] at Hm;have iq:(q:Int)-1=(q':Int):=by omega
    have ir:(r:Int)+(h:Int)=(r':Int):=by omega
    rw[iq] at wq1;rw[ir] at wh;by_cases hR:4294967296≤r'
    ·have hR':(4294967296:Int)≤(r':Int):=by omega
     have Lh:=xy (u2:=u2) Cl.out Fs.out hR l5;have Jh:=qF EU.out EV.out HVL.out (by omega) Cl.out Lh.1 Lh.2;have eB:Hid (U/V≤q'∧q'≤U/V+1∧q'<4294967296):=zH ⟨Hm.out,Jh,Lh.1⟩;clear Fg nS Gs Gy Lh Jh Mm j3 hR hB hp hs hps yE hbig;go_wp2_with fail;go_quiet (fail)
     go_wp2_with fail;go_ret
     exact⟨q',_,rfl,eB.out.1,eB.out.2.1,eB.out.2.2,rfl⟩
    ·have hR':(r':Int)<(4294967296:Int):=by omega
     have hR2:¬((4294967296:Int)≤(r':Int)):=by omega
     have hR3:decide ((4294967296:Int)≤(r':Int))=false:=decide_eq_false hR2;have zP:r'<4294967296:=by omega
     have Cr:q'<18446744073709551616:=by omega
     have WQ:q'<q:=by omega
     clear Fg nS Gs Gy hB Mm j3 hR hp hs hps yE hbig;go_wp2_with fail;go_quiet (fail)
     go_wp2_with fail;go_roundw
     case rel=>exact⟨q',r',_,rfl,rfl,Cl.out,Hm.out,zP,Cr,rfl⟩
     case measure=>simp[intOf];omega
   ·have aj2:(p:Int)≤(s:Int):=by omega
    have aj1:¬((s:Int)<(p:Int)):=by omega
    have arG:decide ((s:Int)<(p:Int))=false:=decide_eq_false aj1;have arF:decide (s<p)=false:=decide_eq_false hps;have Jh:=qF EU.out EV.out HVL.out (by omega) Fg (by omega) (by rw[hs,hp];omega);have eB:Hid (U/V≤q∧q≤U/V+1∧q<4294967296):=zH ⟨nS,Jh,by omega⟩;clear Fg nS Jh hB hp hs hps yE;go_wp2_with fail;go_quiet (fail)
    go_wp2_with fail;go_ret
    exact⟨q,_,rfl,eB.out.1,eB.out.2.1,eB.out.2.2,World.drewN_drewN _ _ _⟩
def V0 (w:World) (bs gu nu cu U V m:Nat) (e:Ending) (w':World):Prop:=
 ∃(s:Value) (qs rs:List (BitVec 32)),e=.returned s∧Own w' bw w.heap.size 98 s qs∧val qs=U/V∧qs.length=m∧
  Own w' bw bs 98 (.slice (some ⟨gu,0,none⟩) nu cu) rs∧val rs=U%V∧rs.length=nu∧Below bs w w'
theorem VN (p:Nat) (hp:p<18446744073709551616):bits .and .u64 (p:Int) 4294967295=((p%4294967296:Nat):Int):=by
 have h:=bits_and_u64_nat p 4294967295 hp (by omega);have e:p&&& 4294967295=p%4294967296:=Nat.and_two_pow_sub_one_eq_mod p 32;rw[e] at h;exact h
theorem wV {n V:Nat} {us ts xs qs:List (BitVec 32)} {j q:Nat} {z:BitVec 32} (hj:j+(n+1)≤ts.length) (hV:V<4294967296^n) (UJ:val (ts.drop (j+1))<V) (bO:xs.length=ts.length) (h1:xs.take j=ts.take j) (h2:xs.drop (j+(n+1))=ts.drop (j+(n+1))) (hw:val ((xs.drop j).take (n+1))=val ((ts.drop j).take (n+1))%V) (hq:q=val ((ts.drop j).take (n+1))/V) (hz:z.toNat=q) (hjq:j<qs.length) (iM:val us=val ts+V*(4294967296^(j+1)*val (qs.drop (j+1)))):val us=val xs+V*(4294967296^j*val ((qs.set j z).drop j))∧val (xs.drop j)<V:=by
 obtain⟨_,h3,h4⟩:=Gh hj hV UJ bO h1 h2 hw;refine⟨?_,h3⟩;rw[pU z hjq,val,hz,iM,h4,←hq,Nat.pow_succ]
 grind
theorem TR {S:Nat→Prop} {Av:Option Addr} {bs gu nu cu n cv:Nat} {us vs:List (BitVec 32)} {w:World} (hu:Own w bw bs 98 (.slice (some ⟨gu,0,none⟩) nu cu) us) (hv:RS w S Av n cv vs) (hS:∀b,S b→b<w.heap.size∧b≠gu) (hn:2≤n) (hnu:n<nu) (aex:nu≤1073741825) (hh:2147483648≤(vs.getD (n-1) 0#32).toNat) (Zm:val (us.drop (nu-n))<val vs) : Calls Tryz.prog 164 #[.slice (some ⟨gu,0,none⟩) nu cu,.slice Av n cv] w (V0 w bs gu nu cu (val us) (val vs) (nu-n)):=by
 obtain⟨i0,hi,kG,fH,iP⟩:=info_parts Tryz.u32Info;have HI:=zH hi;have qJ:=zH kG;have kr:=zH fH;have lA:=zH iP;have HU:=zH hu;have HV:=zH hv;have HUL:=zH hu.rsAll.len;have HSS:=zH hS;have HH:=zH hh;have UM:bs≤gu∧gu<w.heap.size:=hu.lt gu rfl;obtain⟨m,hm⟩:∃m,nu-n=m:=⟨_,rfl⟩;rw[hm] at Zm;rw[hm];have HT:=zH Zm;have Jd:(nu:Int)-(n:Int)=(m:Int):=by omega
 have hmb:m≤1073741825:=by omega
 have hm0:1≤m:=by omega
 have wm:IntKind.i64.wrap (m:Int)=(m:Int):=by rw[IntKind.wrap_i64];omega
 obtain⟨V,hV⟩:∃V,val vs=V:=⟨_,rfl⟩;rw[hV] at HT;rw[hV];have HVV:=zH hV;clear hu hv hh Zm hi kG fH iP hV hS;go_enter Tryz.func164,Tryz.ntmps164;go_wp2_with (refine ck (α:=BitVec 32) _ rfl _ _ _ rfl rfl w.heap.size i0 (.int .u32 0) Tryz.underlying26 HI.out qJ.out kr.out rfl .i64 .i64 (m:Int) (m:Int) m rfl rfl rfl rfl (by rw[lA.out];omega) (by unfold maxLen;omega) (Nat.le_refl _) 0#32 bw (fun _ h=>h.elim) (fun _ _=>rfl) ?_; intro w1 qN hg1; have jm:=zH qN; have fL:=zH ((Below.refl w.heap.size w).grown hg1 (Nat.le_refl _) (fun k hk=>by cases hk)); clear qN hg1);obtain⟨g,hg⟩:∃g,w.heap.size=g:=⟨_,rfl⟩;rw[hg] at jm UM;have HG:=zH hg;have fe:Hid (Below bs w w1):=zH (fL.out.mono (by rw[hg];omega));have HU1:=zH (HU.out.below fL.out);have V9:Hid (aA S w w1):=zH ((aA.of_below fL.out).sub fun b hb=>(HSS.out b hb).1);clear hg;go_loopw [7] (fun jv wr=>∃(k:Nat) (z:Int) (ts qs:List (BitVec 32)),k≤m∧jv=.int .i64 z∧z+1=k∧ts.length=nu∧qs.length=m∧val us=val ts+V*(4294967296^k*val (qs.drop k))∧val (ts.drop k)<V∧ Own wr bw bs 98 (.slice (some ⟨gu,0,none⟩) nu cu) ts∧Own wr bw g 98 (.slice (some ⟨g,0,none⟩) m m) qs∧aA S w wr∧Below bs w wr)
  (fun jv _=>(intOf jv+1).toNat)
 case atStart=>
  exact⟨m,(m:Int)-1,us,List.replicate m 0#32,Nat.le_refl _,rfl,by omega,HUL.out,by simp,by rw[List.drop_eq_nil_of_le (by simp)];simp[val],HT.out,HU1.out,jm.out,V9.out,fe.out⟩
 case round=>
  clear jm fL fe HU1 V9 HU;obtain⟨k,z,ts,qs,hk,rfl,hz,Fe,Cr,iM,UJ,Li,yF,bX,qD⟩:=hrel;have JU:=zH Fe;have JW:=zH Cr;have kR:=zH iM;have RN:=zH UJ;have E7:=zH Li;have Cy:=zH yF;have HK:=zH bX;have HB:=zH qD;have HVR:=zH (HV.out.keep (fun b hb=>hb) bX);clear Fe Cr iM UJ Li yF bX qD;rcases k with _|j
  ·obtain rfl:z= -1:=by omega
   have eB:val qs=val us/V∧val ts=val us%V:=by
    have h1:=kR.out;have h2:=RN.out;rw[List.drop_zero] at h1 h2;rw[Nat.pow_zero,Nat.one_mul] at h1;exact Ai (by rw[Nat.mul_comm,h1];omega) h2
   have HF:=zH eB;clear eB hz;go_wp2_with fail;go_ret
   exact⟨_,qs,ts,rfl,by rw[HG.out];exact Cy.out,HF.out.1,JW.out,E7.out,HF.out.2,JU.out,HB.out⟩
  ·obtain rfl:z=j:=by omega
   have hjn:j+(n+1)≤nu:=by omega
   have Ld:=XH (n:=n) (by rw[JU.out];exact hjn) RN.out;have HWL:=zH Ld;clear Ld hz;go_wp2_with fail;refine(Qj j E7.out.rsAll HVR.out hn (by omega) (by omega) HH.out (by rw[HVV.out];exact HWL.out)).mono ?_;rintro e w' ⟨q,mm,rfl,nS,uY,hqB,rfl⟩;rw[HVV.out] at nS uY;have Cz:=zH nS;have HHI:=zH uY;have RL:=zH (E7.out.drewN mm);have abo:=zH (Cy.out.drewN mm);have RO:Hid (aA S w (wr.drewN mm)):=zH HK.out;have fe:=zH (below_drewN HB.out mm);obtain⟨wd,DZ⟩:∃x,wr.drewN mm=x:=⟨_,rfl⟩;rw[DZ] at RL abo RO fe;rw[DZ];clear nS uY DZ E7 Cy HK HB HVR;obtain⟨N,hN⟩:∃N,n+1=N:=⟨_,rfl⟩;have hN1:(n:Int)+1=(N:Int):=by omega
   have wN:IntKind.i64.wrap (N:Int)=(N:Int):=by rw[IntKind.wrap_i64];omega
   go_wp2_with fail;go_loopw [9,10,38] (fun bv cv iv wr=>∃(b c i:Nat) (xs:List (BitVec 32)),i≤N∧iv=.int .i64 i∧bv=.int .u64 b∧cv=.int .u64 c∧b≤1∧c<4294967296∧(n<i→c=0)∧xs.length=nu∧xs.take j=ts.take j∧xs.drop (j+i)=ts.drop (j+i)∧ val ((xs.drop j).take i)+q*val (vs.take i)=val ((ts.drop j).take i)+4294967296^i*(c+b)∧ Own wr bw bs 98 (.slice (some ⟨gu,0,none⟩) nu cu) xs∧Own wr bw g 98 (.slice (some ⟨g,0,none⟩) m m) qs∧aA S w wr∧Below bs w wr)
    (fun _ _ iv _=>N-(intOf iv).toNat)
   case atStart=>exact⟨0,0,0,ts,Nat.zero_le _,rfl,rfl,rfl,Nat.zero_le _,by omega,by omega,JU.out,rfl,rfl,by simp[val],RL.out,abo.out,RO.out,fe.out⟩
   case round=>
    clear RL abo RO fe;obtain⟨b,c,i,xs,hi,rfl,rfl,rfl,hb,hc,hcn,nA,hxt,Zi,iM,Li,yF,bX,qD⟩:=hrel;have HXL:=zH nA;have HXT:=zH hxt;have HXD:=zH Zi;have XA:=zH iM;have E7:=zH Li;have Cy:=zH yF;have HK:=zH bX;have HB:=zH qD;have HCN:=zH hcn;have HVR:Hid (RS wr S Av n cv vs):=zH (HV.out.keep (fun b hb=>hb) bX);clear nA hxt Zi iM Li yF bX qD hcn;by_cases hlt:i<N
    ·have PI:(i:Int)<(N:Int):=by omega
     have PG:j+i<nu:=by omega
     obtain⟨y,hy⟩:∃y,(vs.getD i 0#32).toNat=y:=⟨_,rfl⟩;obtain⟨x,hx⟩:∃x,(xs.getD (j+i) 0#32).toNat=x:=⟨_,rfl⟩;have DY:y<4294967296:=by rw[←hy];exact(vs.getD i 0#32).isLt
     have nA:x<4294967296:=by rw[←hx];exact(xs.getD (j+i) 0#32).isLt
     obtain⟨fu,nD⟩:=E7.out.limb (k:=j+i) (by rw[HXL.out];exact PG);rw[hx] at fu;obtain⟨p0,Jc⟩:∃p,q*y=p:=⟨_,rfl⟩;have arM:p0≤4294967295*4294967295:=by rw[←Jc];exact Nat.mul_le_mul (by omega) (by omega)
     have arN:(q:Int)*(y:Int)=(p0:Int):=by rw[←Jc];exact(Int.natCast_mul _ _).symm
     obtain⟨p,hp⟩:∃p,p0+c=p:=⟨_,rfl⟩;have hpi:(p0:Int)+(c:Int)=(p:Int):=by omega
     have yE:p<18446744073709551616:=by omega
     have wp0:IntKind.u64.wrap (p0:Int)=(p0:Int):=by rw[IntKind.wrap_u64];omega
     have wp1:IntKind.u64.wrap (p:Int)=(p:Int):=by rw[IntKind.wrap_u64];omega
     obtain⟨c',P1⟩:∃c',p/4294967296=c':=⟨_,rfl⟩;have hcd:(p:Int)/4294967296=(c':Int):=by rw[←P1];rfl
     have akK:c'<4294967296:=by omega
     have hand:=VN p yE;obtain⟨pm,hpm⟩:∃z,p%4294967296=z:=⟨_,rfl⟩;rw[hpm] at hand;have arJ:pm<4294967296:=by omega
     obtain⟨s,hs⟩:∃s,4294967296+x-pm-b=s:=⟨_,rfl⟩;obtain⟨s1,nJ⟩:∃s,4294967296+x=s:=⟨_,rfl⟩;obtain⟨s2,Ff⟩:∃s,s1-pm=s:=⟨_,rfl⟩;have ajT:(4294967296:Int)+(x:Int)=(s1:Int):=by omega
     have arA:(s1:Int)-(pm:Int)=(s2:Int):=by omega
     have hsi:(s2:Int)-(b:Int)=(s:Int):=by omega
     have ws1:IntKind.u64.wrap (s1:Int)=(s1:Int):=by rw[IntKind.wrap_u64];omega
     have ws2:IntKind.u64.wrap (s2:Int)=(s2:Int):=by rw[IntKind.wrap_u64];omega
     have ws:IntKind.u64.wrap (s:Int)=(s:Int):=by rw[IntKind.wrap_u64];omega
     have wx:IntKind.u64.wrap (x:Int)=(x:Int):=by rw[IntKind.wrap_u64];omega
     obtain⟨d,hd⟩:∃d,s/4294967296=d:=⟨_,rfl⟩;have UE:(s:Int)/4294967296=(d:Int):=by rw[←hd];rfl
     have W6:d≤1:=by omega
     obtain⟨b',nN⟩:∃b',1-d=b':=⟨_,rfl⟩;have hbi:(1:Int)-(d:Int)=(b':Int):=by omega
     have wb:IntKind.u64.wrap (b':Int)=(b':Int):=by rw[IntKind.wrap_u64];omega
     have zN:=jt s;obtain⟨t,ht⟩:∃t,BitVec.ofNat 32 s=t:=⟨_,rfl⟩;have Sd:=eP s;rw[ht] at zN Sd;obtain⟨k,oA⟩:∃k,j+i=k:=⟨_,rfl⟩;have hki:(i:Int)+(j:Int)=(k:Int):=by omega
     have wk:IntKind.i64.wrap (k:Int)=(k:Int):=by rw[IntKind.wrap_i64];omega
     have gV:(k:Int)<(nu:Int):=by omega
     have hw:=Hu t (by rw[HXL.out];exact PG) HXT.out HXD.out;have e1:=bo (ts.drop j) i;have e2:=bo vs i;have fa:=KY (B:=4294967296) rfl nA (show q*y+c=p by rw[Jc];exact hp) (show 4294967296+x-p%4294967296-b=s by rw[hpm];exact hs) hb XA.out;have e3:(ts.drop j).getD i 0#32=ts.getD (j+i) 0#32:=by rw[List.getD_eq_getElem?_getD,List.getD_eq_getElem?_getD,List.getElem?_drop]
     rw[e3,←hw.2.2.2,hx] at e1;rw[hy] at e2;rw[←e1,←e2,P1,hd,nN,←Sd,←hw.2.2.1,←Nat.pow_succ] at fa;have aeU:n<i+1→c'=0:=by
      intro h;have yD:y=0:=by
       rw[←hy,List.getD_eq_getElem?_getD,List.getElem?_eq_none (by rw[HV.out.len];omega)];rfl
      rw[yD,Nat.mul_zero] at Jc;omega
     rw[oA] at hw fa fu nD;have oQ:=zH hw.1;have HW2:=zH hw.2.1;have AF:=zH fa;have ana:=zH aeU;have HY:=zH hy;clear hw fa aeU hy hx e1 e2 e3 Jc hp P1 hpm hs nJ Ff hd nN ht Sd oA XA hN hm;go_wp2_with fail;refine(lk i HVR.out).mono ?_;rintro e w' ⟨rfl,rfl⟩;rw[HY.out];go_wp2_with fail;go_roundw
     case rel=>exact⟨b',c',i+1,xs.set k t,by omega,by go_num,rfl,rfl,by omega,akK,ana.out,by rw[List.length_set];exact HXL.out,oQ.out,HW2.out,AF.out,E7.out.setLimb k t,Cy.out.setCell (by simp[Value.ownBlock];omega) (fun _ h=>h.elim) _,HK.out.setCell (fun hb=>(HSS.out _ hb).2 rfl) _,HB.out.setCell UM.1 _⟩
     case measure=>simp[intOf];omega
    ·have PI:i=N:=by omega
     have P0:=HCN.out (by omega);have PH:=XA.out;rw[P0] at PH;clear P0;rw[bK vs i (by rw[HV.out.len];omega),HVV.out] at PH;have Ld:=eJ ((xs.drop j).take i);have Sl:((xs.drop j).take i).length=i:=by rw[List.length_take,List.length_drop,HXL.out];omega
     rw[Sl] at Ld;have hVp:0<V:=Nat.lt_of_le_of_lt (Nat.zero_le _) RN.out;have hVn:V<4294967296^n:=by rw[←HVV.out,←HV.out.len];exact eJ vs
     rw[PI,←hN] at PH Ld;have Zi:xs.drop (j+(n+1))=ts.drop (j+(n+1)):=by rw[hN,←PI];exact HXD.out
     obtain⟨h0,h1⟩:=Ox hVp Ld Cz.out HHI.out hb PH;have hjm:(j:Int)<(m:Int):=by omega
     obtain⟨fu,nD⟩:=Cy.out.limb (k:=j) (by rw[JW.out];omega);rw[←HG.out] at fu nD;have hgl:w.heap.size≠gu:=by have:=HG.out;omega
     have HGU:Hid (gu<w.heap.size):=zH (by rw[HG.out];exact UM.2);rcases Nat.eq_zero_or_pos b with hb0|hb0
     ·obtain⟨hq,Ph⟩:=h0 hb0;have P4:decide (0<b)=false:=decide_eq_false (by omega);have hbg:(0<b)=False:=eq_false (by omega);have zN:=jt q;obtain⟨zq,Pb⟩:∃z,BitVec.ofNat 32 q=z:=⟨_,rfl⟩;have fM:=eP q;rw[Pb] at zN fM;have qM:zq.toNat=q:=by omega
      have Pu:=wV (us:=us) (qs:=qs) (by rw[JU.out];exact hjn) hVn RN.out (by rw[HXL.out,JU.out]) HXT.out Zi Ph hq qM (by rw[JW.out];omega) kR.out;have RJ:=zH Pu;have q1:Own (wr.setCell ⟨w.heap.size,j,none⟩ (.int .u32 (zq.toNat:Int))) bw bs 98 (.slice (some ⟨gu,0,none⟩) nu cu) xs:=E7.out.setCell (by simp[Value.ownBlock];omega) (fun _ h=>h.elim) _;have q2:Own (wr.setCell ⟨w.heap.size,j,none⟩ (.int .u32 (zq.toNat:Int))) bw g 98 (.slice (some ⟨g,0,none⟩) m m) (qs.set j zq):=by rw[HG.out];exact Cy.out.setLimb j zq
      have q3:aA S w (wr.setCell ⟨w.heap.size,j,none⟩ (.int .u32 (zq.toNat:Int))):=HK.out.setCell (fun hb=>Nat.lt_irrefl _ (HSS.out _ hb).1) _;have q4:Below bs w (wr.setCell ⟨w.heap.size,j,none⟩ (.int .u32 (zq.toNat:Int))):=HB.out.setCell (by have:=HG.out;simp;omega) _;have Q1:=zH q1;have Q2:=zH q2;have Q3:=zH q3;have Q4:=zH q4;clear Pu hq Ph h0 h1 PH Ld Sl Pb fM qM hN Zi PI hb0 q1 q2 q3 q4;have ZI:((i:Int)<(N:Int))=False:=eq_false (by omega);go_wp2_with fail;go_roundw
      case rel=>exact⟨j,(j:Int)-1,xs,qs.set j zq,by omega,by go_num,by omega,HXL.out,by rw[List.length_set];exact JW.out,RJ.out.1,RJ.out.2,Q1.out,Q2.out,Q3.out,Q4.out⟩
      case measure=>simp[intOf]
     ·obtain⟨hq,Ph⟩:=h1 hb0;have cI:b=1:=by omega
      obtain⟨q1,Si⟩:∃q1,q-1=q1:=⟨_,rfl⟩;have Pq:1≤q:=by rw[hq];exact Nat.le_add_left _ _
      have arE:(q:Int)-1=(q1:Int):=by omega
      have ael:q1=val ((ts.drop j).take (n+1))/V:=by rw[←Si,hq];rfl
      have wq1:IntKind.u64.wrap (q1:Int)=(q1:Int):=by rw[IntKind.wrap_u64];omega
      have zN:=jt q1;obtain⟨zq,Pb⟩:∃z,BitVec.ofNat 32 q1=z:=⟨_,rfl⟩;have fM:=eP q1;rw[Pb] at zN fM;have qM:zq.toNat=q1:=by omega
      have hbg:(0<b)=True:=eq_true (by omega);have P4:decide (0<b)=true:=decide_eq_true (by omega);have ZI:((i:Int)<(N:Int))=False:=eq_false (by omega);obtain⟨U1,hU1⟩:∃U1,val ((xs.drop j).take (n+1))=U1:=⟨_,rfl⟩;obtain⟨RR,hRR⟩:∃U1,val ((ts.drop j).take (n+1))%V=U1:=⟨_,rfl⟩;have E6:=zH hRR;have HQ1:=zH ael;have HZN:=zH qM;have amx:=zH Zi;have amz:=zH Ph;have HN:=zH hN;clear h0 h1 PH Ld Sl Pb fM qM hN Zi PI hb0 hq Ph hU1 hRR Si ael cI XA HXD;go_wp2_with fail;go_loopw [10,80] (fun cv iv wr=>∃(c i:Nat) (ys:List (BitVec 32)),i≤N∧iv=.int .i64 i∧cv=.int .u64 c∧c≤1∧ys.length=nu∧ys.take j=xs.take j∧ys.drop (j+i)=xs.drop (j+i)∧ val ((ys.drop j).take i)+4294967296^i*c=val ((xs.drop j).take i)+val (vs.take i)∧ Own wr bw bs 98 (.slice (some ⟨gu,0,none⟩) nu cu) ys∧Own wr bw g 98 (.slice (some ⟨g,0,none⟩) m m) qs∧aA S w wr∧Below bs w wr)
       (fun _ iv _=>N-(intOf iv).toNat)
      case atStart=>exact⟨0,0,xs,Nat.zero_le _,rfl,rfl,Nat.zero_le _,HXL.out,rfl,rfl,by simp[val],E7.out,Cy.out,HK.out,HB.out⟩
      case round=>
       clear E7 Cy HK HB HVR hi hlt ZI fu nD hc hb hbg P4;obtain⟨c,i,ys,hi,rfl,rfl,hc,DY,hyt,WN,iM,Li,yF,bX,qD⟩:=hrel;have HYL:=zH DY;have HYT:=zH hyt;have HYD:=zH WN;have XA:=zH iM;have E7:=zH Li;have Cy:=zH yF;have HK:=zH bX;have HB:=zH qD;have HVR:Hid (RS wr S Av n cv vs):=zH (HV.out.keep (fun b hb=>hb) bX);clear DY hyt WN iM Li yF bX qD;by_cases hlt:i<N
       ·have PI:(i:Int)<(N:Int):=by omega
        have PG:j+i<nu:=by have:=HN.out;omega
        obtain⟨y,hy⟩:∃y,(vs.getD i 0#32).toNat=y:=⟨_,rfl⟩;obtain⟨x,hx⟩:∃x,(ys.getD (j+i) 0#32).toNat=x:=⟨_,rfl⟩;have DY:y<4294967296:=by rw[←hy];exact(vs.getD i 0#32).isLt
        have nA:x<4294967296:=by rw[←hx];exact(ys.getD (j+i) 0#32).isLt
        obtain⟨fu,nD⟩:=E7.out.limb (k:=j+i) (by rw[HYL.out];exact PG);rw[hx] at fu;obtain⟨s,hs⟩:∃s,x+y+c=s:=⟨_,rfl⟩;obtain⟨s1,nJ⟩:∃s,x+y=s:=⟨_,rfl⟩;have ajT:(x:Int)+(y:Int)=(s1:Int):=by omega
        have hsi:(s1:Int)+(c:Int)=(s:Int):=by omega
        have ws1:IntKind.u64.wrap (s1:Int)=(s1:Int):=by rw[IntKind.wrap_u64];omega
        have ws:IntKind.u64.wrap (s:Int)=(s:Int):=by rw[IntKind.wrap_u64];omega
        have wx:IntKind.u64.wrap (x:Int)=(x:Int):=by rw[IntKind.wrap_u64];omega
        obtain⟨d,hd⟩:∃d,s/4294967296=d:=⟨_,rfl⟩;have UE:(s:Int)/4294967296=(d:Int):=by rw[←hd];rfl
        have W6:d≤1:=by omega
        have ajN:=jt s;obtain⟨t,ht⟩:∃t,BitVec.ofNat 32 s=t:=⟨_,rfl⟩;have Sd:=eP s;rw[ht] at ajN Sd;obtain⟨k,oA⟩:∃k,j+i=k:=⟨_,rfl⟩;have hki:(i:Int)+(j:Int)=(k:Int):=by omega
        have wk:IntKind.i64.wrap (k:Int)=(k:Int):=by rw[IntKind.wrap_i64];omega
        have gV:(k:Int)<(nu:Int):=by omega
        have hw:=Hu t (by rw[HYL.out];exact PG) HYT.out HYD.out;have e1:=bo (xs.drop j) i;have e2:=bo vs i;have fa:=E1 hs XA.out;have e3:(xs.drop j).getD i 0#32=xs.getD (j+i) 0#32:=by rw[List.getD_eq_getElem?_getD,List.getD_eq_getElem?_getD,List.getElem?_drop]
        rw[e3,←hw.2.2.2,hx] at e1;rw[hy] at e2;rw[←e1,←e2,hd,←Sd,←hw.2.2.1,←Nat.pow_succ] at fa;rw[oA] at hw fa fu nD;have oQ:=zH hw.1;have HW2:=zH hw.2.1;have AF:=zH fa;have agc:Hid (∀z,Calls Tryz.prog 189 #[.slice Av n cv,.int .i64 i] (wr.drewN z) (gU (wr.drewN z) (.int .u64 (y:Int)))):=zH fun z=>by
         rw[←hy];exact lk i (HVR.out.drewN z)
        clear hw fa hy hx e1 e2 e3 hs nJ hd ht Sd oA XA hm zN;go_wp2_with fail;go_quiet ((go_at_call 189;(with_reducible refine(agc.out _).mono ?_);rintro e w' ⟨rfl,rfl⟩;exact⟨rfl,_,rfl⟩))
        go_wp2_with fail;go_roundw
        case rel=>exact⟨d,i+1,ys.set k t,by omega,by go_num,rfl,W6,by rw[List.length_set];exact HYL.out,oQ.out,HW2.out,AF.out,(E7.out.drewN _).setLimb k t,(Cy.out.drewN _).setCell (by simp[Value.ownBlock];omega) (fun _ h=>h.elim) _,(HK.out.drewN _).setCell (fun hb=>(HSS.out _ hb).2 rfl) _,(below_drewN HB.out _).setCell UM.1 _⟩
        case measure=>simp[intOf];omega
       ·have PI:i=n+1:=by have:=HN.out;omega
        have PH:=XA.out;have Ld:=eJ ((ys.drop j).take i);have Sl:((ys.drop j).take i).length=i:=by rw[List.length_take,List.length_drop,HYL.out];omega
        rw[Sl] at Ld;rw[bK vs i (by rw[HV.out.len];omega),HVV.out] at PH;rw[PI] at PH Ld;have hR:=E0 Ld PH amz.out hc;have WN:ys.drop (j+(n+1))=ts.drop (j+(n+1)):=by rw[←PI,HYD.out,PI];exact amx.out
        have Pu:=wV (us:=us) (qs:=qs) (by rw[JU.out];exact hjn) hVn RN.out (by rw[HYL.out,JU.out]) (HYT.out.trans HXT.out) WN hR HQ1.out HZN.out (by rw[JW.out];omega) kR.out;have RJ:=zH Pu;obtain⟨fu,nD⟩:=Cy.out.limb (k:=j) (by rw[JW.out];omega);rw[←HG.out] at fu nD;have q1':Own (wr.setCell ⟨w.heap.size,j,none⟩ (.int .u32 (zq.toNat:Int))) bw bs 98 (.slice (some ⟨gu,0,none⟩) nu cu) ys:=E7.out.setCell (by simp[Value.ownBlock];omega) (fun _ h=>h.elim) _;have q2:Own (wr.setCell ⟨w.heap.size,j,none⟩ (.int .u32 (zq.toNat:Int))) bw g 98 (.slice (some ⟨g,0,none⟩) m m) (qs.set j zq):=by rw[HG.out];exact Cy.out.setLimb j zq
        have q3:aA S w (wr.setCell ⟨w.heap.size,j,none⟩ (.int .u32 (zq.toNat:Int))):=HK.out.setCell (fun hb=>Nat.lt_irrefl _ (HSS.out _ hb).1) _;have q4:Below bs w (wr.setCell ⟨w.heap.size,j,none⟩ (.int .u32 (zq.toNat:Int))):=HB.out.setCell (by have:=HG.out;simp;omega) _;have Q1:=zH q1';have Q2:=zH q2;have Q3:=zH q3;have Q4:=zH q4;have ZI:((i:Int)<(N:Int))=False:=eq_false (by omega);clear Pu hR WN PH Ld Sl PI q1' q2 q3 q4 hlt;go_wp2_with fail;go_roundw
        case rel=>exact⟨j,(j:Int)-1,ys,qs.set j zq,by omega,by go_num,by omega,HYL.out,by rw[List.length_set];exact JW.out,RJ.out.1,RJ.out.2,Q1.out,Q2.out,Q3.out,Q4.out⟩
        case measure=>simp[intOf]
end Go.Proofs.YtjlhbfbdcfajfaaGreatDoor
