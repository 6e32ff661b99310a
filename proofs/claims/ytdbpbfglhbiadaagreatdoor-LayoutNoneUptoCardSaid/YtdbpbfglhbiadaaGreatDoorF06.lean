/- Nat7 Nat8 Nat9 -/
import Derived.Test.YtdbpbfglhbiadaaGreatDoorF03
import Derived.Outline
import Derived.Test.YtdbpbfglhbiadaaGreatDoorF02
set_option maxHeartbeats 8000000
set_option maxRecDepth 100000
namespace Go.Proofs.YtdbpbfglhbiadaaGreatDoor
open Go.RowKit
def Vl (w:World) (v n:Nat) (en:Ending) (w':World):Prop:=
 ∃(s:Value) (zs:List (BitVec 32)),en=.returned s/\Own w' bb w.heap.size 172 s zs/\val zs=v/\zs.length=n/\Below w.heap.size w w'
theorem uH (M k:Nat):(List.replicate M 0#32).getD k 0#32=0#32:=by
 rw[List.getD_eq_getElem?_getD,List.getElem?_replicate];split<;>rfl
theorem nR {l:List (BitVec 32)} {k:Nat} (z:BitVec 32) (h:k<l.length):(l.set k z).getD k 0#32=z:=by
 rw[List.getD_eq_getElem?_getD,List.getElem?_set_self h];rfl
theorem vR {l:List (BitVec 32)} {k:Nat} (z:BitVec 32):(l.set (k+1) z).take (k+1)=l.take (k+1):=by
 rw[List.take_set,List.set_eq_of_length_le (by simp;omega)]
theorem Gl {S:Nat->Prop} {A:Option Addr} {n c:Nat} {xs:List (BitVec 32)} {w:World} (sh:Nat) (h:RS w S A n c xs) (hS:∀b,S b->b<w.heap.size) (hn:n<=1073741824) (hs:sh<32) : Calls Tryz.prog 224 #[.slice A n c,.int .i64 sh] w (Vl w (val xs*2^sh) (n+1)):=by
 obtain⟨i0,hi,jw,eL,gN⟩:=info_parts Tryz.u32Info;have HI:=zH hi;have oG:=zH jw;have jm:=zH eL;have j1:=zH gN;have H:=zH h;have HL:=zH h.len;clear h hi jw eL gN;have GC:(n:Int)+1=((n+1:Nat):Int):=by omega
 obtain⟨M,hM⟩:∃M,n+1=M:=⟨_,rfl⟩;rw[hM] at GC;rw[hM];have hMb:M<=1073741825:=by omega
 have HM:=zH hM;clear hM;go_enter Tryz.func224,Tryz.ntmps224;go_wp2_with (refine bJ (α:=BitVec 32) _ rfl _ _ _ rfl rfl w.heap.size i0 (.int .u32 0) Tryz.underlying26 HI.out oG.out jm.out rfl .i64 .i64 (M:Int) (M:Int) M rfl rfl rfl rfl (by rw[j1.out];omega) (by unfold maxLen;omega) (Nat.le_refl _) 0#32 bb (λ_ h=>h.elim) (λ_ _=>rfl) ?_; intro w1 oL hg1; have ic:=zH oL; have eP:=zH ((Below.refl w.heap.size w).grown hg1 (Nat.le_refl _) (λk hk=>by cases hk)); clear oL hg1);obtain⟨g,hg⟩:∃g,w.heap.size=g:=⟨_,rfl⟩;rw[hg] at ic;rw[hg];have HG:=zH hg;clear hg GC;go_loopw [15] (λi wr=>∃(k:Nat) (zs:List (BitVec 32)),k<=n/\i=.int .i64 k/\zs.length=M/\(zs.getD k 0#32).toNat<2^sh/\val (zs.take k)+4294967296^k*(zs.getD k 0#32).toNat=val (xs.take k)*2^sh/\Own wr bb g 172 (.slice (some ⟨g,0,none⟩) M M) zs/\Below w.heap.size w wr)
  (λi _=>n-(intOf i).toNat)
 case atStart=>
  have hp:=Nat.two_pow_pos sh;refine⟨0,List.replicate M 0#32,by omega,rfl,by simp,?_,?_,ic.out,eP.out⟩
  ·rw[uH];exact hp
  ·rw[uH];simp[val]
 case round=>
  clear ic eP;obtain⟨k,zs,hk,rfl,xp,rY,gK,ho,hb⟩:=hrel;have ic:=zH ho;have eP:=zH hb;have p9:=zH xp;have jI:=zH gK;have HCL:=zH rY;clear ho hb xp gK rY;by_cases hlt:k<n
  ·have nP:(k:Int)<(n:Int):=by omega
   have hkM:(k:Int)<(M:Int):=by have:=HM.out;omega
   have apJ:(k:Int)+1<(M:Int):=by have:=HM.out;omega
   obtain⟨b,o,x,rfl,_,hx,e1⟩:=(H.out.below eP.out hS).limb_at hlt;have nA:=x.isLt;obtain⟨eC,lF⟩:=ic.out.limb (k:=k) (by rw[p9.out];have:=HM.out;omega);obtain⟨c0,NY⟩:∃c0,zs.getD k 0#32=c0:=⟨_,rfl⟩;rw[NY] at eC jI HCL;obtain⟨v,hv⟩:∃v,x.toNat*2^sh=v:=⟨_,rfl⟩;have h2p:2^sh<=2^31:=Nat.pow_le_pow_right (by omega) (by omega);have hvb:v<18446744073709551616:=by
    have:x.toNat*2^sh<=4294967295*2^31:=Nat.mul_le_mul (by omega) h2p;omega
   have hvw:IntKind.u64.wrap ((x.toNat:Int)*2^sh)=(v:Int):=by
    have:(x.toNat:Int)*2^sh=(v:Int):=by rw[<-hv,Int.natCast_mul,Int.natCast_pow];rfl
    rw[this,IntKind.wrap_u64];omega
   have hxw:IntKind.u64.wrap (x.toNat:Int)=(x.toNat:Int):=by rw[IntKind.wrap_u64];omega
   have h1:=iy v;obtain⟨z1,eL⟩:∃z,BitVec.ofNat 32 v=z:=⟨_,rfl⟩;have Xh:=dQ v;rw[eL] at h1 Xh;have kj:=Qg c0 z1;obtain⟨z2,gN⟩:∃z,c0||| z1=z:=⟨_,rfl⟩;have ace:z2.toNat=c0.toNat+v%4294967296:=by
    rw[<-gN,BitVec.toNat_or,Xh,<-hv];exact RF HCL.out (by omega)
   rw[gN] at kj;have hvd:(v:Int)/4294967296=((v/4294967296:Nat):Int):=rfl;have h3:=iy (v/4294967296);obtain⟨z3,hz3⟩:∃z,BitVec.ofNat 32 (v/4294967296)=z:=⟨_,rfl⟩;have Xf:=dQ (v/4294967296);rw[hz3] at h3 Xf;have hl3:v/4294967296<2^sh:=by rw[<-hv];exact RG nA
   have Xg:z3.toNat=v/4294967296:=by rw[Xf,Nat.mod_eq_of_lt (by omega)]
   have dV:=left_step (B:=4294967296) (x:=x.toNat) jI.out;rw[hv] at dV;have UF:=j3 hx;have Ny:k<zs.length:=by rw[p9.out];have:=HM.out;omega
   have XG:k+1<(zs.set k z2).length:=by rw[List.length_set,p9.out];have:=HM.out;omega
   have lM:val (((zs.set k z2).set (k+1) z3).take (k+1))+4294967296^(k+1)*(((zs.set k z2).set (k+1) z3).getD (k+1) 0#32).toNat=val (xs.take (k+1))*2^sh:=by
    rw[vR,em z2 Ny,nR z3 XG,ace,Xg,UF,Nat.pow_succ];exact dV
   have Ev:(((zs.set k z2).set (k+1) z3).getD (k+1) 0#32).toNat<2^sh:=by rw[nR z3 XG,Xg];exact hl3
   obtain⟨vd,ach⟩:∃vd,v/4294967296=vd:=⟨_,rfl⟩;rw[ach] at hvd h3;clear ach;have hO2:=ic.out.setLimb k z2;obtain⟨aii,apQ⟩:=hO2.limb (k:=k+1) XG;have hO3:=hO2.setLimb (k+1) z3;have CJ:=zH hO3;have Fg:=zH lM;have HNL:=zH Ev;clear hv h2p eL Xh gN ace hz3 Xf hl3 Xg dV UF Ny lM Ev hO2 hO3 hx NY;go_wp2_with fail;go_roundw
   case rel=>
    refine⟨k+1,_,by omega,by go_num,by rw[List.length_set,List.length_set];exact p9.out,HNL.out,Fg.out,CJ.out,(eP.out.setCell (by have:=HG.out;simp;omega) _).setCell (by have:=HG.out;simp;omega) _⟩
   case measure=>simp[intOf];omega
  ·have nP:k=n:=by omega
   have dG:val zs=val xs*2^sh:=by
    have h1:=jI.out;rw[nP,<-aX,bn _ _ (by rw[p9.out];have:=HM.out;omega),bn xs _ (by rw[HL.out];exact Nat.le_refl _)] at h1;exact h1
   have vt:=zH dG;clear dG nP;go_wp2_with fail;go_ret
   exact⟨_,zs,rfl,by rw[HG.out];exact ic.out,vt.out,p9.out,eP.out⟩
theorem abt (x y:Nat) (hx:x<4294967296) (hy:y<4294967296):bits .or .u64 (x:Int) ((y:Int)*4294967296)=((x+4294967296*y:Nat):Int):=by
 have e:(y:Int)*4294967296=((y*4294967296:Nat):Int):=by omega
 rw[e,u64_or_nat _ _ (by omega) (by omega),Nat.or_comm,AL _ _ hx];congr 1;omega
theorem LD {S:Nat->Prop} {A:Option Addr} {n c:Nat} {xs:List (BitVec 32)} {w:World} (sh:Nat) (h:RS w S A n c xs) (hS:∀b,S b->b<w.heap.size) (hn:n<=1073741824) (hs:sh<32) : Calls Tryz.prog 226 #[.slice A n c,.int .i64 sh] w (Vl w (val xs/2^sh) n):=by
 obtain⟨i0,hi,jw,eL,gN⟩:=info_parts Tryz.u32Info;have HI:=zH hi;have oG:=zH jw;have jm:=zH eL;have j1:=zH gN;have H:=zH h;have HL:=zH h.len;clear h hi jw eL gN;go_enter Tryz.func226,Tryz.ntmps226;go_wp2_with (refine bJ (α:=BitVec 32) _ rfl _ _ _ rfl rfl w.heap.size i0 (.int .u32 0) Tryz.underlying26 HI.out oG.out jm.out rfl .i64 .i64 (n:Int) (n:Int) n rfl rfl rfl rfl (by rw[j1.out];omega) (by unfold maxLen;omega) (Nat.le_refl _) 0#32 bb (λ_ h=>h.elim) (λ_ _=>rfl) ?_; intro w1 oL hg1; have ic:=zH oL; have eP:=zH ((Below.refl w.heap.size w).grown hg1 (Nat.le_refl _) (λk hk=>by cases hk)); clear oL hg1);obtain⟨g,hg⟩:∃g,w.heap.size=g:=⟨_,rfl⟩;rw[hg] at ic;rw[hg];have HG:=zH hg;clear hg;go_loopw [6,12] (λ_ i wr=>∃(k:Nat) (zs:List (BitVec 32)),k<=n/\i=.int .i64 k/\zs.length=n/\val (zs.take k)=val xs/2^sh%4294967296^k/\Own wr bb g 172 (.slice (some ⟨g,0,none⟩) n n) zs/\Below w.heap.size w wr)
  (λ_ i _=>n-(intOf i).toNat)
 case atStart=>exact⟨0,List.replicate n 0#32,by omega,rfl,by simp,by simp[val,Nat.mod_one],ic.out,eP.out⟩
 case round=>
  clear ic eP;obtain⟨k,zs,hk,rfl,xp,gK,ho,hb⟩:=hrel;have ic:=zH ho;have eP:=zH hb;have p9:=zH xp;have jI:=zH gK;clear ho hb xp gK;by_cases hlt:k<n
  ·have nP:(k:Int)<(n:Int):=by omega
   have dV:=right_step xs k sh (by omega);obtain⟨x,hx⟩:∃x,(xs.getD k 0#32).toNat=x:=⟨_,rfl⟩;obtain⟨y,hy⟩:∃y,(xs.getD (k+1) 0#32).toNat=y:=⟨_,rfl⟩;have nA:x<4294967296:=by rw[<-hx];exact dm k
   have Bp:y<4294967296:=by rw[<-hy];exact dm (k+1)
   rw[hx,hy] at dV;have kj:=abt x y nA Bp;obtain⟨s,CP⟩:∃s,x+4294967296*y=s:=⟨_,rfl⟩;rw[CP] at kj dV;have PS:s<18446744073709551616:=by omega
   obtain⟨t,ht⟩:∃t,s/2^sh=t:=⟨_,rfl⟩;have htd:(s:Int)/2^sh=(t:Int):=by rw[<-ht,Int.natCast_ediv,Int.natCast_pow];rfl
   rw[ht] at dV;have h1:=iy t;obtain⟨z,hz⟩:∃z,BitVec.ofNat 32 t=z:=⟨_,rfl⟩;have oK:=dQ t;rw[hz] at h1 oK;rw[<-oK] at dV;obtain⟨eC,lF⟩:=ic.out.limb (k:=k) (by rw[p9.out];exact hlt);have lM:val ((zs.set k z).take (k+1))=val xs/2^sh%4294967296^(k+1):=by
    rw[em z (by rw[p9.out];exact hlt),jI.out,Mn,dV]
   have mC:(k:Int)+1=((k+1:Nat):Int):=by omega
   obtain⟨k1,XH⟩:∃k1,k+1=k1:=⟨_,rfl⟩;rw[XH] at mC hy lM;have HX:=zH hx;have HY:=zH hy;have Fg:=zH lM;have TX:=zH XH;clear dV hx hy CP ht hz oK lM XH;go_wp2_with fail;refine(jQ k (H.out.below eP.out hS)).mono ?_;rintro e w' ⟨rfl,rfl⟩;rw[HX.out];go_wp2_with fail;refine(jQ k1 (H.out.below eP.out hS)).mono ?_;rintro e w' ⟨rfl,rfl⟩;rw[HY.out];clear mC;go_wp2_with fail;go_roundw
   case rel=>
    exact⟨k+1,zs.set k z,by omega,by go_num,by rw[List.length_set];exact p9.out,by rw[TX.out];exact Fg.out,ic.out.setLimb k z,eP.out.setCell (by have:=HG.out;simp;omega) _⟩
   case measure=>simp[intOf];omega
  ·have nP:k=n:=by omega
   have dG:val zs=val xs/2^sh:=by
    have h1:=jI.out;rw[nP,bn _ _ (by rw[p9.out];exact Nat.le_refl _),Nat.mod_eq_of_lt] at h1
    ·exact h1
    ·have h2:=dL xs;rw[HL.out] at h2;exact Nat.lt_of_le_of_lt (Nat.div_le_self _ _) h2
   have vt:=zH dG;clear dG nP;go_wp2_with fail;go_ret
   exact⟨_,zs,rfl,by rw[HG.out];exact ic.out,vt.out,p9.out,eP.out⟩
def Pp (w:World) (U V:Nat) (e:Ending) (w':World):Prop:=∃q m:Nat,e=.returned (.int .u64 q)/\U/V<=q/\q<=U/V+1/\q<4294967296/\w'=w.drewN m
theorem afZ {us vs:List (BitVec 32)} {j n:Nat} (hn:2<=n) (hv:vs.length=n) (hu:j+n<us.length) : ∃P ul vl,0<P/\ul<P/\vl<P/\ val ((us.drop j).take (n+1))=P*((((us.getD (j+n) 0#32).toNat*4294967296+(us.getD (j+n-1) 0#32).toNat))*4294967296+(us.getD (j+n-2) 0#32).toNat)+ul/\ val vs=P*((vs.getD (n-1) 0#32).toNat*4294967296+(vs.getD (n-2) 0#32).toNat)+vl:=by
 refine⟨4294967296^(n-2),val ((us.drop j).take (n-2)),val (vs.take (n-2)),Nat.pow_pos (by omega),?_,?_,?_,?_⟩
 ·have:=dL ((us.drop j).take (n-2));rw[List.length_take,List.length_drop,Nat.min_eq_left (by omega)] at this;exact this
 ·have:=dL (vs.take (n-2));rw[List.length_take,Nat.min_eq_left (by omega)] at this;exact this
 ·have hg:∀i,((us.drop j).getD i 0#32)=us.getD (j+i) 0#32:=by
   intro i;rw[List.getD_eq_getElem?_getD,List.getD_eq_getElem?_getD,List.getElem?_drop]
  have e1:=aX (us.drop j) n;have e2:=aX (us.drop j) (n-1);have e3:=aX (us.drop j) (n-2);rw[hg] at e1 e2 e3;have f1:n-1+1=n:=by omega
  have f2:n-2+1=n-1:=by omega
  have f3:j+(n-1)=j+n-1:=by omega
  have f4:j+(n-2)=j+n-2:=by omega
  rw[f1,f3] at e2;rw[f2,f4] at e3;have p1:4294967296^n=4294967296^(n-2)*4294967296*4294967296:=by rw[<-Nat.pow_succ,<-Nat.pow_succ];congr 1;omega
  have p2:4294967296^(n-1)=4294967296^(n-2)*4294967296:=by rw[<-Nat.pow_succ];congr 1;omega
  rw[e1,e2,e3,p1,p2]
  grind
 ·have e2:=aX vs (n-1);have e3:=aX vs (n-2);have f1:n-1+1=n:=by omega
  have f2:n-2+1=n-1:=by omega
  rw[f1,bn vs n (by omega)] at e2;rw[f2] at e3;have p2:4294967296^(n-1)=4294967296^(n-2)*4294967296:=by rw[<-Nat.pow_succ];congr 1;omega
  rw[e2,e3,p2]
  grind
theorem RS.limbD {w:World} {S:Nat->Prop} {A:Option Addr} {n c:Nat} {xs:List (BitVec 32)} (h:RS w S A n c xs) {k:Nat} (hk:k<n):∃b o,A=some ⟨b,o,none⟩/\w.cell? ⟨b,o+k,none⟩=some (.int .u32 ((xs.getD k 0#32).toNat:Int)):=by
 obtain⟨b,o,x,rfl,_,hx,e⟩:=h.limb_at hk;exact⟨b,o,rfl,by rw[List.getD_eq_getElem?_getD,hx];exact e⟩
theorem Ob {Su Sv:Nat->Prop} {Au Av:Option Addr} {nu cu n cv:Nat} {us vs:List (BitVec 32)} {w:World} (j:Nat) (hu:RS w Su Au nu cu us) (hv:RS w Sv Av n cv vs) (hn:2<=n) (hj:j+n<nu) (hnu:nu<=2147483648) (hh:2147483648<=(vs.getD (n-1) 0#32).toNat) (hlt:val ((us.drop j).take (n+1))<val vs*4294967296) : Calls Tryz.prog 249 #[.slice Au nu cu,.slice Av n cv,.int .i64 j] w (Pp w (val ((us.drop j).take (n+1))) (val vs)):=by
 obtain⟨P,ul,vl,hP,PP,zJ,eU,eV⟩:=afZ (us:=us) (vs:=vs) (j:=j) hn hv.len (by rw[hu.len];exact hj);obtain⟨bu,ou,rfl,c1⟩:=hu.limbD (k:=j+n) hj;obtain⟨bu',ou',lN,c2⟩:=hu.limbD (k:=j+n-1) (by omega);obtain⟨rfl,rfl⟩:bu=bu'/\ou=ou':=by injection lN with lN;injection lN with h1 h2;exact⟨h1,h2⟩
 obtain⟨bu',ou',lN,c3⟩:=hu.limbD (k:=j+n-2) (by omega);obtain⟨rfl,rfl⟩:bu=bu'/\ou=ou':=by injection lN with lN;injection lN with h1 h2;exact⟨h1,h2⟩
 obtain⟨bv,ov,rfl,c4⟩:=hv.limbD (k:=n-1) (by omega);obtain⟨bv',ov',lN,c5⟩:=hv.limbD (k:=n-2) (by omega);obtain⟨rfl,rfl⟩:bv=bv'/\ov=ov':=by injection lN with lN;injection lN with h1 h2;exact⟨h1,h2⟩
 have l1:=dm (l:=us) (j+n);have l2:=dm (l:=us) (j+n-1);have l3:=dm (l:=us) (j+n-2);have l4:=dm (l:=vs) (n-1);have l5:=dm (l:=vs) (n-2);obtain⟨U,hU⟩:∃U,val ((us.drop j).take (n+1))=U:=⟨_,rfl⟩;obtain⟨V,hV⟩:∃V,val vs=V:=⟨_,rfl⟩;obtain⟨u0,h0⟩:∃u0,(us.getD (j+n) 0#32).toNat=u0:=⟨_,rfl⟩;obtain⟨u1,h1⟩:∃u1,(us.getD (j+n-1) 0#32).toNat=u1:=⟨_,rfl⟩;obtain⟨u2,h2⟩:∃u2,(us.getD (j+n-2) 0#32).toNat=u2:=⟨_,rfl⟩;obtain⟨h,h3⟩:∃h,(vs.getD (n-1) 0#32).toNat=h:=⟨_,rfl⟩;obtain⟨v2,h4⟩:∃v2,(vs.getD (n-2) 0#32).toNat=v2:=⟨_,rfl⟩;rw[hU,hV] at hlt;rw[hU,h0,h1,h2] at eU;rw[hV,h3,h4] at eV;rw[h0] at c1 l1;rw[h1] at c2 l2;rw[h2] at c3 l3;rw[h3] at c4 l4 hh;rw[h4] at c5 l5;rw[hU,hV];obtain⟨T,hT⟩:∃T,u0*4294967296+u1=T:=⟨_,rfl⟩;have kj:=Wj u0 u1 l1 l2;rw[hT] at kj eU;have hTb:T<18446744073709551616:=by omega
 have hTt:=Ju eU eV zJ l5 hlt;have Ey:=BA eU PP l3 eV (by omega);have hcu:=hu.cap;have P1:=hv.cap;have EU:=zH eU;have EV:=zH eV;have Da:=zH hTt;have HUL:=zH PP;have HVL:=zH zJ;obtain⟨a,ha⟩:∃a,j+n=a:=⟨_,rfl⟩;obtain⟨b,hb⟩:∃b,j+n-1=b:=⟨_,rfl⟩;obtain⟨c,hc⟩:∃c,j+n-2=c:=⟨_,rfl⟩;obtain⟨d,hd⟩:∃d,n-1=d:=⟨_,rfl⟩;obtain⟨f,hf⟩:∃f,n-2=f:=⟨_,rfl⟩;rw[ha] at c1;rw[hb] at c2;rw[hc] at c3;rw[hd] at c4;rw[hf] at c5;have i1:(j:Int)+(n:Int)=(a:Int):=by omega
 have i2:(a:Int)-1=(b:Int):=by omega
 have i3:(a:Int)-2=(c:Int):=by omega
 have i4:(n:Int)-1=(d:Int):=by omega
 have i5:(n:Int)-2=(f:Int):=by omega
 have k1:(a:Int)<(nu:Int):=by omega
 have k2:(b:Int)<(nu:Int):=by omega
 have k3:(c:Int)<(nu:Int):=by omega
 have k4:(d:Int)<(n:Int):=by omega
 have k5:(f:Int)<(n:Int):=by omega
 have wa:IntKind.i64.wrap (a:Int)=(a:Int):=by rw[IntKind.wrap_i64];omega
 have wb:IntKind.i64.wrap (b:Int)=(b:Int):=by rw[IntKind.wrap_i64];omega
 have wc:IntKind.i64.wrap (c:Int)=(c:Int):=by rw[IntKind.wrap_i64];omega
 have w0:IntKind.u64.wrap (u0:Int)=(u0:Int):=by rw[IntKind.wrap_u64];omega
 have w1:IntKind.u64.wrap (u1:Int)=(u1:Int):=by rw[IntKind.wrap_u64];omega
 have w2:IntKind.u64.wrap (u2:Int)=(u2:Int):=by rw[IntKind.wrap_u64];omega
 have w3:IntKind.u64.wrap (h:Int)=(h:Int):=by rw[IntKind.wrap_u64];omega
 have w4:IntKind.u64.wrap (v2:Int)=(v2:Int):=by rw[IntKind.wrap_u64];omega
 have w5:IntKind.u64.wrap ((u0:Int)*4294967296)=(u0:Int)*4294967296:=by rw[IntKind.wrap_u64];omega
 have hu0:((h:Int)==0)=false:=by rw[beq_eq_false_iff_ne];omega
 obtain⟨q0,Nn⟩:∃q,T/h=q:=⟨_,rfl⟩;obtain⟨r0,zK⟩:∃r,T%h=r:=⟨_,rfl⟩;have CQ:q0*h+r0=T:=by rw[<-Nn,<-zK,Nat.mul_comm];exact Nat.div_add_mod T h
 have acw:r0<4294967296:=by have:=Nat.mod_lt T (show 0<h by omega);omega
 have acB:q0<18446744073709551616:=by have:=Nat.div_le_self T h;omega
 rw[Nn] at Ey;have UG:(T:Int).tdiv (h:Int)=(q0:Int):=by rw[<-Nn];rfl
 have PT:(T:Int).tmod (h:Int)=(r0:Int):=by rw[<-zK];rfl
 have acz:(T:Int)/(h:Int)=(q0:Int):=by rw[<-Nn];rfl
 have acq:(T:Int)%(h:Int)=(r0:Int):=by rw[<-zK];rfl
 have wq:IntKind.u64.wrap (q0:Int)=(q0:Int):=by rw[IntKind.wrap_u64];omega
 have wr0:IntKind.u64.wrap (r0:Int)=(r0:Int):=by rw[IntKind.wrap_u64];omega
 have HFI:=zH Ey;have HQR:=zH CQ;have HUB:Hid (U/V<4294967296):=zH (Nat.div_lt_of_lt_mul hlt);clear eU eV hTt PP zJ Ey ha hb hc hd hf h0 h1 h2 h3 h4 hU hV hT hlt hu hv hP Nn zK CQ;go_enter Tryz.func249,Tryz.ntmps249;go_wp2_with fail;go_quiet (fail)
 go_wp2_with fail;go_quiet (fail)
 go_wp2_with fail;go_loopw [10,11] (λqv rv wr=>∃(q r m:Nat),qv=.int .u64 q/\rv=.int .u64 r/\q*h+r=T/\U/V<=q/\r<4294967296/\q<18446744073709551616/\wr=w.drewN m)
  (λqv _ _=>(intOf qv).toNat)
 case atStart=>exact⟨q0,r0,_,rfl,rfl,HQR.out,HFI.out,acw,acB,World.drewN_drewN _ _ _⟩
 case round=>
  clear wq wr0 UG acz PT acq kj HQR HFI acw acB;obtain⟨q,r,m,rfl,rfl,CQ,lR,hr,hq,rfl⟩:=hrel;have HQR:=zH CQ;have zV:=zH lR;have wh:IntKind.u64.wrap ((r:Int)+(h:Int))=(r:Int)+(h:Int):=by rw[IntKind.wrap_u64];omega
  by_cases hB:4294967296<=q
  ·have hB':(4294967296:Int)<=(q:Int):=by omega
   have wq1:IntKind.u64.wrap ((q:Int)-1)=(q:Int)-1:=by rw[IntKind.wrap_u64];omega
   have PU:1<=q:=by omega
   have Er:(q-1)*h+(r+h)=T:=by
    have e:q=q-1+1:=by omega
    rw[e,Nat.add_mul] at CQ;omega
   have Ex:U/V<=q-1:=by have:=HUB.out;omega
   have zB:=zH Er;have Fh:=zH Ex;obtain⟨q',Kk⟩:∃x,q-1=x:=⟨_,rfl⟩;obtain⟨r',iV⟩:∃x,r+h=x:=⟨_,rfl⟩;rw[Kk,iV] at zB;rw[Kk] at Fh;have iq:(q:Int)-1=(q':Int):=by omega
   have ir:(r:Int)+(h:Int)=(r':Int):=by omega
   rw[iq] at wq1;rw[ir] at wh;by_cases hR:4294967296<=r'
   ·have hR':(4294967296:Int)<=(r':Int):=by omega
    have Jk:=uG (u2:=u2) zB.out Da.out hR l5;have GH:=oC EU.out EV.out HVL.out (by omega) zB.out Jk.1 Jk.2;have dG:Hid (U/V<=q'/\q'<=U/V+1/\q'<4294967296):=zH ⟨Fh.out,GH,Jk.1⟩;clear CQ lR Er Ex Jk GH Kk iV hR hB;go_wp2_with fail;go_quiet (fail)
    go_wp2_with fail;go_ret
    exact⟨q',_,rfl,dG.out.1,dG.out.2.1,dG.out.2.2,rfl⟩
   ·have hR':(r':Int)<(4294967296:Int):=by omega
    have hR2:¬((4294967296:Int)<=(r':Int)):=by omega
    have hR3:decide ((4294967296:Int)<=(r':Int))=false:=decide_eq_false hR2;have xu:r'<4294967296:=by omega
    have zM:q'<18446744073709551616:=by omega
    have UG:q'<q:=by omega
    clear CQ lR Er Ex hB Kk iV hR;go_wp2_with fail;go_quiet (fail)
    go_wp2_with fail;go_roundw
    case rel=>exact⟨q',r',_,rfl,rfl,zB.out,Fh.out,xu,zM,rfl⟩
    case measure=>simp[intOf];omega
  ·have hB':(q:Int)<(4294967296:Int):=by omega
   have hB2:¬((4294967296:Int)<=(q:Int)):=by omega
   have hB3:decide ((4294967296:Int)<=(q:Int))=false:=decide_eq_false hB2;obtain⟨p,hp⟩:∃p,q*v2=p:=⟨_,rfl⟩;obtain⟨s,hs⟩:∃s,r*4294967296+u2=s:=⟨_,rfl⟩;have wi:p<=4294967295*4294967295:=by rw[<-hp];exact Nat.mul_le_mul (by omega) (by omega)
   have ip:(q:Int)*(v2:Int)=(p:Int):=by rw[<-hp];omega
   have wp':IntKind.u64.wrap (p:Int)=(p:Int):=by rw[IntKind.wrap_u64];omega
   have wr':IntKind.u64.wrap ((r:Int)*4294967296)=(r:Int)*4294967296:=by rw[IntKind.wrap_u64];omega
   have ahK:=Wj r u2 hr l3;rw[hs] at ahK;by_cases Xx:s<p
   ·have hbig:=Jv EU.out HUL.out EV.out CQ (by rw[hs,hp];exact Xx);have ahG:(s:Int)<(p:Int):=by omega
    have PU:1<=q:=Nat.lt_of_le_of_lt (Nat.zero_le _) hbig;have wq1:IntKind.u64.wrap ((q:Int)-1)=(q:Int)-1:=by rw[IntKind.wrap_u64];omega
    have Er:(q-1)*h+(r+h)=T:=by
     have e:q=q-1+1:=by omega
     rw[e,Nat.add_mul] at CQ;omega
    have Ex:U/V<=q-1:=Nat.le_sub_one_of_lt hbig;have zB:=zH Er;have Fh:=zH Ex;obtain⟨q',Kk⟩:∃x,q-1=x:=⟨_,rfl⟩;obtain⟨r',iV⟩:∃x,r+h=x:=⟨_,rfl⟩;rw[Kk,iV] at zB;rw[Kk] at Fh;have iq:(q:Int)-1=(q':Int):=by omega
    have ir:(r:Int)+(h:Int)=(r':Int):=by omega
    rw[iq] at wq1;rw[ir] at wh;by_cases hR:4294967296<=r'
    ·have hR':(4294967296:Int)<=(r':Int):=by omega
     have Jk:=uG (u2:=u2) zB.out Da.out hR l5;have GH:=oC EU.out EV.out HVL.out (by omega) zB.out Jk.1 Jk.2;have dG:Hid (U/V<=q'/\q'<=U/V+1/\q'<4294967296):=zH ⟨Fh.out,GH,Jk.1⟩;clear CQ lR Er Ex Jk GH Kk iV hR hB hp hs Xx wi hbig;go_wp2_with fail;go_quiet (fail)
     go_wp2_with fail;go_ret
     exact⟨q',_,rfl,dG.out.1,dG.out.2.1,dG.out.2.2,rfl⟩
    ·have hR':(r':Int)<(4294967296:Int):=by omega
     have hR2:¬((4294967296:Int)<=(r':Int)):=by omega
     have hR3:decide ((4294967296:Int)<=(r':Int))=false:=decide_eq_false hR2;have xu:r'<4294967296:=by omega
     have zM:q'<18446744073709551616:=by omega
     have UG:q'<q:=by omega
     clear CQ lR Er Ex hB Kk iV hR hp hs Xx wi hbig;go_wp2_with fail;go_quiet (fail)
     go_wp2_with fail;go_roundw
     case rel=>exact⟨q',r',_,rfl,rfl,zB.out,Fh.out,xu,zM,rfl⟩
     case measure=>simp[intOf];omega
   ·have ahG:(p:Int)<=(s:Int):=by omega
    have ahF:¬((s:Int)<(p:Int)):=by omega
    have aph:decide ((s:Int)<(p:Int))=false:=decide_eq_false ahF;have apg:decide (s<p)=false:=decide_eq_false Xx;have GH:=oC EU.out EV.out HVL.out (by omega) CQ (by omega) (by rw[hs,hp];omega);have dG:Hid (U/V<=q/\q<=U/V+1/\q<4294967296):=zH ⟨lR,GH,by omega⟩;clear CQ lR GH hB hp hs Xx wi;go_wp2_with fail;go_quiet (fail)
    go_wp2_with fail;go_ret
    exact⟨q,_,rfl,dG.out.1,dG.out.2.1,dG.out.2.2,World.drewN_drewN _ _ _⟩
def TK (w:World) (bs gu nu cu U V m:Nat) (e:Ending) (w':World):Prop:=
 ∃(s:Value) (qs rs:List (BitVec 32)),e=.returned s/\Own w' bb w.heap.size 172 s qs/\val qs=U/V/\qs.length=m/\
  Own w' bb bs 172 (.slice (some ⟨gu,0,none⟩) nu cu) rs/\val rs=U%V/\rs.length=nu/\Below bs w w'
theorem Tx (p:Nat) (hp:p<18446744073709551616):bits .and .u64 (p:Int) 4294967295=((p%4294967296:Nat):Int):=by
 have h:=bits_and_u64_nat p 4294967295 hp (by omega);have e:p&&& 4294967295=p%4294967296:=Nat.and_two_pow_sub_one_eq_mod p 32;rw[e] at h;exact h
theorem tZ {n V:Nat} {us ts xs qs:List (BitVec 32)} {j q:Nat} {z:BitVec 32} (hj:j+(n+1)<=ts.length) (hV:V<4294967296^n) (Sg:val (ts.drop (j+1))<V) (bm:xs.length=ts.length) (h1:xs.take j=ts.take j) (h2:xs.drop (j+(n+1))=ts.drop (j+(n+1))) (hw:val ((xs.drop j).take (n+1))=val ((ts.drop j).take (n+1))%V) (hq:q=val ((ts.drop j).take (n+1))/V) (hz:z.toNat=q) (hjq:j<qs.length) (gK:val us=val ts+V*(4294967296^(j+1)*val (qs.drop (j+1)))):val us=val xs+V*(4294967296^j*val ((qs.set j z).drop j))/\val (xs.drop j)<V:=by
 obtain⟨_,h3,h4⟩:=Eb hj hV Sg bm h1 h2 hw;refine⟨?_,h3⟩;rw[nS z hjq,val,hz,gK,h4,<-hq,Nat.pow_succ]
 grind
theorem Rl {S:Nat->Prop} {Av:Option Addr} {bs gu nu cu n cv:Nat} {us vs:List (BitVec 32)} {w:World} (hu:Own w bb bs 172 (.slice (some ⟨gu,0,none⟩) nu cu) us) (hv:RS w S Av n cv vs) (hS:∀b,S b->b<w.heap.size/\b≠gu) (hn:2<=n) (hnu:n<nu) (acL:nu<=1073741825) (hh:2147483648<=(vs.getD (n-1) 0#32).toNat) (Xo:val (us.drop (nu-n))<val vs) : Calls Tryz.prog 225 #[.slice (some ⟨gu,0,none⟩) nu cu,.slice Av n cv] w (TK w bs gu nu cu (val us) (val vs) (nu-n)):=by
 obtain⟨i0,hi,jw,eL,gN⟩:=info_parts Tryz.u32Info;have HI:=zH hi;have oG:=zH jw;have jm:=zH eL;have j1:=zH gN;have HU:=zH hu;have HV:=zH hv;have HUL:=zH hu.rsAll.len;have HSS:=zH hS;have HH:=zH hh;have Sk:bs<=gu/\gu<w.heap.size:=hu.lt gu rfl;obtain⟨m,hm⟩:∃m,nu-n=m:=⟨_,rfl⟩;rw[hm] at Xo;rw[hm];have HT:=zH Xo;have GC:(nu:Int)-(n:Int)=(m:Int):=by omega
 have hmb:m<=1073741825:=by omega
 have hm0:1<=m:=by omega
 have wm:IntKind.i64.wrap (m:Int)=(m:Int):=by rw[IntKind.wrap_i64];omega
 obtain⟨V,hV⟩:∃V,val vs=V:=⟨_,rfl⟩;rw[hV] at HT;rw[hV];have Zt:=zH hV;clear hu hv hh Xo hi jw eL gN hV hS;go_enter Tryz.func225,Tryz.ntmps225;go_wp2_with (refine bJ (α:=BitVec 32) _ rfl _ _ _ rfl rfl w.heap.size i0 (.int .u32 0) Tryz.underlying26 HI.out oG.out jm.out rfl .i64 .i64 (m:Int) (m:Int) m rfl rfl rfl rfl (by rw[j1.out];omega) (by unfold maxLen;omega) (Nat.le_refl _) 0#32 bb (λ_ h=>h.elim) (λ_ _=>rfl) ?_; intro w1 oL hg1; have ic:=zH oL; have eP:=zH ((Below.refl w.heap.size w).grown hg1 (Nat.le_refl _) (λk hk=>by cases hk)); clear oL hg1);obtain⟨g,hg⟩:∃g,w.heap.size=g:=⟨_,rfl⟩;rw[hg] at ic Sk;have HG:=zH hg;have ek:Hid (Below bs w w1):=zH (eP.out.mono (by rw[hg];omega));have HU1:=zH (HU.out.below eP.out);have TX:Hid (aw S w w1):=zH ((aw.of_below eP.out).sub λb hb=>(HSS.out b hb).1);clear hg;go_loopw [7] (λjv wr=>∃(k:Nat) (z:Int) (ts qs:List (BitVec 32)),k<=m/\jv=.int .i64 z/\z+1=k/\ts.length=nu/\qs.length=m/\val us=val ts+V*(4294967296^k*val (qs.drop k))/\val (ts.drop k)<V/\ Own wr bb bs 172 (.slice (some ⟨gu,0,none⟩) nu cu) ts/\Own wr bb g 172 (.slice (some ⟨g,0,none⟩) m m) qs/\aw S w wr/\Below bs w wr)
  (λjv _=>(intOf jv+1).toNat)
 case atStart=>
  exact⟨m,(m:Int)-1,us,List.replicate m 0#32,Nat.le_refl _,rfl,by omega,HUL.out,by simp,by rw[List.drop_eq_nil_of_le (by simp)];simp[val],HT.out,HU1.out,ic.out,TX.out,ek.out⟩
 case round=>
  clear ic eP ek HU1 TX HU;obtain⟨k,z,ts,qs,hk,rfl,hz,CO,zM,gK,Sg,Jl,wj,bC,oA⟩:=hrel;have Hp:=zH CO;have Hr:=zH zM;have jI:=zH gK;have Pv:=zH Sg;have CH:=zH Jl;have zU:=zH wj;have HK:=zH bC;have HB:=zH oA;have Zu:=zH (HV.out.keep (λb hb=>hb) bC);clear CO zM gK Sg Jl wj bC oA;rcases k with _|j
  ·obtain rfl:z= -1:=by omega
   have dG:val qs=val us/V/\val ts=val us%V:=by
    have h1:=jI.out;have h2:=Pv.out;rw[List.drop_zero] at h1 h2;rw[Nat.pow_zero,Nat.one_mul] at h1;exact xJ (by rw[Nat.mul_comm,h1];omega) h2
   have HF:=zH dG;clear dG hz;go_wp2_with fail;go_ret
   exact⟨_,qs,ts,rfl,by rw[HG.out];exact zU.out,HF.out.1,Hr.out,CH.out,HF.out.2,Hp.out,HB.out⟩
  ·obtain rfl:z=j:=by omega
   have hjn:j+(n+1)<=nu:=by omega
   have Jg:=Vx (n:=n) (by rw[Hp.out];exact hjn) Pv.out;have HWL:=zH Jg;clear Jg hz;go_wp2_with fail;refine(Ob j CH.out.rsAll Zu.out hn (by omega) (by omega) HH.out (by rw[Zt.out];exact HWL.out)).mono ?_;rintro e w' ⟨q,mm,rfl,lR,rX,hqB,rfl⟩;rw[Zt.out] at lR rX;have zV:=zH lR;have HHI:=zH rX;have Pu:=zH (CH.out.drewN mm);have Zy:=zH (zU.out.drewN mm);have Pw:Hid (aw S w (wr.drewN mm)):=zH HK.out;have ek:=zH (below_drewN HB.out mm);obtain⟨wd,Bq⟩:∃x,wr.drewN mm=x:=⟨_,rfl⟩;rw[Bq] at Pu Zy Pw ek;rw[Bq];clear lR rX Bq CH zU HK HB Zu;obtain⟨N,hN⟩:∃N,n+1=N:=⟨_,rfl⟩;have hN1:(n:Int)+1=(N:Int):=by omega
   have wN:IntKind.i64.wrap (N:Int)=(N:Int):=by rw[IntKind.wrap_i64];omega
   go_wp2_with fail;go_loopw [9,10,38] (λbv cv iv wr=>∃(b c i:Nat) (xs:List (BitVec 32)),i<=N/\iv=.int .i64 i/\bv=.int .u64 b/\cv=.int .u64 c/\b<=1/\c<4294967296/\(n<i->c=0)/\xs.length=nu/\xs.take j=ts.take j/\xs.drop (j+i)=ts.drop (j+i)/\ val ((xs.drop j).take i)+q*val (vs.take i)=val ((ts.drop j).take i)+4294967296^i*(c+b)/\ Own wr bb bs 172 (.slice (some ⟨gu,0,none⟩) nu cu) xs/\Own wr bb g 172 (.slice (some ⟨g,0,none⟩) m m) qs/\aw S w wr/\Below bs w wr)
    (λ_ _ iv _=>N-(intOf iv).toNat)
   case atStart=>exact⟨0,0,0,ts,Nat.zero_le _,rfl,rfl,rfl,Nat.zero_le _,by omega,by omega,Hp.out,rfl,rfl,by simp[val],Pu.out,Zy.out,Pw.out,ek.out⟩
   case round=>
    clear Pu Zy Pw ek;obtain⟨b,c,i,xs,hi,rfl,rfl,rfl,hb,hc,hcn,nA,hxt,Xj,gK,Jl,wj,bC,oA⟩:=hrel;have Zq:=zH nA;have HXT:=zH hxt;have HXD:=zH Xj;have Vp:=zH gK;have CH:=zH Jl;have zU:=zH wj;have HK:=zH bC;have HB:=zH oA;have HCN:=zH hcn;have Zu:Hid (RS wr S Av n cv vs):=zH (HV.out.keep (λb hb=>hb) bC);clear nA hxt Xj gK Jl wj bC oA hcn;by_cases hlt:i<N
    ·have NG:(i:Int)<(N:Int):=by omega
     have NE:j+i<nu:=by omega
     obtain⟨y,hy⟩:∃y,(vs.getD i 0#32).toNat=y:=⟨_,rfl⟩;obtain⟨x,hx⟩:∃x,(xs.getD (j+i) 0#32).toNat=x:=⟨_,rfl⟩;have Bp:y<4294967296:=by rw[<-hy];exact(vs.getD i 0#32).isLt
     have nA:x<4294967296:=by rw[<-hx];exact(xs.getD (j+i) 0#32).isLt
     obtain⟨eC,lF⟩:=CH.out.limb (k:=j+i) (by rw[Zq.out];exact NE);rw[hx] at eC;obtain⟨p0,Nq⟩:∃p,q*y=p:=⟨_,rfl⟩;have apn:p0<=4294967295*4294967295:=by rw[<-Nq];exact Nat.mul_le_mul (by omega) (by omega)
     have apo:(q:Int)*(y:Int)=(p0:Int):=by rw[<-Nq];exact(Int.natCast_mul _ _).symm
     obtain⟨p,hp⟩:∃p,p0+c=p:=⟨_,rfl⟩;have hpi:(p0:Int)+(c:Int)=(p:Int):=by omega
     have wi:p<18446744073709551616:=by omega
     have wp0:IntKind.u64.wrap (p0:Int)=(p0:Int):=by rw[IntKind.wrap_u64];omega
     have wp1:IntKind.u64.wrap (p:Int)=(p:Int):=by rw[IntKind.wrap_u64];omega
     obtain⟨c',NZ⟩:∃c',p/4294967296=c':=⟨_,rfl⟩;have hcd:(p:Int)/4294967296=(c':Int):=by rw[<-NZ];rfl
     have ail:c'<4294967296:=by omega
     have hand:=Tx p wi;obtain⟨pm,hpm⟩:∃z,p%4294967296=z:=⟨_,rfl⟩;rw[hpm] at hand;have apj:pm<4294967296:=by omega
     obtain⟨s,hs⟩:∃s,4294967296+x-pm-b=s:=⟨_,rfl⟩;obtain⟨s1,lJ⟩:∃s,4294967296+x=s:=⟨_,rfl⟩;obtain⟨s2,CP⟩:∃s,s1-pm=s:=⟨_,rfl⟩;have ahx:(4294967296:Int)+(x:Int)=(s1:Int):=by omega
     have apc:(s1:Int)-(pm:Int)=(s2:Int):=by omega
     have hsi:(s2:Int)-(b:Int)=(s:Int):=by omega
     have ws1:IntKind.u64.wrap (s1:Int)=(s1:Int):=by rw[IntKind.wrap_u64];omega
     have ws2:IntKind.u64.wrap (s2:Int)=(s2:Int):=by rw[IntKind.wrap_u64];omega
     have ws:IntKind.u64.wrap (s:Int)=(s:Int):=by rw[IntKind.wrap_u64];omega
     have wx:IntKind.u64.wrap (x:Int)=(x:Int):=by rw[IntKind.wrap_u64];omega
     obtain⟨d,hd⟩:∃d,s/4294967296=d:=⟨_,rfl⟩;have Sb:(s:Int)/4294967296=(d:Int):=by rw[<-hd];rfl
     have US:d<=1:=by omega
     obtain⟨b',lN⟩:∃b',1-d=b':=⟨_,rfl⟩;have hbi:(1:Int)-(d:Int)=(b':Int):=by omega
     have wb:IntKind.u64.wrap (b':Int)=(b':Int):=by rw[IntKind.wrap_u64];omega
     have xq:=iy s;obtain⟨t,ht⟩:∃t,BitVec.ofNat 32 s=t:=⟨_,rfl⟩;have PQ:=dQ s;rw[ht] at xq PQ;obtain⟨k,kC⟩:∃k,j+i=k:=⟨_,rfl⟩;have hki:(i:Int)+(j:Int)=(k:Int):=by omega
     have wk:IntKind.i64.wrap (k:Int)=(k:Int):=by rw[IntKind.wrap_i64];omega
     have nP:(k:Int)<(nu:Int):=by omega
     have hw:=Fs t (by rw[Zq.out];exact NE) HXT.out HXD.out;have e1:=aX (ts.drop j) i;have e2:=aX vs i;have dV:=IZ (B:=4294967296) rfl nA (show q*y+c=p by rw[Nq];exact hp) (show 4294967296+x-p%4294967296-b=s by rw[hpm];exact hs) hb Vp.out;have e3:(ts.drop j).getD i 0#32=ts.getD (j+i) 0#32:=by rw[List.getD_eq_getElem?_getD,List.getD_eq_getElem?_getD,List.getElem?_drop]
     rw[e3,<-hw.2.2.2,hx] at e1;rw[hy] at e2;rw[<-e1,<-e2,NZ,hd,lN,<-PQ,<-hw.2.2.1,<-Nat.pow_succ] at dV;have ac8:n<i+1->c'=0:=by
      intro h;have v7:y=0:=by
       rw[<-hy,List.getD_eq_getElem?_getD,List.getElem?_eq_none (by rw[HV.out.len];omega)];rfl
      rw[v7,Nat.mul_zero] at Nq;omega
     rw[kC] at hw dV eC lF;have mQ:=zH hw.1;have Zs:=zH hw.2.1;have xU:=zH dV;have akQ:=zH ac8;have HY:=zH hy;clear hw dV ac8 hy hx e1 e2 e3 Nq hp NZ hpm hs lJ CP hd lN ht PQ kC Vp hN hm;go_wp2_with fail;refine(jQ i Zu.out).mono ?_;rintro e w' ⟨rfl,rfl⟩;rw[HY.out];go_wp2_with fail;go_roundw
     case rel=>exact⟨b',c',i+1,xs.set k t,by omega,by go_num,rfl,rfl,by omega,ail,akQ.out,by rw[List.length_set];exact Zq.out,mQ.out,Zs.out,xU.out,CH.out.setLimb k t,zU.out.setCell (by simp[Value.ownBlock];omega) (λ_ h=>h.elim) _,HK.out.setCell (λhb=>(HSS.out _ hb).2 rfl) _,HB.out.setCell Sk.1 _⟩
     case measure=>simp[intOf];omega
    ·have NG:i=N:=by omega
     have NY:=HCN.out (by omega);have NF:=Vp.out;rw[NY] at NF;clear NY;rw[bn vs i (by rw[HV.out.len];omega),Zt.out] at NF;have Jg:=dL ((xs.drop j).take i);have PY:((xs.drop j).take i).length=i:=by rw[List.length_take,List.length_drop,Zq.out];omega
     rw[PY] at Jg;have hVp:0<V:=Nat.lt_of_le_of_lt (Nat.zero_le _) Pv.out;have hVn:V<4294967296^n:=by rw[<-Zt.out,<-HV.out.len];exact dL vs
     rw[NG,<-hN] at NF Jg;have Xj:xs.drop (j+(n+1))=ts.drop (j+(n+1)):=by rw[hN,<-NG];exact HXD.out
     obtain⟨h0,h1⟩:=Ml hVp Jg zV.out HHI.out hb NF;have hjm:(j:Int)<(m:Int):=by omega
     obtain⟨eC,lF⟩:=zU.out.limb (k:=j) (by rw[Hr.out];omega);rw[<-HG.out] at eC lF;have hgl:w.heap.size≠gu:=by have:=HG.out;omega
     have HGU:Hid (gu<w.heap.size):=zH (by rw[HG.out];exact Sk.2);rcases Nat.eq_zero_or_pos b with hb0|hb0
     ·obtain⟨hq,Ni⟩:=h0 hb0;have N4:decide (0<b)=false:=decide_eq_false (by omega);have hbg:(0<b)=False:=eq_false (by omega);have xq:=iy q;obtain⟨zq,Nb⟩:∃z,BitVec.ofNat 32 q=z:=⟨_,rfl⟩;have eQ:=dQ q;rw[Nb] at xq eQ;have oK:zq.toNat=q:=by omega
      have Ns:=tZ (us:=us) (qs:=qs) (by rw[Hp.out];exact hjn) hVn Pv.out (by rw[Zq.out,Hp.out]) HXT.out Xj Ni hq oK (by rw[Hr.out];omega) jI.out;have Pt:=zH Ns;have q1:Own (wr.setCell ⟨w.heap.size,j,none⟩ (.int .u32 (zq.toNat:Int))) bb bs 172 (.slice (some ⟨gu,0,none⟩) nu cu) xs:=CH.out.setCell (by simp[Value.ownBlock];omega) (λ_ h=>h.elim) _;have q2:Own (wr.setCell ⟨w.heap.size,j,none⟩ (.int .u32 (zq.toNat:Int))) bb g 172 (.slice (some ⟨g,0,none⟩) m m) (qs.set j zq):=by rw[HG.out];exact zU.out.setLimb j zq
      have q3:aw S w (wr.setCell ⟨w.heap.size,j,none⟩ (.int .u32 (zq.toNat:Int))):=HK.out.setCell (λhb=>Nat.lt_irrefl _ (HSS.out _ hb).1) _;have q4:Below bs w (wr.setCell ⟨w.heap.size,j,none⟩ (.int .u32 (zq.toNat:Int))):=HB.out.setCell (by have:=HG.out;simp;omega) _;have Q1:=zH q1;have Q2:=zH q2;have Q3:=zH q3;have Q4:=zH q4;clear Ns hq Ni h0 h1 NF Jg PY Nb eQ oK hN Xj NG hb0 q1 q2 q3 q4;have XJ:((i:Int)<(N:Int))=False:=eq_false (by omega);go_wp2_with fail;go_roundw
      case rel=>exact⟨j,(j:Int)-1,xs,qs.set j zq,by omega,by go_num,by omega,Zq.out,by rw[List.length_set];exact Hr.out,Pt.out.1,Pt.out.2,Q1.out,Q2.out,Q3.out,Q4.out⟩
      case measure=>simp[intOf]
     ·obtain⟨hq,Ni⟩:=h1 hb0;have bS:b=1:=by omega
      obtain⟨q1,PU⟩:∃q1,q-1=q1:=⟨_,rfl⟩;have Nn:1<=q:=by rw[hq];exact Nat.le_add_left _ _
      have apf:(q:Int)-1=(q1:Int):=by omega
      have acA:q1=val ((ts.drop j).take (n+1))/V:=by rw[<-PU,hq];rfl
      have wq1:IntKind.u64.wrap (q1:Int)=(q1:Int):=by rw[IntKind.wrap_u64];omega
      have xq:=iy q1;obtain⟨zq,Nb⟩:∃z,BitVec.ofNat 32 q1=z:=⟨_,rfl⟩;have eQ:=dQ q1;rw[Nb] at xq eQ;have oK:zq.toNat=q1:=by omega
      have hbg:(0<b)=True:=eq_true (by omega);have N4:decide (0<b)=true:=decide_eq_true (by omega);have XJ:((i:Int)<(N:Int))=False:=eq_false (by omega);obtain⟨U1,hU1⟩:∃U1,val ((xs.drop j).take (n+1))=U1:=⟨_,rfl⟩;obtain⟨RR,hRR⟩:∃U1,val ((ts.drop j).take (n+1))%V=U1:=⟨_,rfl⟩;have CG:=zH hRR;have HQ1:=zH acA;have HZN:=zH oK;have akd:=zH Xj;have akf:=zH Ni;have HN:=zH hN;clear h0 h1 NF Jg PY Nb eQ oK hN Xj NG hb0 hq Ni hU1 hRR PU acA bS Vp HXD;go_wp2_with fail;go_loopw [10,80] (λcv iv wr=>∃(c i:Nat) (ys:List (BitVec 32)),i<=N/\iv=.int .i64 i/\cv=.int .u64 c/\c<=1/\ys.length=nu/\ys.take j=xs.take j/\ys.drop (j+i)=xs.drop (j+i)/\ val ((ys.drop j).take i)+4294967296^i*c=val ((xs.drop j).take i)+val (vs.take i)/\ Own wr bb bs 172 (.slice (some ⟨gu,0,none⟩) nu cu) ys/\Own wr bb g 172 (.slice (some ⟨g,0,none⟩) m m) qs/\aw S w wr/\Below bs w wr)
       (λ_ iv _=>N-(intOf iv).toNat)
      case atStart=>exact⟨0,0,xs,Nat.zero_le _,rfl,rfl,Nat.zero_le _,Zq.out,rfl,rfl,by simp[val],CH.out,zU.out,HK.out,HB.out⟩
      case round=>
       clear CH zU HK HB Zu hi hlt XJ eC lF hc hb hbg N4;obtain⟨c,i,ys,hi,rfl,rfl,hc,Bp,hyt,UD,gK,Jl,wj,bC,oA⟩:=hrel;have HYL:=zH Bp;have HYT:=zH hyt;have HYD:=zH UD;have Vp:=zH gK;have CH:=zH Jl;have zU:=zH wj;have HK:=zH bC;have HB:=zH oA;have Zu:Hid (RS wr S Av n cv vs):=zH (HV.out.keep (λb hb=>hb) bC);clear Bp hyt UD gK Jl wj bC oA;by_cases hlt:i<N
       ·have NG:(i:Int)<(N:Int):=by omega
        have NE:j+i<nu:=by have:=HN.out;omega
        obtain⟨y,hy⟩:∃y,(vs.getD i 0#32).toNat=y:=⟨_,rfl⟩;obtain⟨x,hx⟩:∃x,(ys.getD (j+i) 0#32).toNat=x:=⟨_,rfl⟩;have Bp:y<4294967296:=by rw[<-hy];exact(vs.getD i 0#32).isLt
        have nA:x<4294967296:=by rw[<-hx];exact(ys.getD (j+i) 0#32).isLt
        obtain⟨eC,lF⟩:=CH.out.limb (k:=j+i) (by rw[HYL.out];exact NE);rw[hx] at eC;obtain⟨s,hs⟩:∃s,x+y+c=s:=⟨_,rfl⟩;obtain⟨s1,lJ⟩:∃s,x+y=s:=⟨_,rfl⟩;have ahx:(x:Int)+(y:Int)=(s1:Int):=by omega
        have hsi:(s1:Int)+(c:Int)=(s:Int):=by omega
        have ws1:IntKind.u64.wrap (s1:Int)=(s1:Int):=by rw[IntKind.wrap_u64];omega
        have ws:IntKind.u64.wrap (s:Int)=(s:Int):=by rw[IntKind.wrap_u64];omega
        have wx:IntKind.u64.wrap (x:Int)=(x:Int):=by rw[IntKind.wrap_u64];omega
        obtain⟨d,hd⟩:∃d,s/4294967296=d:=⟨_,rfl⟩;have Sb:(s:Int)/4294967296=(d:Int):=by rw[<-hd];rfl
        have US:d<=1:=by omega
        have ahs:=iy s;obtain⟨t,ht⟩:∃t,BitVec.ofNat 32 s=t:=⟨_,rfl⟩;have PQ:=dQ s;rw[ht] at ahs PQ;obtain⟨k,kC⟩:∃k,j+i=k:=⟨_,rfl⟩;have hki:(i:Int)+(j:Int)=(k:Int):=by omega
        have wk:IntKind.i64.wrap (k:Int)=(k:Int):=by rw[IntKind.wrap_i64];omega
        have nP:(k:Int)<(nu:Int):=by omega
        have hw:=Fs t (by rw[HYL.out];exact NE) HYT.out HYD.out;have e1:=aX (xs.drop j) i;have e2:=aX vs i;have dV:=CB hs Vp.out;have e3:(xs.drop j).getD i 0#32=xs.getD (j+i) 0#32:=by rw[List.getD_eq_getElem?_getD,List.getD_eq_getElem?_getD,List.getElem?_drop]
        rw[e3,<-hw.2.2.2,hx] at e1;rw[hy] at e2;rw[<-e1,<-e2,hd,<-PQ,<-hw.2.2.1,<-Nat.pow_succ] at dV;rw[kC] at hw dV eC lF;have mQ:=zH hw.1;have Zs:=zH hw.2.1;have xU:=zH dV;have aed:Hid (∀z,Calls Tryz.prog 250 #[.slice Av n cv,.int .i64 i] (wr.drewN z) (ga (wr.drewN z) (.int .u64 (y:Int)))):=zH λz=>by
         rw[<-hy];exact jQ i (Zu.out.drewN z)
        clear hw dV hy hx e1 e2 e3 hs lJ hd ht PQ kC Vp hm xq;go_wp2_with fail;go_quiet ((go_at_call 250;(with_reducible refine(aed.out _).mono ?_);rintro e w' ⟨rfl,rfl⟩;exact⟨rfl,_,rfl⟩))
        go_wp2_with fail;go_roundw
        case rel=>exact⟨d,i+1,ys.set k t,by omega,by go_num,rfl,US,by rw[List.length_set];exact HYL.out,mQ.out,Zs.out,xU.out,(CH.out.drewN _).setLimb k t,(zU.out.drewN _).setCell (by simp[Value.ownBlock];omega) (λ_ h=>h.elim) _,(HK.out.drewN _).setCell (λhb=>(HSS.out _ hb).2 rfl) _,(below_drewN HB.out _).setCell Sk.1 _⟩
        case measure=>simp[intOf];omega
       ·have NG:i=n+1:=by have:=HN.out;omega
        have NF:=Vp.out;have Jg:=dL ((ys.drop j).take i);have PY:((ys.drop j).take i).length=i:=by rw[List.length_take,List.length_drop,HYL.out];omega
        rw[PY] at Jg;rw[bn vs i (by rw[HV.out.len];omega),Zt.out] at NF;rw[NG] at NF Jg;have hR:=Cz Jg NF akf.out hc;have UD:ys.drop (j+(n+1))=ts.drop (j+(n+1)):=by rw[<-NG,HYD.out,NG];exact akd.out
        have Ns:=tZ (us:=us) (qs:=qs) (by rw[Hp.out];exact hjn) hVn Pv.out (by rw[HYL.out,Hp.out]) (HYT.out.trans HXT.out) UD hR HQ1.out HZN.out (by rw[Hr.out];omega) jI.out;have Pt:=zH Ns;obtain⟨eC,lF⟩:=zU.out.limb (k:=j) (by rw[Hr.out];omega);rw[<-HG.out] at eC lF;have q1':Own (wr.setCell ⟨w.heap.size,j,none⟩ (.int .u32 (zq.toNat:Int))) bb bs 172 (.slice (some ⟨gu,0,none⟩) nu cu) ys:=CH.out.setCell (by simp[Value.ownBlock];omega) (λ_ h=>h.elim) _;have q2:Own (wr.setCell ⟨w.heap.size,j,none⟩ (.int .u32 (zq.toNat:Int))) bb g 172 (.slice (some ⟨g,0,none⟩) m m) (qs.set j zq):=by rw[HG.out];exact zU.out.setLimb j zq
        have q3:aw S w (wr.setCell ⟨w.heap.size,j,none⟩ (.int .u32 (zq.toNat:Int))):=HK.out.setCell (λhb=>Nat.lt_irrefl _ (HSS.out _ hb).1) _;have q4:Below bs w (wr.setCell ⟨w.heap.size,j,none⟩ (.int .u32 (zq.toNat:Int))):=HB.out.setCell (by have:=HG.out;simp;omega) _;have Q1:=zH q1';have Q2:=zH q2;have Q3:=zH q3;have Q4:=zH q4;have XJ:((i:Int)<(N:Int))=False:=eq_false (by omega);clear Ns hR UD NF Jg PY NG q1' q2 q3 q4 hlt;go_wp2_with fail;go_roundw
        case rel=>exact⟨j,(j:Int)-1,ys,qs.set j zq,by omega,by go_num,by omega,HYL.out,by rw[List.length_set];exact Hr.out,Pt.out.1,Pt.out.2,Q1.out,Q2.out,Q3.out,Q4.out⟩
        case measure=>simp[intOf]
end Go.Proofs.YtdbpbfglhbiadaaGreatDoor
