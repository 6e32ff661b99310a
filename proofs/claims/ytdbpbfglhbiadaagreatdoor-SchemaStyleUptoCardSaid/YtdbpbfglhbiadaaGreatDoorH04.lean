/- Nat7 Nat8 Nat9 -/
import Derived.Test.YtdbpbfglhbiadaaGreatDoorH03
import Derived.Outline
import Derived.Test.YtdbpbfglhbiadaaGreatDoorH02
set_option maxHeartbeats 4000000
set_option maxRecDepth 100000
namespace Go.Proofs.YtdbpbfglhbiadaaGreatDoor
open Go.RowKit
def X5 (w:World) (v n:Nat) (en:Ending) (w':World):Prop:=
 ∃(s:Value) (zs:List (BitVec 32)),en=.returned s/\Own w' bi w.heap.size 172 s zs/\val zs=v/\zs.length=n/\Below w.heap.size w w'
theorem ww (M k:Nat):(List.replicate M 0#32).getD k 0#32=0#32:=by
 rw[List.getD_eq_getElem?_getD,List.getElem?_replicate];split<;>rfl
theorem oI {l:List (BitVec 32)} {k:Nat} (z:BitVec 32) (h:k<l.length):(l.set k z).getD k 0#32=z:=by
 rw[List.getD_eq_getElem?_getD,List.getElem?_set_self h];rfl
theorem xu {l:List (BitVec 32)} {k:Nat} (z:BitVec 32):(l.set (k+1) z).take (k+1)=l.take (k+1):=by
 rw[List.take_set,List.set_eq_of_length_le (by simp;omega)]
theorem IL {S:Nat->Prop} {A:Option Addr} {n c:Nat} {xs:List (BitVec 32)} {w:World} (sh:Nat) (h:RS w S A n c xs) (hS:∀b,S b->b<w.heap.size) (hn:n<=1073741824) (hs:sh<32) : Calls Tryz.prog 224 #[.slice A n c,.int .i64 sh] w (X5 w (val xs*2^sh) (n+1)):=by
 obtain⟨i0,hi,l9,gC,jR⟩:=info_parts Tryz.u32Info;have HI:=zH hi;have tZ:=zH l9;have mD:=zH gC;have ot:=zH jR;have H:=zH h;have HL:=zH h.len;clear h hi l9 gC jR;have I1:(n:Int)+1=((n+1:Nat):Int):=by omega
 obtain⟨M,hM⟩:∃M,n+1=M:=⟨_,rfl⟩;rw[hM] at I1;rw[hM];have hMb:M<=1073741825:=by omega
 have HM:=zH hM;clear hM;go_enter Tryz.func224,Tryz.ntmps224;go_wp2_with (refine bR (α:=BitVec 32) _ rfl _ _ _ rfl rfl w.heap.size i0 (.int .u32 0) Tryz.underlying26 HI.out tZ.out mD.out rfl .i64 .i64 (M:Int) (M:Int) M rfl rfl rfl rfl (by rw[ot.out];omega) (by unfold maxLen;omega) (Nat.le_refl _) 0#32 bi (λ_ h=>h.elim) (λ_ _=>rfl) ?_; intro w1 py hg1; have iG:=zH py; have fe:=zH ((Below.refl w.heap.size w).grown hg1 (Nat.le_refl _) (λk hk=>by cases hk)); clear py hg1);obtain⟨g,hg⟩:∃g,w.heap.size=g:=⟨_,rfl⟩;rw[hg] at iG;rw[hg];have HG:=zH hg;clear hg I1;go_loopw [15] (λi wr=>∃(k:Nat) (zs:List (BitVec 32)),k<=n/\i=.int .i64 k/\zs.length=M/\(zs.getD k 0#32).toNat<2^sh/\val (zs.take k)+4294967296^k*(zs.getD k 0#32).toNat=val (xs.take k)*2^sh/\Own wr bi g 172 (.slice (some ⟨g,0,none⟩) M M) zs/\Below w.heap.size w wr)
  (λi _=>n-(intOf i).toNat)
 case atStart=>
  have hp:=Nat.two_pow_pos sh;refine⟨0,List.replicate M 0#32,by omega,rfl,by simp,?_,?_,iG.out,fe.out⟩
  ·rw[ww];exact hp
  ·rw[ww];simp[val]
 case round=>
  clear iG fe;obtain⟨k,zs,hk,rfl,yE,tU,gY,ho,hb⟩:=hrel;have iG:=zH ho;have fe:=zH hb;have ri:=zH yE;have jV:=zH gY;have HCL:=zH tU;clear ho hb yE gY tU;by_cases hlt:k<n
  ·have pz:(k:Int)<(n:Int):=by omega
   have hkM:(k:Int)<(M:Int):=by have:=HM.out;omega
   have aul:(k:Int)+1<(M:Int):=by have:=HM.out;omega
   obtain⟨b,o,x,rfl,_,hx,e1⟩:=(H.out.below fe.out hS).limb_at hlt;have kC:=x.isLt;obtain⟨eO,mf⟩:=iG.out.limb (k:=k) (by rw[ri.out];have:=HM.out;omega);obtain⟨c0,Qd⟩:∃c0,zs.getD k 0#32=c0:=⟨_,rfl⟩;rw[Qd] at eO jV HCL;obtain⟨v,hv⟩:∃v,x.toNat*2^sh=v:=⟨_,rfl⟩;have h2p:2^sh<=2^31:=Nat.pow_le_pow_right (by omega) (by omega);have hvb:v<18446744073709551616:=by
    have:x.toNat*2^sh<=4294967295*2^31:=Nat.mul_le_mul (by omega) h2p;omega
   have hvw:IntKind.u64.wrap ((x.toNat:Int)*2^sh)=(v:Int):=by
    have:(x.toNat:Int)*2^sh=(v:Int):=by rw[<-hv,Int.natCast_mul,Int.natCast_pow];rfl
    rw[this,IntKind.wrap_u64];omega
   have hxw:IntKind.u64.wrap (x.toNat:Int)=(x.toNat:Int):=by rw[IntKind.wrap_u64];omega
   have h1:=iP v;obtain⟨z1,gC⟩:∃z,BitVec.ofNat 32 v=z:=⟨_,rfl⟩;have Z2:=d9 v;rw[gC] at h1 Z2;have kD:=SY c0 z1;obtain⟨z2,jR⟩:∃z,c0||| z1=z:=⟨_,rfl⟩;have afe:z2.toNat=c0.toNat+v%4294967296:=by
    rw[<-jR,BitVec.toNat_or,Z2,<-hv];exact UH HCL.out (by omega)
   rw[jR] at kD;have hvd:(v:Int)/4294967296=((v/4294967296:Nat):Int):=rfl;have h3:=iP (v/4294967296);obtain⟨z3,hz3⟩:∃z,BitVec.ofNat 32 (v/4294967296)=z:=⟨_,rfl⟩;have Z0:=d9 (v/4294967296);rw[hz3] at h3 Z0;have hl3:v/4294967296<2^sh:=by rw[<-hv];exact UI kC
   have Z1:z3.toNat=v/4294967296:=by rw[Z0,Nat.mod_eq_of_lt (by omega)]
   have eu:=left_step (B:=4294967296) (x:=x.toNat) jV.out;rw[hv] at eu;have Xl:=kh hx;have PQ:k<zs.length:=by rw[ri.out];have:=HM.out;omega
   have aap:k+1<(zs.set k z2).length:=by rw[List.length_set,ri.out];have:=HM.out;omega
   have my:val (((zs.set k z2).set (k+1) z3).take (k+1))+4294967296^(k+1)*(((zs.set k z2).set (k+1) z3).getD (k+1) 0#32).toNat=val (xs.take (k+1))*2^sh:=by
    rw[xu,eG z2 PQ,oI z3 aap,afe,Z1,Xl,Nat.pow_succ];exact eu
   have F3:(((zs.set k z2).set (k+1) z3).getD (k+1) 0#32).toNat<2^sh:=by rw[oI z3 aap,Z1];exact hl3
   obtain⟨vd,afh⟩:∃vd,v/4294967296=vd:=⟨_,rfl⟩;rw[afh] at hvd h3;clear afh;have hO2:=iG.out.setLimb k z2;obtain⟨al7,aus⟩:=hO2.limb (k:=k+1) aap;have hO3:=hO2.setLimb (k+1) z3;have Eu:=zH hO3;have GW:=zH my;have HNL:=zH F3;clear hv h2p gC Z2 jR afe hz3 Z0 hl3 Z1 eu Xl PQ my F3 hO2 hO3 hx Qd;go_wp2_with fail;go_roundw
   case rel=>
    refine⟨k+1,_,by omega,by go_num,by rw[List.length_set,List.length_set];exact ri.out,HNL.out,GW.out,Eu.out,(fe.out.setCell (by have:=HG.out;simp;omega) _).setCell (by have:=HG.out;simp;omega) _⟩
   case measure=>simp[intOf];omega
  ·have pz:k=n:=by omega
   have dS:val zs=val xs*2^sh:=by
    have h1:=jV.out;rw[pz,<-bc,bz _ _ (by rw[ri.out];have:=HM.out;omega),bz xs _ (by rw[HL.out];exact Nat.le_refl _)] at h1;exact h1
   have xg:=zH dS;clear dS pz;go_wp2_with fail;go_ret
   exact⟨_,zs,rfl,by rw[HG.out];exact iG.out,xg.out,ri.out,fe.out⟩
theorem aeu (x y:Nat) (hx:x<4294967296) (hy:y<4294967296):bits .or .u64 (x:Int) ((y:Int)*4294967296)=((x+4294967296*y:Nat):Int):=by
 have e:(y:Int)*4294967296=((y*4294967296:Nat):Int):=by omega
 rw[e,u64_or_nat _ _ (by omega) (by omega),Nat.or_comm,Cn _ _ hx];congr 1;omega
theorem NS {S:Nat->Prop} {A:Option Addr} {n c:Nat} {xs:List (BitVec 32)} {w:World} (sh:Nat) (h:RS w S A n c xs) (hS:∀b,S b->b<w.heap.size) (hn:n<=1073741824) (hs:sh<32) : Calls Tryz.prog 226 #[.slice A n c,.int .i64 sh] w (X5 w (val xs/2^sh) n):=by
 obtain⟨i0,hi,l9,gC,jR⟩:=info_parts Tryz.u32Info;have HI:=zH hi;have tZ:=zH l9;have mD:=zH gC;have ot:=zH jR;have H:=zH h;have HL:=zH h.len;clear h hi l9 gC jR;go_enter Tryz.func226,Tryz.ntmps226;go_wp2_with (refine bR (α:=BitVec 32) _ rfl _ _ _ rfl rfl w.heap.size i0 (.int .u32 0) Tryz.underlying26 HI.out tZ.out mD.out rfl .i64 .i64 (n:Int) (n:Int) n rfl rfl rfl rfl (by rw[ot.out];omega) (by unfold maxLen;omega) (Nat.le_refl _) 0#32 bi (λ_ h=>h.elim) (λ_ _=>rfl) ?_; intro w1 py hg1; have iG:=zH py; have fe:=zH ((Below.refl w.heap.size w).grown hg1 (Nat.le_refl _) (λk hk=>by cases hk)); clear py hg1);obtain⟨g,hg⟩:∃g,w.heap.size=g:=⟨_,rfl⟩;rw[hg] at iG;rw[hg];have HG:=zH hg;clear hg;go_loopw [6,12] (λ_ i wr=>∃(k:Nat) (zs:List (BitVec 32)),k<=n/\i=.int .i64 k/\zs.length=n/\val (zs.take k)=val xs/2^sh%4294967296^k/\Own wr bi g 172 (.slice (some ⟨g,0,none⟩) n n) zs/\Below w.heap.size w wr)
  (λ_ i _=>n-(intOf i).toNat)
 case atStart=>exact⟨0,List.replicate n 0#32,by omega,rfl,by simp,by simp[val,Nat.mod_one],iG.out,fe.out⟩
 case round=>
  clear iG fe;obtain⟨k,zs,hk,rfl,yE,gY,ho,hb⟩:=hrel;have iG:=zH ho;have fe:=zH hb;have ri:=zH yE;have jV:=zH gY;clear ho hb yE gY;by_cases hlt:k<n
  ·have pz:(k:Int)<(n:Int):=by omega
   have eu:=right_step xs k sh (by omega);obtain⟨x,hx⟩:∃x,(xs.getD k 0#32).toNat=x:=⟨_,rfl⟩;obtain⟨y,hy⟩:∃y,(xs.getD (k+1) 0#32).toNat=y:=⟨_,rfl⟩;have kC:x<4294967296:=by rw[<-hx];exact dD k
   have Db:y<4294967296:=by rw[<-hy];exact dD (k+1)
   rw[hx,hy] at eu;have kD:=aeu x y kC Db;obtain⟨s,EC⟩:∃s,x+4294967296*y=s:=⟨_,rfl⟩;rw[EC] at kD eu;have Sl:s<18446744073709551616:=by omega
   obtain⟨t,ht⟩:∃t,s/2^sh=t:=⟨_,rfl⟩;have htd:(s:Int)/2^sh=(t:Int):=by rw[<-ht,Int.natCast_ediv,Int.natCast_pow];rfl
   rw[ht] at eu;have h1:=iP t;obtain⟨z,hz⟩:∃z,BitVec.ofNat 32 t=z:=⟨_,rfl⟩;have Bs:=d9 t;rw[hz] at h1 Bs;rw[<-Bs] at eu;obtain⟨eO,mf⟩:=iG.out.limb (k:=k) (by rw[ri.out];exact hlt);have my:val ((zs.set k z).take (k+1))=val xs/2^sh%4294967296^(k+1):=by
    rw[eG z (by rw[ri.out];exact hlt),jV.out,OJ,eu]
   have nR:(k:Int)+1=((k+1:Nat):Int):=by omega
   obtain⟨k1,aaq⟩:∃k1,k+1=k1:=⟨_,rfl⟩;rw[aaq] at nR hy my;have HX:=zH hx;have HY:=zH hy;have GW:=zH my;have WG:=zH aaq;clear eu hx hy EC ht hz Bs my aaq;go_wp2_with fail;refine(j4 k (H.out.below fe.out hS)).mono ?_;rintro e w' ⟨rfl,rfl⟩;rw[HX.out];go_wp2_with fail;refine(j4 k1 (H.out.below fe.out hS)).mono ?_;rintro e w' ⟨rfl,rfl⟩;rw[HY.out];clear nR;go_wp2_with fail;go_roundw
   case rel=>
    exact⟨k+1,zs.set k z,by omega,by go_num,by rw[List.length_set];exact ri.out,by rw[WG.out];exact GW.out,iG.out.setLimb k z,fe.out.setCell (by have:=HG.out;simp;omega) _⟩
   case measure=>simp[intOf];omega
  ·have pz:k=n:=by omega
   have dS:val zs=val xs/2^sh:=by
    have h1:=jV.out;rw[pz,bz _ _ (by rw[ri.out];exact Nat.le_refl _),Nat.mod_eq_of_lt] at h1
    ·exact h1
    ·have h2:=dT xs;rw[HL.out] at h2;exact Nat.lt_of_le_of_lt (Nat.div_le_self _ _) h2
   have xg:=zH dS;clear dS pz;go_wp2_with fail;go_ret
   exact⟨_,zs,rfl,by rw[HG.out];exact iG.out,xg.out,ri.out,fe.out⟩
def RN (w:World) (U V:Nat) (e:Ending) (w':World):Prop:=∃q m:Nat,e=.returned (.int .u64 q)/\U/V<=q/\q<=U/V+1/\q<4294967296/\w'=w.drewN m
theorem aju {us vs:List (BitVec 32)} {j n:Nat} (hn:2<=n) (hv:vs.length=n) (hu:j+n<us.length) : ∃P ul vl,0<P/\ul<P/\vl<P/\ val ((us.drop j).take (n+1))=P*((((us.getD (j+n) 0#32).toNat*4294967296+(us.getD (j+n-1) 0#32).toNat))*4294967296+(us.getD (j+n-2) 0#32).toNat)+ul/\ val vs=P*((vs.getD (n-1) 0#32).toNat*4294967296+(vs.getD (n-2) 0#32).toNat)+vl:=by
 refine⟨4294967296^(n-2),val ((us.drop j).take (n-2)),val (vs.take (n-2)),Nat.pow_pos (by omega),?_,?_,?_,?_⟩
 ·have:=dT ((us.drop j).take (n-2));rw[List.length_take,List.length_drop,Nat.min_eq_left (by omega)] at this;exact this
 ·have:=dT (vs.take (n-2));rw[List.length_take,Nat.min_eq_left (by omega)] at this;exact this
 ·have hg:∀i,((us.drop j).getD i 0#32)=us.getD (j+i) 0#32:=by
   intro i;rw[List.getD_eq_getElem?_getD,List.getD_eq_getElem?_getD,List.getElem?_drop]
  have e1:=bc (us.drop j) n;have e2:=bc (us.drop j) (n-1);have e3:=bc (us.drop j) (n-2);rw[hg] at e1 e2 e3;have f1:n-1+1=n:=by omega
  have f2:n-2+1=n-1:=by omega
  have f3:j+(n-1)=j+n-1:=by omega
  have f4:j+(n-2)=j+n-2:=by omega
  rw[f1,f3] at e2;rw[f2,f4] at e3;have p1:4294967296^n=4294967296^(n-2)*4294967296*4294967296:=by rw[<-Nat.pow_succ,<-Nat.pow_succ];congr 1;omega
  have p2:4294967296^(n-1)=4294967296^(n-2)*4294967296:=by rw[<-Nat.pow_succ];congr 1;omega
  rw[e1,e2,e3,p1,p2]
  grind
 ·have e2:=bc vs (n-1);have e3:=bc vs (n-2);have f1:n-1+1=n:=by omega
  have f2:n-2+1=n-1:=by omega
  rw[f1,bz vs n (by omega)] at e2;rw[f2] at e3;have p2:4294967296^(n-1)=4294967296^(n-2)*4294967296:=by rw[<-Nat.pow_succ];congr 1;omega
  rw[e2,e3,p2]
  grind
theorem RS.limbD {w:World} {S:Nat->Prop} {A:Option Addr} {n c:Nat} {xs:List (BitVec 32)} (h:RS w S A n c xs) {k:Nat} (hk:k<n):∃b o,A=some ⟨b,o,none⟩/\w.cell? ⟨b,o+k,none⟩=some (.int .u32 ((xs.getD k 0#32).toNat:Int)):=by
 obtain⟨b,o,x,rfl,_,hx,e⟩:=h.limb_at hk;exact⟨b,o,rfl,by rw[List.getD_eq_getElem?_getD,hx];exact e⟩
theorem Qm {Su Sv:Nat->Prop} {Au Av:Option Addr} {nu cu n cv:Nat} {us vs:List (BitVec 32)} {w:World} (j:Nat) (hu:RS w Su Au nu cu us) (hv:RS w Sv Av n cv vs) (hn:2<=n) (hj:j+n<nu) (hnu:nu<=2147483648) (hh:2147483648<=(vs.getD (n-1) 0#32).toNat) (hlt:val ((us.drop j).take (n+1))<val vs*4294967296) : Calls Tryz.prog 249 #[.slice Au nu cu,.slice Av n cv,.int .i64 j] w (RN w (val ((us.drop j).take (n+1))) (val vs)):=by
 obtain⟨P,ul,vl,hP,Sj,Bu,eU,eV⟩:=aju (us:=us) (vs:=vs) (j:=j) hn hv.len (by rw[hu.len];exact hj);obtain⟨bu,ou,rfl,c1⟩:=hu.limbD (k:=j+n) hj;obtain⟨bu',ou',mz,c2⟩:=hu.limbD (k:=j+n-1) (by omega);obtain⟨rfl,rfl⟩:bu=bu'/\ou=ou':=by injection mz with mz;injection mz with h1 h2;exact⟨h1,h2⟩
 obtain⟨bu',ou',mz,c3⟩:=hu.limbD (k:=j+n-2) (by omega);obtain⟨rfl,rfl⟩:bu=bu'/\ou=ou':=by injection mz with mz;injection mz with h1 h2;exact⟨h1,h2⟩
 obtain⟨bv,ov,rfl,c4⟩:=hv.limbD (k:=n-1) (by omega);obtain⟨bv',ov',mz,c5⟩:=hv.limbD (k:=n-2) (by omega);obtain⟨rfl,rfl⟩:bv=bv'/\ov=ov':=by injection mz with mz;injection mz with h1 h2;exact⟨h1,h2⟩
 have l1:=dD (l:=us) (j+n);have l2:=dD (l:=us) (j+n-1);have l3:=dD (l:=us) (j+n-2);have l4:=dD (l:=vs) (n-1);have l5:=dD (l:=vs) (n-2);obtain⟨U,hU⟩:∃U,val ((us.drop j).take (n+1))=U:=⟨_,rfl⟩;obtain⟨V,hV⟩:∃V,val vs=V:=⟨_,rfl⟩;obtain⟨u0,h0⟩:∃u0,(us.getD (j+n) 0#32).toNat=u0:=⟨_,rfl⟩;obtain⟨u1,h1⟩:∃u1,(us.getD (j+n-1) 0#32).toNat=u1:=⟨_,rfl⟩;obtain⟨u2,h2⟩:∃u2,(us.getD (j+n-2) 0#32).toNat=u2:=⟨_,rfl⟩;obtain⟨h,h3⟩:∃h,(vs.getD (n-1) 0#32).toNat=h:=⟨_,rfl⟩;obtain⟨v2,h4⟩:∃v2,(vs.getD (n-2) 0#32).toNat=v2:=⟨_,rfl⟩;rw[hU,hV] at hlt;rw[hU,h0,h1,h2] at eU;rw[hV,h3,h4] at eV;rw[h0] at c1 l1;rw[h1] at c2 l2;rw[h2] at c3 l3;rw[h3] at c4 l4 hh;rw[h4] at c5 l5;rw[hU,hV];obtain⟨T,hT⟩:∃T,u0*4294967296+u1=T:=⟨_,rfl⟩;have kD:=Zc u0 u1 l1 l2;rw[hT] at kD eU;have hTb:T<18446744073709551616:=by omega
 have hTt:=Ly eU eV Bu l5 hlt;have F6:=Dk eU Sj l3 eV (by omega);have hcu:=hu.cap;have hcv:=hv.cap;have EU:=zH eU;have EV:=zH eV;have JH:=zH hTt;have HUL:=zH Sj;have HVL:=zH Bu;obtain⟨a,ha⟩:∃a,j+n=a:=⟨_,rfl⟩;obtain⟨b,hb⟩:∃b,j+n-1=b:=⟨_,rfl⟩;obtain⟨c,hc⟩:∃c,j+n-2=c:=⟨_,rfl⟩;obtain⟨d,hd⟩:∃d,n-1=d:=⟨_,rfl⟩;obtain⟨f,hf⟩:∃f,n-2=f:=⟨_,rfl⟩;rw[ha] at c1;rw[hb] at c2;rw[hc] at c3;rw[hd] at c4;rw[hf] at c5;have i1:(j:Int)+(n:Int)=(a:Int):=by omega
 have i2:(a:Int)-1=(b:Int):=by omega
 have i3:(a:Int)-2=(c:Int):=by omega
 have i4:(n:Int)-1=(d:Int):=by omega
 have i5:(n:Int)-2=(f:Int):=by omega
 have k1:(a:Int)<(nu:Int):=by omega
 have k2:(b:Int)<(nu:Int):=by omega
 have k3:(c:Int)<(nu:Int):=by omega
 have k4:(d:Int)<(n:Int):=by omega
 have k5:(f:Int)<(n:Int):=by omega
 have wa:IntKind.i64.wrap (a:Int)=(a:Int):=by rw[IntKind.wrap_i64];omega
 have wb:IntKind.i64.wrap (b:Int)=(b:Int):=by rw[IntKind.wrap_i64];omega
 have wc:IntKind.i64.wrap (c:Int)=(c:Int):=by rw[IntKind.wrap_i64];omega
 have w0:IntKind.u64.wrap (u0:Int)=(u0:Int):=by rw[IntKind.wrap_u64];omega
 have w1:IntKind.u64.wrap (u1:Int)=(u1:Int):=by rw[IntKind.wrap_u64];omega
 have w2:IntKind.u64.wrap (u2:Int)=(u2:Int):=by rw[IntKind.wrap_u64];omega
 have w3:IntKind.u64.wrap (h:Int)=(h:Int):=by rw[IntKind.wrap_u64];omega
 have w4:IntKind.u64.wrap (v2:Int)=(v2:Int):=by rw[IntKind.wrap_u64];omega
 have w5:IntKind.u64.wrap ((u0:Int)*4294967296)=(u0:Int)*4294967296:=by rw[IntKind.wrap_u64];omega
 have hu0:((h:Int)==0)=false:=by rw[beq_eq_false_iff_ne];omega
 obtain⟨q0,PF⟩:∃q,T/h=q:=⟨_,rfl⟩;obtain⟨r0,xk⟩:∃r,T%h=r:=⟨_,rfl⟩;have ED:q0*h+r0=T:=by rw[<-PF,<-xk,Nat.mul_comm];exact Nat.div_add_mod T h
 have aft:r0<4294967296:=by have:=Nat.mod_lt T (show 0<h by omega);omega
 have afy:q0<18446744073709551616:=by have:=Nat.div_le_self T h;omega
 rw[PF] at F6;have Xm:(T:Int).tdiv (h:Int)=(q0:Int):=by rw[<-PF];rfl
 have Sn:(T:Int).tmod (h:Int)=(r0:Int):=by rw[<-xk];rfl
 have afw:(T:Int)/(h:Int)=(q0:Int):=by rw[<-PF];rfl
 have afo:(T:Int)%(h:Int)=(r0:Int):=by rw[<-xk];rfl
 have wq:IntKind.u64.wrap (q0:Int)=(q0:Int):=by rw[IntKind.wrap_u64];omega
 have wr0:IntKind.u64.wrap (r0:Int)=(r0:Int):=by rw[IntKind.wrap_u64];omega
 have HFI:=zH F6;have HQR:=zH ED;have HUB:Hid (U/V<4294967296):=zH (Nat.div_lt_of_lt_mul hlt);clear eU eV hTt Sj Bu F6 ha hb hc hd hf h0 h1 h2 h3 h4 hU hV hT hlt hu hv hP PF xk ED;go_enter Tryz.func249,Tryz.ntmps249;go_wp2_with fail;go_quiet (fail)
 go_wp2_with fail;go_quiet (fail)
 go_wp2_with fail;go_loopw [10,11] (λqv rv wr=>∃(q r m:Nat),qv=.int .u64 q/\rv=.int .u64 r/\q*h+r=T/\U/V<=q/\r<4294967296/\q<18446744073709551616/\wr=w.drewN m)
  (λqv _ _=>(intOf qv).toNat)
 case atStart=>exact⟨q0,r0,_,rfl,rfl,HQR.out,HFI.out,aft,afy,World.drewN_drewN _ _ _⟩
 case round=>
  clear wq wr0 Xm afw Sn afo kD HQR HFI aft afy;obtain⟨q,r,m,rfl,rfl,ED,mC,hr,hq,rfl⟩:=hrel;have HQR:=zH ED;have BE:=zH mC;have wh:IntKind.u64.wrap ((r:Int)+(h:Int))=(r:Int)+(h:Int):=by rw[IntKind.wrap_u64];omega
  by_cases hB:4294967296<=q
  ·have hB':(4294967296:Int)<=(q:Int):=by omega
   have wq1:IntKind.u64.wrap ((q:Int)-1)=(q:Int)-1:=by rw[IntKind.wrap_u64];omega
   have PE:1<=q:=by omega
   have FZ:(q-1)*h+(r+h)=T:=by
    have e:q=q-1+1:=by omega
    rw[e,Nat.add_mul] at ED;omega
   have F5:U/V<=q-1:=by have:=HUB.out;omega
   have Bo:=zH FZ;have GX:=zH F5;obtain⟨q',I0⟩:∃x,q-1=x:=⟨_,rfl⟩;obtain⟨r',jo⟩:∃x,r+h=x:=⟨_,rfl⟩;rw[I0,jo] at Bo;rw[I0] at GX;have iq:(q:Int)-1=(q':Int):=by omega
   have ir:(r:Int)+(h:Int)=(r':Int):=by omega
   rw[iq] at wq1;rw[ir] at wh;by_cases hR:4294967296<=r'
   ·have hR':(4294967296:Int)<=(r':Int):=by omega
    have Li:=wv (u2:=u2) Bo.out JH.out hR l5;have I5:=pf EU.out EV.out HVL.out (by omega) Bo.out Li.1 Li.2;have dS:Hid (U/V<=q'/\q'<=U/V+1/\q'<4294967296):=zH ⟨GX.out,I5,Li.1⟩;clear ED mC FZ F5 Li I5 I0 jo hR hB;go_wp2_with fail;go_quiet (fail)
    go_wp2_with fail;go_ret
    exact⟨q',_,rfl,dS.out.1,dS.out.2.1,dS.out.2.2,rfl⟩
   ·have hR':(r':Int)<(4294967296:Int):=by omega
    have hR2:¬((4294967296:Int)<=(r':Int)):=by omega
    have hR3:decide ((4294967296:Int)<=(r':Int))=false:=decide_eq_false hR2;have yH:r'<4294967296:=by omega
    have Bv:q'<18446744073709551616:=by omega
    have Xm:q'<q:=by omega
    clear ED mC FZ F5 hB I0 jo hR;go_wp2_with fail;go_quiet (fail)
    go_wp2_with fail;go_roundw
    case rel=>exact⟨q',r',_,rfl,rfl,Bo.out,GX.out,yH,Bv,rfl⟩
    case measure=>simp[intOf];omega
  ·have hB':(q:Int)<(4294967296:Int):=by omega
   have hB2:¬((4294967296:Int)<=(q:Int)):=by omega
   have hB3:decide ((4294967296:Int)<=(q:Int))=false:=decide_eq_false hB2;obtain⟨p,hp⟩:∃p,q*v2=p:=⟨_,rfl⟩;obtain⟨s,hs⟩:∃s,r*4294967296+u2=s:=⟨_,rfl⟩;have xC:p<=4294967295*4294967295:=by rw[<-hp];exact Nat.mul_le_mul (by omega) (by omega)
   have ip:(q:Int)*(v2:Int)=(p:Int):=by rw[<-hp];omega
   have wp':IntKind.u64.wrap (p:Int)=(p:Int):=by rw[IntKind.wrap_u64];omega
   have wr':IntKind.u64.wrap ((r:Int)*4294967296)=(r:Int)*4294967296:=by rw[IntKind.wrap_u64];omega
   have alp:=Zc r u2 hr l3;rw[hs] at alp;by_cases Ms:s<p
   ·have hbig:=Lz EU.out HUL.out EV.out ED (by rw[hs,hp];exact Ms);have alj:(s:Int)<(p:Int):=by omega
    have PE:1<=q:=Nat.lt_of_le_of_lt (Nat.zero_le _) hbig;have wq1:IntKind.u64.wrap ((q:Int)-1)=(q:Int)-1:=by rw[IntKind.wrap_u64];omega
    have FZ:(q-1)*h+(r+h)=T:=by
     have e:q=q-1+1:=by omega
     rw[e,Nat.add_mul] at ED;omega
    have F5:U/V<=q-1:=Nat.le_sub_one_of_lt hbig;have Bo:=zH FZ;have GX:=zH F5;obtain⟨q',I0⟩:∃x,q-1=x:=⟨_,rfl⟩;obtain⟨r',jo⟩:∃x,r+h=x:=⟨_,rfl⟩;rw[I0,jo] at Bo;rw[I0] at GX;have iq:(q:Int)-1=(q':Int):=by omega
    have ir:(r:Int)+(h:Int)=(r':Int):=by omega
    rw[iq] at wq1;rw[ir] at wh;by_cases hR:4294967296<=r'
    ·have hR':(4294967296:Int)<=(r':Int):=by omega
     have Li:=wv (u2:=u2) Bo.out JH.out hR l5;have I5:=pf EU.out EV.out HVL.out (by omega) Bo.out Li.1 Li.2;have dS:Hid (U/V<=q'/\q'<=U/V+1/\q'<4294967296):=zH ⟨GX.out,I5,Li.1⟩;clear ED mC FZ F5 Li I5 I0 jo hR hB hp hs Ms xC hbig;go_wp2_with fail;go_quiet (fail)
     go_wp2_with fail;go_ret
     exact⟨q',_,rfl,dS.out.1,dS.out.2.1,dS.out.2.2,rfl⟩
    ·have hR':(r':Int)<(4294967296:Int):=by omega
     have hR2:¬((4294967296:Int)<=(r':Int)):=by omega
     have hR3:decide ((4294967296:Int)<=(r':Int))=false:=decide_eq_false hR2;have yH:r'<4294967296:=by omega
     have Bv:q'<18446744073709551616:=by omega
     have Xm:q'<q:=by omega
     clear ED mC FZ F5 hB I0 jo hR hp hs Ms xC hbig;go_wp2_with fail;go_quiet (fail)
     go_wp2_with fail;go_roundw
     case rel=>exact⟨q',r',_,rfl,rfl,Bo.out,GX.out,yH,Bv,rfl⟩
     case measure=>simp[intOf];omega
   ·have alj:(p:Int)<=(s:Int):=by omega
    have ali:¬((s:Int)<(p:Int)):=by omega
    have atO:decide ((s:Int)<(p:Int))=false:=decide_eq_false ali;have atN:decide (s<p)=false:=decide_eq_false Ms;have I5:=pf EU.out EV.out HVL.out (by omega) ED (by omega) (by rw[hs,hp];omega);have dS:Hid (U/V<=q/\q<=U/V+1/\q<4294967296):=zH ⟨mC,I5,by omega⟩;clear ED mC I5 hB hp hs Ms xC;go_wp2_with fail;go_quiet (fail)
    go_wp2_with fail;go_ret
    exact⟨q,_,rfl,dS.out.1,dS.out.2.1,dS.out.2.2,World.drewN_drewN _ _ _⟩
def Wx (w:World) (bs gu nu cu U V m:Nat) (e:Ending) (w':World):Prop:=
 ∃(s:Value) (qs rs:List (BitVec 32)),e=.returned s/\Own w' bi w.heap.size 172 s qs/\val qs=U/V/\qs.length=m/\
  Own w' bi bs 172 (.slice (some ⟨gu,0,none⟩) nu cu) rs/\val rs=U%V/\rs.length=nu/\Below bs w w'
theorem Wn (p:Nat) (hp:p<18446744073709551616):bits .and .u64 (p:Int) 4294967295=((p%4294967296:Nat):Int):=by
 have h:=bits_and_u64_nat p 4294967295 hp (by omega);have e:p&&& 4294967295=p%4294967296:=Nat.and_two_pow_sub_one_eq_mod p 32;rw[e] at h;exact h
theorem vG {n V:Nat} {us ts xs qs:List (BitVec 32)} {j q:Nat} {z:BitVec 32} (hj:j+(n+1)<=ts.length) (hV:V<4294967296^n) (Vb:val (ts.drop (j+1))<V) (bJ:xs.length=ts.length) (h1:xs.take j=ts.take j) (h2:xs.drop (j+(n+1))=ts.drop (j+(n+1))) (hw:val ((xs.drop j).take (n+1))=val ((ts.drop j).take (n+1))%V) (hq:q=val ((ts.drop j).take (n+1))/V) (hz:z.toNat=q) (hjq:j<qs.length) (gY:val us=val ts+V*(4294967296^(j+1)*val (qs.drop (j+1)))):val us=val xs+V*(4294967296^j*val ((qs.set j z).drop j))/\val (xs.drop j)<V:=by
 obtain⟨_,h3,h4⟩:=FO hj hV Vb bJ h1 h2 hw;refine⟨?_,h3⟩;rw[oK z hjq,val,hz,gY,h4,<-hq,Nat.pow_succ]
 grind
theorem Uo {S:Nat->Prop} {Av:Option Addr} {bs gu nu cu n cv:Nat} {us vs:List (BitVec 32)} {w:World} (hu:Own w bi bs 172 (.slice (some ⟨gu,0,none⟩) nu cu) us) (hv:RS w S Av n cv vs) (hS:∀b,S b->b<w.heap.size/\b≠gu) (hn:2<=n) (hnu:n<nu) (afJ:nu<=1073741825) (hh:2147483648<=(vs.getD (n-1) 0#32).toNat) (Z9:val (us.drop (nu-n))<val vs) : Calls Tryz.prog 225 #[.slice (some ⟨gu,0,none⟩) nu cu,.slice Av n cv] w (Wx w bs gu nu cu (val us) (val vs) (nu-n)):=by
 obtain⟨i0,hi,l9,gC,jR⟩:=info_parts Tryz.u32Info;have HI:=zH hi;have tZ:=zH l9;have mD:=zH gC;have ot:=zH jR;have HU:=zH hu;have HV:=zH hv;have HUL:=zH hu.rsAll.len;have HSS:=zH hS;have HH:=zH hh;have Vg:bs<=gu/\gu<w.heap.size:=hu.lt gu rfl;obtain⟨m,hm⟩:∃m,nu-n=m:=⟨_,rfl⟩;rw[hm] at Z9;rw[hm];have HT:=zH Z9;have I1:(nu:Int)-(n:Int)=(m:Int):=by omega
 have hmb:m<=1073741825:=by omega
 have hm0:1<=m:=by omega
 have wm:IntKind.i64.wrap (m:Int)=(m:Int):=by rw[IntKind.wrap_i64];omega
 obtain⟨V,hV⟩:∃V,val vs=V:=⟨_,rfl⟩;rw[hV] at HT;rw[hV];have HVV:=zH hV;clear hu hv hh Z9 hi l9 gC jR hV hS;go_enter Tryz.func225,Tryz.ntmps225;go_wp2_with (refine bR (α:=BitVec 32) _ rfl _ _ _ rfl rfl w.heap.size i0 (.int .u32 0) Tryz.underlying26 HI.out tZ.out mD.out rfl .i64 .i64 (m:Int) (m:Int) m rfl rfl rfl rfl (by rw[ot.out];omega) (by unfold maxLen;omega) (Nat.le_refl _) 0#32 bi (λ_ h=>h.elim) (λ_ _=>rfl) ?_; intro w1 py hg1; have iG:=zH py; have fe:=zH ((Below.refl w.heap.size w).grown hg1 (Nat.le_refl _) (λk hk=>by cases hk)); clear py hg1);obtain⟨g,hg⟩:∃g,w.heap.size=g:=⟨_,rfl⟩;rw[hg] at iG Vg;have HG:=zH hg;have fu:Hid (Below bs w w1):=zH (fe.out.mono (by rw[hg];omega));have HU1:=zH (HU.out.below fe.out);have WG:Hid (aw S w w1):=zH ((aw.of_below fe.out).sub λb hb=>(HSS.out b hb).1);clear hg;go_loopw [7] (λjv wr=>∃(k:Nat) (z:Int) (ts qs:List (BitVec 32)),k<=m/\jv=.int .i64 z/\z+1=k/\ts.length=nu/\qs.length=m/\val us=val ts+V*(4294967296^k*val (qs.drop k))/\val (ts.drop k)<V/\ Own wr bi bs 172 (.slice (some ⟨gu,0,none⟩) nu cu) ts/\Own wr bi g 172 (.slice (some ⟨g,0,none⟩) m m) qs/\aw S w wr/\Below bs w wr)
  (λjv _=>(intOf jv+1).toNat)
 case atStart=>
  exact⟨m,(m:Int)-1,us,List.replicate m 0#32,Nat.le_refl _,rfl,by omega,HUL.out,by simp,by rw[List.drop_eq_nil_of_le (by simp)];simp[val],HT.out,HU1.out,iG.out,WG.out,fu.out⟩
 case round=>
  clear iG fe fu HU1 WG HU;obtain⟨k,z,ts,qs,hk,rfl,hz,Le,Bv,gY,Vb,Lj,xD,bM,pd⟩:=hrel;have JI:=zH Le;have JK:=zH Bv;have jV:=zH gY;have RX:=zH Vb;have Et:=zH Lj;have BD:=zH xD;have HK:=zH bM;have HB:=zH pd;have HVR:=zH (HV.out.keep (λb hb=>hb) bM);clear Le Bv gY Vb Lj xD bM pd;rcases k with _|j
  ·obtain rfl:z= -1:=by omega
   have dS:val qs=val us/V/\val ts=val us%V:=by
    have h1:=jV.out;have h2:=RX.out;rw[List.drop_zero] at h1 h2;rw[Nat.pow_zero,Nat.one_mul] at h1;exact yX (by rw[Nat.mul_comm,h1];omega) h2
   have HF:=zH dS;clear dS hz;go_wp2_with fail;go_ret
   exact⟨_,qs,ts,rfl,by rw[HG.out];exact BD.out,HF.out.1,JK.out,Et.out,HF.out.2,JI.out,HB.out⟩
  ·obtain rfl:z=j:=by omega
   have hjn:j+(n+1)<=nu:=by omega
   have Lc:=Yh (n:=n) (by rw[JI.out];exact hjn) RX.out;have HWL:=zH Lc;clear Lc hz;go_wp2_with fail;refine(Qm j Et.out.rsAll HVR.out hn (by omega) (by omega) HH.out (by rw[HVV.out];exact HWL.out)).mono ?_;rintro e w' ⟨q,mm,rfl,mC,tS,hqB,rfl⟩;rw[HVV.out] at mC tS;have BE:=zH mC;have HHI:=zH tS;have RV:=zH (Et.out.drewN mm);have ace:=zH (BD.out.drewN mm);have X8:Hid (aw S w (wr.drewN mm)):=zH HK.out;have fu:=zH (below_drewN HB.out mm);obtain⟨wd,Dc⟩:∃x,wr.drewN mm=x:=⟨_,rfl⟩;rw[Dc] at RV ace X8 fu;rw[Dc];clear mC tS Dc Et BD HK HB HVR;obtain⟨N,hN⟩:∃N,n+1=N:=⟨_,rfl⟩;have hN1:(n:Int)+1=(N:Int):=by omega
   have wN:IntKind.i64.wrap (N:Int)=(N:Int):=by rw[IntKind.wrap_i64];omega
   go_wp2_with fail;go_loopw [9,10,38] (λbv cv iv wr=>∃(b c i:Nat) (xs:List (BitVec 32)),i<=N/\iv=.int .i64 i/\bv=.int .u64 b/\cv=.int .u64 c/\b<=1/\c<4294967296/\(n<i->c=0)/\xs.length=nu/\xs.take j=ts.take j/\xs.drop (j+i)=ts.drop (j+i)/\ val ((xs.drop j).take i)+q*val (vs.take i)=val ((ts.drop j).take i)+4294967296^i*(c+b)/\ Own wr bi bs 172 (.slice (some ⟨gu,0,none⟩) nu cu) xs/\Own wr bi g 172 (.slice (some ⟨g,0,none⟩) m m) qs/\aw S w wr/\Below bs w wr)
    (λ_ _ iv _=>N-(intOf iv).toNat)
   case atStart=>exact⟨0,0,0,ts,Nat.zero_le _,rfl,rfl,rfl,Nat.zero_le _,by omega,by omega,JI.out,rfl,rfl,by simp[val],RV.out,ace.out,X8.out,fu.out⟩
   case round=>
    clear RV ace X8 fu;obtain⟨b,c,i,xs,hi,rfl,rfl,rfl,hb,hc,hcn,kC,hxt,Z5,gY,Lj,xD,bM,pd⟩:=hrel;have HXL:=zH kC;have HXT:=zH hxt;have HXD:=zH Z5;have X9:=zH gY;have Et:=zH Lj;have BD:=zH xD;have HK:=zH bM;have HB:=zH pd;have HCN:=zH hcn;have HVR:Hid (RS wr S Av n cv vs):=zH (HV.out.keep (λb hb=>hb) bM);clear kC hxt Z5 gY Lj xD bM pd hcn;by_cases hlt:i<N
    ·have PV:(i:Int)<(N:Int):=by omega
     have PT:j+i<nu:=by omega
     obtain⟨y,hy⟩:∃y,(vs.getD i 0#32).toNat=y:=⟨_,rfl⟩;obtain⟨x,hx⟩:∃x,(xs.getD (j+i) 0#32).toNat=x:=⟨_,rfl⟩;have Db:y<4294967296:=by rw[<-hy];exact(vs.getD i 0#32).isLt
     have kC:x<4294967296:=by rw[<-hx];exact(xs.getD (j+i) 0#32).isLt
     obtain⟨eO,mf⟩:=Et.out.limb (k:=j+i) (by rw[HXL.out];exact PT);rw[hx] at eO;obtain⟨p0,PH⟩:∃p,q*y=p:=⟨_,rfl⟩;have atV:p0<=4294967295*4294967295:=by rw[<-PH];exact Nat.mul_le_mul (by omega) (by omega)
     have atW:(q:Int)*(y:Int)=(p0:Int):=by rw[<-PH];exact(Int.natCast_mul _ _).symm
     obtain⟨p,hp⟩:∃p,p0+c=p:=⟨_,rfl⟩;have hpi:(p0:Int)+(c:Int)=(p:Int):=by omega
     have xC:p<18446744073709551616:=by omega
     have wp0:IntKind.u64.wrap (p0:Int)=(p0:Int):=by rw[IntKind.wrap_u64];omega
     have wp1:IntKind.u64.wrap (p:Int)=(p:Int):=by rw[IntKind.wrap_u64];omega
     obtain⟨c',Qe⟩:∃c',p/4294967296=c':=⟨_,rfl⟩;have hcd:(p:Int)/4294967296=(c':Int):=by rw[<-Qe];rfl
     have ama:c'<4294967296:=by omega
     have hand:=Wn p xC;obtain⟨pm,hpm⟩:∃z,p%4294967296=z:=⟨_,rfl⟩;rw[hpm] at hand;have atQ:pm<4294967296:=by omega
     obtain⟨s,hs⟩:∃s,4294967296+x-pm-b=s:=⟨_,rfl⟩;obtain⟨s1,ml⟩:∃s,4294967296+x=s:=⟨_,rfl⟩;obtain⟨s2,EC⟩:∃s,s1-pm=s:=⟨_,rfl⟩;have ala:(4294967296:Int)+(x:Int)=(s1:Int):=by omega
     have atJ:(s1:Int)-(pm:Int)=(s2:Int):=by omega
     have hsi:(s2:Int)-(b:Int)=(s:Int):=by omega
     have ws1:IntKind.u64.wrap (s1:Int)=(s1:Int):=by rw[IntKind.wrap_u64];omega
     have ws2:IntKind.u64.wrap (s2:Int)=(s2:Int):=by rw[IntKind.wrap_u64];omega
     have ws:IntKind.u64.wrap (s:Int)=(s:Int):=by rw[IntKind.wrap_u64];omega
     have wx:IntKind.u64.wrap (x:Int)=(x:Int):=by rw[IntKind.wrap_u64];omega
     obtain⟨d,hd⟩:∃d,s/4294967296=d:=⟨_,rfl⟩;have U6:(s:Int)/4294967296=(d:Int):=by rw[<-hd];rfl
     have Xv:d<=1:=by omega
     obtain⟨b',mz⟩:∃b',1-d=b':=⟨_,rfl⟩;have hbi:(1:Int)-(d:Int)=(b':Int):=by omega
     have wb:IntKind.u64.wrap (b':Int)=(b':Int):=by rw[IntKind.wrap_u64];omega
     have yF:=iP s;obtain⟨t,ht⟩:∃t,BitVec.ofNat 32 s=t:=⟨_,rfl⟩;have Z8:=d9 s;rw[ht] at yF Z8;obtain⟨k,lq⟩:∃k,j+i=k:=⟨_,rfl⟩;have hki:(i:Int)+(j:Int)=(k:Int):=by omega
     have wk:IntKind.i64.wrap (k:Int)=(k:Int):=by rw[IntKind.wrap_i64];omega
     have pz:(k:Int)<(nu:Int):=by omega
     have hw:=Ha t (by rw[HXL.out];exact PT) HXT.out HXD.out;have e1:=bc (ts.drop j) i;have e2:=bc vs i;have eu:=KS (B:=4294967296) rfl kC (show q*y+c=p by rw[PH];exact hp) (show 4294967296+x-p%4294967296-b=s by rw[hpm];exact hs) hb X9.out;have e3:(ts.drop j).getD i 0#32=ts.getD (j+i) 0#32:=by rw[List.getD_eq_getElem?_getD,List.getD_eq_getElem?_getD,List.getElem?_drop]
     rw[e3,<-hw.2.2.2,hx] at e1;rw[hy] at e2;rw[<-e1,<-e2,Qe,hd,mz,<-Z8,<-hw.2.2.1,<-Nat.pow_succ] at eu;have af5:n<i+1->c'=0:=by
      intro h;have xB:y=0:=by
       rw[<-hy,List.getD_eq_getElem?_getD,List.getElem?_eq_none (by rw[HV.out.len];omega)];rfl
      rw[xB,Nat.mul_zero] at PH;omega
     rw[lq] at hw eu eO mf;have nz:=zH hw.1;have HW2:=zH hw.2.1;have zm:=zH eu;have aoJ:=zH af5;have HY:=zH hy;clear hw eu af5 hy hx e1 e2 e3 PH hp Qe hpm hs ml EC hd mz ht Z8 lq X9 hN hm;go_wp2_with fail;refine(j4 i HVR.out).mono ?_;rintro e w' ⟨rfl,rfl⟩;rw[HY.out];go_wp2_with fail;go_roundw
     case rel=>exact⟨b',c',i+1,xs.set k t,by omega,by go_num,rfl,rfl,by omega,ama,aoJ.out,by rw[List.length_set];exact HXL.out,nz.out,HW2.out,zm.out,Et.out.setLimb k t,BD.out.setCell (by simp[Value.ownBlock];omega) (λ_ h=>h.elim) _,HK.out.setCell (λhb=>(HSS.out _ hb).2 rfl) _,HB.out.setCell Vg.1 _⟩
     case measure=>simp[intOf];omega
    ·have PV:i=N:=by omega
     have Qd:=HCN.out (by omega);have PU:=X9.out;rw[Qd] at PU;clear Qd;rw[bz vs i (by rw[HV.out.len];omega),HVV.out] at PU;have Lc:=dT ((xs.drop j).take i);have hll:((xs.drop j).take i).length=i:=by rw[List.length_take,List.length_drop,HXL.out];omega
     rw[hll] at Lc;have hVp:0<V:=Nat.lt_of_le_of_lt (Nat.zero_le _) RX.out;have hVn:V<4294967296^n:=by rw[<-HVV.out,<-HV.out.len];exact dT vs
     rw[PV,<-hN] at PU Lc;have Z5:xs.drop (j+(n+1))=ts.drop (j+(n+1)):=by rw[hN,<-PV];exact HXD.out
     obtain⟨h0,h1⟩:=OH hVp Lc BE.out HHI.out hb PU;have hjm:(j:Int)<(m:Int):=by omega
     obtain⟨eO,mf⟩:=BD.out.limb (k:=j) (by rw[JK.out];omega);rw[<-HG.out] at eO mf;have hgl:w.heap.size≠gu:=by have:=HG.out;omega
     have HGU:Hid (gu<w.heap.size):=zH (by rw[HG.out];exact Vg.2);rcases Nat.eq_zero_or_pos b with hb0|hb0
     ·obtain⟨hq,Pw⟩:=h0 hb0;have hbf:decide (0<b)=false:=decide_eq_false (by omega);have hbg:(0<b)=False:=eq_false (by omega);have yF:=iP q;obtain⟨zq,Pt⟩:∃z,BitVec.ofNat 32 q=z:=⟨_,rfl⟩;have gD:=d9 q;rw[Pt] at yF gD;have Bs:zq.toNat=q:=by omega
      have AI:=vG (us:=us) (qs:=qs) (by rw[JI.out];exact hjn) hVn RX.out (by rw[HXL.out,JI.out]) HXT.out Z5 Pw hq Bs (by rw[JK.out];omega) jV.out;have RU:=zH AI;have q1:Own (wr.setCell ⟨w.heap.size,j,none⟩ (.int .u32 (zq.toNat:Int))) bi bs 172 (.slice (some ⟨gu,0,none⟩) nu cu) xs:=Et.out.setCell (by simp[Value.ownBlock];omega) (λ_ h=>h.elim) _;have q2:Own (wr.setCell ⟨w.heap.size,j,none⟩ (.int .u32 (zq.toNat:Int))) bi g 172 (.slice (some ⟨g,0,none⟩) m m) (qs.set j zq):=by rw[HG.out];exact BD.out.setLimb j zq
      have q3:aw S w (wr.setCell ⟨w.heap.size,j,none⟩ (.int .u32 (zq.toNat:Int))):=HK.out.setCell (λhb=>Nat.lt_irrefl _ (HSS.out _ hb).1) _;have q4:Below bs w (wr.setCell ⟨w.heap.size,j,none⟩ (.int .u32 (zq.toNat:Int))):=HB.out.setCell (by have:=HG.out;simp;omega) _;have Q1:=zH q1;have Q2:=zH q2;have Q3:=zH q3;have Q4:=zH q4;clear AI hq Pw h0 h1 PU Lc hll Pt gD Bs hN Z5 PV hb0 q1 q2 q3 q4;have aas:((i:Int)<(N:Int))=False:=eq_false (by omega);go_wp2_with fail;go_roundw
      case rel=>exact⟨j,(j:Int)-1,xs,qs.set j zq,by omega,by go_num,by omega,HXL.out,by rw[List.length_set];exact JK.out,RU.out.1,RU.out.2,Q1.out,Q2.out,Q3.out,Q4.out⟩
      case measure=>simp[intOf]
     ·obtain⟨hq,Pw⟩:=h1 hb0;have ci:b=1:=by omega
      obtain⟨q1,PE⟩:∃q1,q-1=q1:=⟨_,rfl⟩;have PF:1<=q:=by rw[hq];exact Nat.le_add_left _ _
      have atM:(q:Int)-1=(q1:Int):=by omega
      have afx:q1=val ((ts.drop j).take (n+1))/V:=by rw[<-PE,hq];rfl
      have wq1:IntKind.u64.wrap (q1:Int)=(q1:Int):=by rw[IntKind.wrap_u64];omega
      have yF:=iP q1;obtain⟨zq,Pt⟩:∃z,BitVec.ofNat 32 q1=z:=⟨_,rfl⟩;have gD:=d9 q1;rw[Pt] at yF gD;have Bs:zq.toNat=q1:=by omega
      have hbg:(0<b)=True:=eq_true (by omega);have hbf:decide (0<b)=true:=decide_eq_true (by omega);have aas:((i:Int)<(N:Int))=False:=eq_false (by omega);obtain⟨U1,hU1⟩:∃U1,val ((xs.drop j).take (n+1))=U1:=⟨_,rfl⟩;obtain⟨RR,hRR⟩:∃U1,val ((ts.drop j).take (n+1))%V=U1:=⟨_,rfl⟩;have Er:=zH hRR;have HQ1:=zH afx;have HZN:=zH Bs;have an8:=zH Z5;have aoa:=zH Pw;have HN:=zH hN;clear h0 h1 PU Lc hll Pt gD Bs hN Z5 PV hb0 hq Pw hU1 hRR PE afx ci X9 HXD;go_wp2_with fail;go_loopw [10,80] (λcv iv wr=>∃(c i:Nat) (ys:List (BitVec 32)),i<=N/\iv=.int .i64 i/\cv=.int .u64 c/\c<=1/\ys.length=nu/\ys.take j=xs.take j/\ys.drop (j+i)=xs.drop (j+i)/\ val ((ys.drop j).take i)+4294967296^i*c=val ((xs.drop j).take i)+val (vs.take i)/\ Own wr bi bs 172 (.slice (some ⟨gu,0,none⟩) nu cu) ys/\Own wr bi g 172 (.slice (some ⟨g,0,none⟩) m m) qs/\aw S w wr/\Below bs w wr)
       (λ_ iv _=>N-(intOf iv).toNat)
      case atStart=>exact⟨0,0,xs,Nat.zero_le _,rfl,rfl,Nat.zero_le _,HXL.out,rfl,rfl,by simp[val],Et.out,BD.out,HK.out,HB.out⟩
      case round=>
       clear Et BD HK HB HVR hi hlt aas eO mf hc hb hbg hbf;obtain⟨c,i,ys,hi,rfl,rfl,hc,Db,hyt,Xi,gY,Lj,xD,bM,pd⟩:=hrel;have HYL:=zH Db;have HYT:=zH hyt;have HYD:=zH Xi;have X9:=zH gY;have Et:=zH Lj;have BD:=zH xD;have HK:=zH bM;have HB:=zH pd;have HVR:Hid (RS wr S Av n cv vs):=zH (HV.out.keep (λb hb=>hb) bM);clear Db hyt Xi gY Lj xD bM pd;by_cases hlt:i<N
       ·have PV:(i:Int)<(N:Int):=by omega
        have PT:j+i<nu:=by have:=HN.out;omega
        obtain⟨y,hy⟩:∃y,(vs.getD i 0#32).toNat=y:=⟨_,rfl⟩;obtain⟨x,hx⟩:∃x,(ys.getD (j+i) 0#32).toNat=x:=⟨_,rfl⟩;have Db:y<4294967296:=by rw[<-hy];exact(vs.getD i 0#32).isLt
        have kC:x<4294967296:=by rw[<-hx];exact(ys.getD (j+i) 0#32).isLt
        obtain⟨eO,mf⟩:=Et.out.limb (k:=j+i) (by rw[HYL.out];exact PT);rw[hx] at eO;obtain⟨s,hs⟩:∃s,x+y+c=s:=⟨_,rfl⟩;obtain⟨s1,ml⟩:∃s,x+y=s:=⟨_,rfl⟩;have ala:(x:Int)+(y:Int)=(s1:Int):=by omega
        have hsi:(s1:Int)+(c:Int)=(s:Int):=by omega
        have ws1:IntKind.u64.wrap (s1:Int)=(s1:Int):=by rw[IntKind.wrap_u64];omega
        have ws:IntKind.u64.wrap (s:Int)=(s:Int):=by rw[IntKind.wrap_u64];omega
        have wx:IntKind.u64.wrap (x:Int)=(x:Int):=by rw[IntKind.wrap_u64];omega
        obtain⟨d,hd⟩:∃d,s/4294967296=d:=⟨_,rfl⟩;have U6:(s:Int)/4294967296=(d:Int):=by rw[<-hd];rfl
        have Xv:d<=1:=by omega
        have ak3:=iP s;obtain⟨t,ht⟩:∃t,BitVec.ofNat 32 s=t:=⟨_,rfl⟩;have Z8:=d9 s;rw[ht] at ak3 Z8;obtain⟨k,lq⟩:∃k,j+i=k:=⟨_,rfl⟩;have hki:(i:Int)+(j:Int)=(k:Int):=by omega
        have wk:IntKind.i64.wrap (k:Int)=(k:Int):=by rw[IntKind.wrap_i64];omega
        have pz:(k:Int)<(nu:Int):=by omega
        have hw:=Ha t (by rw[HYL.out];exact PT) HYT.out HYD.out;have e1:=bc (xs.drop j) i;have e2:=bc vs i;have eu:=Eh hs X9.out;have e3:(xs.drop j).getD i 0#32=xs.getD (j+i) 0#32:=by rw[List.getD_eq_getElem?_getD,List.getD_eq_getElem?_getD,List.getElem?_drop]
        rw[e3,<-hw.2.2.2,hx] at e1;rw[hy] at e2;rw[<-e1,<-e2,hd,<-Z8,<-hw.2.2.1,<-Nat.pow_succ] at eu;rw[lq] at hw eu eO mf;have nz:=zH hw.1;have HW2:=zH hw.2.1;have zm:=zH eu;have ahl:Hid (∀z,Calls Tryz.prog 250 #[.slice Av n cv,.int .i64 i] (wr.drewN z) (jk (wr.drewN z) (.int .u64 (y:Int)))):=zH λz=>by
         rw[<-hy];exact j4 i (HVR.out.drewN z)
        clear hw eu hy hx e1 e2 e3 hs ml hd ht Z8 lq X9 hm yF;go_wp2_with fail;go_quiet ((go_at_call 250;(with_reducible refine(ahl.out _).mono ?_);rintro e w' ⟨rfl,rfl⟩;exact⟨rfl,_,rfl⟩))
        go_wp2_with fail;go_roundw
        case rel=>exact⟨d,i+1,ys.set k t,by omega,by go_num,rfl,Xv,by rw[List.length_set];exact HYL.out,nz.out,HW2.out,zm.out,(Et.out.drewN _).setLimb k t,(BD.out.drewN _).setCell (by simp[Value.ownBlock];omega) (λ_ h=>h.elim) _,(HK.out.drewN _).setCell (λhb=>(HSS.out _ hb).2 rfl) _,(below_drewN HB.out _).setCell Vg.1 _⟩
        case measure=>simp[intOf];omega
       ·have PV:i=n+1:=by have:=HN.out;omega
        have PU:=X9.out;have Lc:=dT ((ys.drop j).take i);have hll:((ys.drop j).take i).length=i:=by rw[List.length_take,List.length_drop,HYL.out];omega
        rw[hll] at Lc;rw[bz vs i (by rw[HV.out.len];omega),HVV.out] at PU;rw[PV] at PU Lc;have hR:=Eg Lc PU aoa.out hc;have Xi:ys.drop (j+(n+1))=ts.drop (j+(n+1)):=by rw[<-PV,HYD.out,PV];exact an8.out
        have AI:=vG (us:=us) (qs:=qs) (by rw[JI.out];exact hjn) hVn RX.out (by rw[HYL.out,JI.out]) (HYT.out.trans HXT.out) Xi hR HQ1.out HZN.out (by rw[JK.out];omega) jV.out;have RU:=zH AI;obtain⟨eO,mf⟩:=BD.out.limb (k:=j) (by rw[JK.out];omega);rw[<-HG.out] at eO mf;have q1':Own (wr.setCell ⟨w.heap.size,j,none⟩ (.int .u32 (zq.toNat:Int))) bi bs 172 (.slice (some ⟨gu,0,none⟩) nu cu) ys:=Et.out.setCell (by simp[Value.ownBlock];omega) (λ_ h=>h.elim) _;have q2:Own (wr.setCell ⟨w.heap.size,j,none⟩ (.int .u32 (zq.toNat:Int))) bi g 172 (.slice (some ⟨g,0,none⟩) m m) (qs.set j zq):=by rw[HG.out];exact BD.out.setLimb j zq
        have q3:aw S w (wr.setCell ⟨w.heap.size,j,none⟩ (.int .u32 (zq.toNat:Int))):=HK.out.setCell (λhb=>Nat.lt_irrefl _ (HSS.out _ hb).1) _;have q4:Below bs w (wr.setCell ⟨w.heap.size,j,none⟩ (.int .u32 (zq.toNat:Int))):=HB.out.setCell (by have:=HG.out;simp;omega) _;have Q1:=zH q1';have Q2:=zH q2;have Q3:=zH q3;have Q4:=zH q4;have aas:((i:Int)<(N:Int))=False:=eq_false (by omega);clear AI hR Xi PU Lc hll PV q1' q2 q3 q4 hlt;go_wp2_with fail;go_roundw
        case rel=>exact⟨j,(j:Int)-1,ys,qs.set j zq,by omega,by go_num,by omega,HYL.out,by rw[List.length_set];exact JK.out,RU.out.1,RU.out.2,Q1.out,Q2.out,Q3.out,Q4.out⟩
        case measure=>simp[intOf]
end Go.Proofs.YtdbpbfglhbiadaaGreatDoor
