/- Nat7 Nat8 Nat9 -/
import Derived.Test.YtichkplomldgiaaGreatDoorJ03
import Derived.Outline
import Derived.Test.YtichkplomldgiaaGreatDoorJ02
set_option maxHeartbeats 4000000
set_option maxRecDepth 100000
namespace Go.Proofs.YtichkplomldgiaaGreatDoor
open Go.RowKit
def Kv (w:World) (v n:Nat) (en:Ending) (w':World):Prop:=
 ∃(s:Value) (zs:List (BitVec 32)),en=.returned s/\Own w' ba w.heap.size 138 s zs/\val zs=v/\zs.length=n/\Below w.heap.size w w'
theorem nV (M k:Nat):(List.replicate M 0#32).getD k 0#32=0#32:=by
 rw[List.getD_eq_getElem?_getD,List.getElem?_replicate];split<;>rfl
theorem jJ {l:List (BitVec 32)} {k:Nat} (z:BitVec 32) (h:k<l.length):(l.set k z).getD k 0#32=z:=by
 rw[List.getD_eq_getElem?_getD,List.getElem?_set_self h];rfl
theorem oM {l:List (BitVec 32)} {k:Nat} (z:BitVec 32):(l.set (k+1) z).take (k+1)=l.take (k+1):=by
 rw[List.take_set,List.set_eq_of_length_le (by simp;omega)]
theorem yq {S:Nat->Prop} {A:Option Addr} {n c:Nat} {xs:List (BitVec 32)} {w:World} (sh:Nat) (h:RS w S A n c xs) (hS:∀b,S b->b<w.heap.size) (hn:n<=1073741824) (hs:sh<32) : Calls Tryz.prog 236 #[.slice A n c,.int .i64 sh] w (Kv w (val xs*2^sh) (n+1)):=by
 obtain⟨i0,hi,hz0,hz1,hz2⟩:=info_parts Tryz.u32Info;have HI:=zH hi;have sX:=zH hz0;have kP:=zH hz1;have oF:=zH hz2;have H:=zH h;have HL:=zH h.len;clear h hi hz0 hz1 hz2;have AF:(n:Int)+1=((n+1:Nat):Int):=by omega
 obtain⟨M,hM⟩:∃M,n+1=M:=⟨_,rfl⟩;rw[hM] at AF;rw[hM];have ZQ:M<=1073741825:=by omega
 have HM:=zH hM;clear hM;go_enter Tryz.func236,Tryz.ntmps236;go_wp2_with (refine bW (α:=BitVec 32) _ rfl _ _ _ rfl rfl w.heap.size i0 (.int .u32 0) Tryz.underlying26 HI.out sX.out kP.out rfl .i64 .i64 (M:Int) (M:Int) M rfl rfl rfl rfl (by rw[oF.out];omega) (by unfold maxLen;omega) (Nat.le_refl _) 0#32 ba (λ_ h=>h.elim) (λ_ _=>rfl) ?_; intro w1 kh hg1; have eH:=zH kh; have dc:=zH ((Below.refl w.heap.size w).grown hg1 (Nat.le_refl _) (λk hk=>by cases hk)); clear kh hg1);obtain⟨g,hg⟩:∃g,w.heap.size=g:=⟨_,rfl⟩;rw[hg] at eH;rw[hg];have HG:=zH hg;clear hg AF;go_loopw [15] (λi wr=>∃(k:Nat) (zs:List (BitVec 32)),k<=n/\i=.int .i64 k/\zs.length=M/\(zs.getD k 0#32).toNat<2^sh/\val (zs.take k)+4294967296^k*(zs.getD k 0#32).toNat=val (xs.take k)*2^sh/\Own wr ba g 138 (.slice (some ⟨g,0,none⟩) M M) zs/\Below w.heap.size w wr)
  (λi _=>n-(intOf i).toNat)
 case atStart=>
  have hp:=Nat.two_pow_pos sh;refine⟨0,List.replicate M 0#32,by omega,rfl,by simp,?_,?_,eH.out,dc.out⟩
  ·rw[nV];exact hp
  ·rw[nV];simp[val]
 case round=>
  clear eH dc;obtain⟨k,zs,hk,rfl,pP,pW,dV,ho,hb⟩:=hrel;have eH:=zH ho;have dc:=zH hb;have kT:=zH pP;have fL:=zH dV;have HCL:=zH pW;clear ho hb pP dV pW;by_cases hlt:k<n
  ·have oV:(k:Int)<(n:Int):=by omega
   have Qu:(k:Int)<(M:Int):=by have:=HM.out;omega
   have ab4:(k:Int)+1<(M:Int):=by have:=HM.out;omega
   obtain⟨b,o,x,rfl,_,hx,e1⟩:=(H.out.below dc.out hS).limb_at hlt;have jt:=x.isLt;obtain⟨cI,im⟩:=eH.out.limb (k:=k) (by rw[kT.out];have:=HM.out;omega);obtain⟨c0,Mv⟩:∃c0,zs.getD k 0#32=c0:=⟨_,rfl⟩;rw[Mv] at cI fL HCL;obtain⟨v,hv⟩:∃v,x.toNat*2^sh=v:=⟨_,rfl⟩;have ZU:2^sh<=2^31:=Nat.pow_le_pow_right (by omega) (by omega);have hvb:v<18446744073709551616:=by
    have:x.toNat*2^sh<=4294967295*2^31:=Nat.mul_le_mul (by omega) ZU;omega
   have Y9:IntKind.u64.wrap ((x.toNat:Int)*2^sh)=(v:Int):=by
    have:(x.toNat:Int)*2^sh=(v:Int):=by rw[<-hv,Int.natCast_mul,Int.natCast_pow];rfl
    rw[this,IntKind.wrap_u64];omega
   have hxw:IntKind.u64.wrap (x.toNat:Int)=(x.toNat:Int):=by rw[IntKind.wrap_u64];omega
   have h1:=eC v;obtain⟨z1,hz1⟩:∃z,BitVec.ofNat 32 v=z:=⟨_,rfl⟩;have LX:=ci v;rw[hz1] at h1 LX;have jG:=Ga c0 z1;obtain⟨z2,hz2⟩:∃z,c0||| z1=z:=⟨_,rfl⟩;have P1:z2.toNat=c0.toNat+v%4294967296:=by
    rw[<-hz2,BitVec.toNat_or,LX,<-hv];exact HJ HCL.out (by omega)
   rw[hz2] at jG;have hvd:(v:Int)/4294967296=((v/4294967296:Nat):Int):=rfl;have h3:=eC (v/4294967296);obtain⟨z3,YZ⟩:∃z,BitVec.ofNat 32 (v/4294967296)=z:=⟨_,rfl⟩;have LV:=ci (v/4294967296);rw[YZ] at h3 LV;have hl3:v/4294967296<2^sh:=by rw[<-hv];exact HW jt
   have LW:z3.toNat=v/4294967296:=by rw[LV,Nat.mod_eq_of_lt (by omega)]
   have gX:=left_step (B:=4294967296) (x:=x.toNat) fL.out;rw[hv] at gX;have J2:=jC hx;have Ix:k<zs.length:=by rw[kT.out];have:=HM.out;omega
   have Mj:k+1<(zs.set k z2).length:=by rw[List.length_set,kT.out];have:=HM.out;omega
   have jx:val (((zs.set k z2).set (k+1) z3).take (k+1))+4294967296^(k+1)*(((zs.set k z2).set (k+1) z3).getD (k+1) 0#32).toNat=val (xs.take (k+1))*2^sh:=by
    rw[oM,cw z2 Ix,jJ z3 Mj,P1,LW,J2,Nat.pow_succ];exact gX
   have wu:(((zs.set k z2).set (k+1) z3).getD (k+1) 0#32).toNat<2^sh:=by rw[jJ z3 Mj,LW];exact hl3
   obtain⟨vd,P4⟩:∃vd,v/4294967296=vd:=⟨_,rfl⟩;rw[P4] at hvd h3;clear P4;have Wk:=eH.out.setLimb k z2;obtain⟨VN,acd⟩:=Wk.limb (k:=k+1) Mj;have ZP:=Wk.setLimb (k+1) z3;have RO:=zH ZP;have xa:=zH jx;have HNL:=zH wu;clear hv ZU hz1 LX hz2 P1 YZ LV hl3 LW gX J2 Ix jx wu Wk ZP hx Mv;go_wp2_with fail;go_roundw
   case rel=>
    refine⟨k+1,_,by omega,by go_num,by rw[List.length_set,List.length_set];exact kT.out,HNL.out,xa.out,RO.out,(dc.out.setCell (by have:=HG.out;simp;omega) _).setCell (by have:=HG.out;simp;omega) _⟩
   case measure=>simp[intOf];omega
  ·have oV:k=n:=by omega
   have cM:val zs=val xs*2^sh:=by
    have h1:=fL.out;rw[oV,<-aF,aL _ _ (by rw[kT.out];have:=HM.out;omega),aL xs _ (by rw[HL.out];exact Nat.le_refl _)] at h1;exact h1
   have oy:=zH cM;clear cM oV;go_wp2_with fail;go_ret
   exact⟨_,zs,rfl,by rw[HG.out];exact eH.out,oy.out,kT.out,dc.out⟩
theorem Pp (x y:Nat) (hx:x<4294967296) (hy:y<4294967296):bits .or .u64 (x:Int) ((y:Int)*4294967296)=((x+4294967296*y:Nat):Int):=by
 have e:(y:Int)*4294967296=((y*4294967296:Nat):Int):=by omega
 rw[e,u64_or_nat _ _ (by omega) (by omega),Nat.or_comm,tD _ _ hx];congr 1;omega
theorem CK {S:Nat->Prop} {A:Option Addr} {n c:Nat} {xs:List (BitVec 32)} {w:World} (sh:Nat) (h:RS w S A n c xs) (hS:∀b,S b->b<w.heap.size) (hn:n<=1073741824) (hs:sh<32) : Calls Tryz.prog 238 #[.slice A n c,.int .i64 sh] w (Kv w (val xs/2^sh) n):=by
 obtain⟨i0,hi,hz0,hz1,hz2⟩:=info_parts Tryz.u32Info;have HI:=zH hi;have sX:=zH hz0;have kP:=zH hz1;have oF:=zH hz2;have H:=zH h;have HL:=zH h.len;clear h hi hz0 hz1 hz2;go_enter Tryz.func238,Tryz.ntmps238;go_wp2_with (refine bW (α:=BitVec 32) _ rfl _ _ _ rfl rfl w.heap.size i0 (.int .u32 0) Tryz.underlying26 HI.out sX.out kP.out rfl .i64 .i64 (n:Int) (n:Int) n rfl rfl rfl rfl (by rw[oF.out];omega) (by unfold maxLen;omega) (Nat.le_refl _) 0#32 ba (λ_ h=>h.elim) (λ_ _=>rfl) ?_; intro w1 kh hg1; have eH:=zH kh; have dc:=zH ((Below.refl w.heap.size w).grown hg1 (Nat.le_refl _) (λk hk=>by cases hk)); clear kh hg1);obtain⟨g,hg⟩:∃g,w.heap.size=g:=⟨_,rfl⟩;rw[hg] at eH;rw[hg];have HG:=zH hg;clear hg;go_loopw [6,12] (λ_ i wr=>∃(k:Nat) (zs:List (BitVec 32)),k<=n/\i=.int .i64 k/\zs.length=n/\val (zs.take k)=val xs/2^sh%4294967296^k/\Own wr ba g 138 (.slice (some ⟨g,0,none⟩) n n) zs/\Below w.heap.size w wr)
  (λ_ i _=>n-(intOf i).toNat)
 case atStart=>exact⟨0,List.replicate n 0#32,by omega,rfl,by simp,by simp[val,Nat.mod_one],eH.out,dc.out⟩
 case round=>
  clear eH dc;obtain⟨k,zs,hk,rfl,pP,dV,ho,hb⟩:=hrel;have eH:=zH ho;have dc:=zH hb;have kT:=zH pP;have fL:=zH dV;clear ho hb pP dV;by_cases hlt:k<n
  ·have oV:(k:Int)<(n:Int):=by omega
   have gX:=right_step xs k sh (by omega);obtain⟨x,hx⟩:∃x,(xs.getD k 0#32).toNat=x:=⟨_,rfl⟩;obtain⟨y,hy⟩:∃y,(xs.getD (k+1) 0#32).toNat=y:=⟨_,rfl⟩;have jt:x<4294967296:=by rw[<-hx];exact bV k
   have t4:y<4294967296:=by rw[<-hy];exact bV (k+1)
   rw[hx,hy] at gX;have jG:=Pp x y jt t4;obtain⟨s,NV⟩:∃s,x+4294967296*y=s:=⟨_,rfl⟩;rw[NV] at jG gX;have FS:s<18446744073709551616:=by omega
   obtain⟨t,ht⟩:∃t,s/2^sh=t:=⟨_,rfl⟩;have htd:(s:Int)/2^sh=(t:Int):=by rw[<-ht,Int.natCast_ediv,Int.natCast_pow];rfl
   rw[ht] at gX;have h1:=eC t;obtain⟨z,hz⟩:∃z,BitVec.ofNat 32 t=z:=⟨_,rfl⟩;have Bq:=ci t;rw[hz] at h1 Bq;rw[<-Bq] at gX;obtain⟨cI,im⟩:=eH.out.limb (k:=k) (by rw[kT.out];exact hlt);have jx:val ((zs.set k z).take (k+1))=val xs/2^sh%4294967296^(k+1):=by
    rw[cw z (by rw[kT.out];exact hlt),fL.out,Dm,gX]
   have nJ:(k:Int)+1=((k+1:Nat):Int):=by omega
   obtain⟨k1,Mk⟩:∃k1,k+1=k1:=⟨_,rfl⟩;rw[Mk] at nJ hy jx;have HX:=zH hx;have HY:=zH hy;have xa:=zH jx;have Jw:=zH Mk;clear gX hx hy NV ht hz Bq jx Mk;go_wp2_with fail;refine(fS k (H.out.below dc.out hS)).mono ?_;rintro e w' ⟨rfl,rfl⟩;rw[HX.out];go_wp2_with fail;refine(fS k1 (H.out.below dc.out hS)).mono ?_;rintro e w' ⟨rfl,rfl⟩;rw[HY.out];clear nJ;go_wp2_with fail;go_roundw
   case rel=>
    exact⟨k+1,zs.set k z,by omega,by go_num,by rw[List.length_set];exact kT.out,by rw[Jw.out];exact xa.out,eH.out.setLimb k z,dc.out.setCell (by have:=HG.out;simp;omega) _⟩
   case measure=>simp[intOf];omega
  ·have oV:k=n:=by omega
   have cM:val zs=val xs/2^sh:=by
    have h1:=fL.out;rw[oV,aL _ _ (by rw[kT.out];exact Nat.le_refl _),Nat.mod_eq_of_lt] at h1
    ·exact h1
    ·have h2:=cE xs;rw[HL.out] at h2;exact Nat.lt_of_le_of_lt (Nat.div_le_self _ _) h2
   have oy:=zH cM;clear cM oV;go_wp2_with fail;go_ret
   exact⟨_,zs,rfl,by rw[HG.out];exact eH.out,oy.out,kT.out,dc.out⟩
def FA (w:World) (U V:Nat) (e:Ending) (w':World):Prop:=∃q m:Nat,e=.returned (.int .u64 q)/\U/V<=q/\q<=U/V+1/\q<4294967296/\w'=w.drewN m
theorem TF {us vs:List (BitVec 32)} {j n:Nat} (hn:2<=n) (hv:vs.length=n) (hu:j+n<us.length) : ∃P ul vl,0<P/\ul<P/\vl<P/\ val ((us.drop j).take (n+1))=P*((((us.getD (j+n) 0#32).toNat*4294967296+(us.getD (j+n-1) 0#32).toNat))*4294967296+(us.getD (j+n-2) 0#32).toNat)+ul/\ val vs=P*((vs.getD (n-1) 0#32).toNat*4294967296+(vs.getD (n-2) 0#32).toNat)+vl:=by
 refine⟨4294967296^(n-2),val ((us.drop j).take (n-2)),val (vs.take (n-2)),Nat.pow_pos (by omega),?_,?_,?_,?_⟩
 ·have:=cE ((us.drop j).take (n-2));rw[List.length_take,List.length_drop,Nat.min_eq_left (by omega)] at this;exact this
 ·have:=cE (vs.take (n-2));rw[List.length_take,Nat.min_eq_left (by omega)] at this;exact this
 ·have hg:∀i,((us.drop j).getD i 0#32)=us.getD (j+i) 0#32:=by
   intro i;rw[List.getD_eq_getElem?_getD,List.getD_eq_getElem?_getD,List.getElem?_drop]
  have e1:=aF (us.drop j) n;have e2:=aF (us.drop j) (n-1);have e3:=aF (us.drop j) (n-2);rw[hg] at e1 e2 e3;have f1:n-1+1=n:=by omega
  have f2:n-2+1=n-1:=by omega
  have f3:j+(n-1)=j+n-1:=by omega
  have f4:j+(n-2)=j+n-2:=by omega
  rw[f1,f3] at e2;rw[f2,f4] at e3;have p1:4294967296^n=4294967296^(n-2)*4294967296*4294967296:=by rw[<-Nat.pow_succ,<-Nat.pow_succ];congr 1;omega
  have p2:4294967296^(n-1)=4294967296^(n-2)*4294967296:=by rw[<-Nat.pow_succ];congr 1;omega
  rw[e1,e2,e3,p1,p2]
  grind
 ·have e2:=aF vs (n-1);have e3:=aF vs (n-2);have f1:n-1+1=n:=by omega
  have f2:n-2+1=n-1:=by omega
  rw[f1,aL vs n (by omega)] at e2;rw[f2] at e3;have p2:4294967296^(n-1)=4294967296^(n-2)*4294967296:=by rw[<-Nat.pow_succ];congr 1;omega
  rw[e2,e3,p2]
  grind
theorem RS.limbD {w:World} {S:Nat->Prop} {A:Option Addr} {n c:Nat} {xs:List (BitVec 32)} (h:RS w S A n c xs) {k:Nat} (hk:k<n):∃b o,A=some ⟨b,o,none⟩/\w.cell? ⟨b,o+k,none⟩=some (.int .u32 ((xs.getD k 0#32).toNat:Int)):=by
 obtain⟨b,o,x,rfl,_,hx,e⟩:=h.limb_at hk;exact⟨b,o,rfl,by rw[List.getD_eq_getElem?_getD,hx];exact e⟩
theorem Ex {Su Sv:Nat->Prop} {Au Av:Option Addr} {nu cu n cv:Nat} {us vs:List (BitVec 32)} {w:World} (j:Nat) (hu:RS w Su Au nu cu us) (hv:RS w Sv Av n cv vs) (hn:2<=n) (hj:j+n<nu) (hnu:nu<=2147483648) (hh:2147483648<=(vs.getD (n-1) 0#32).toNat) (hlt:val ((us.drop j).take (n+1))<val vs*4294967296) : Calls Tryz.prog 256 #[.slice Au nu cu,.slice Av n cv,.int .i64 j] w (FA w (val ((us.drop j).take (n+1))) (val vs)):=by
 obtain⟨P,ul,vl,hP,FP,Bs,eU,eV⟩:=TF (us:=us) (vs:=vs) (j:=j) hn hv.len (by rw[hu.len];exact hj);obtain⟨bu,ou,rfl,c1⟩:=hu.limbD (k:=j+n) hj;obtain⟨WU,Ui,iy,c2⟩:=hu.limbD (k:=j+n-1) (by omega);obtain⟨rfl,rfl⟩:bu=WU/\ou=Ui:=by injection iy with iy;injection iy with h1 h2;exact⟨h1,h2⟩
 obtain⟨WU,Ui,iy,c3⟩:=hu.limbD (k:=j+n-2) (by omega);obtain⟨rfl,rfl⟩:bu=WU/\ou=Ui:=by injection iy with iy;injection iy with h1 h2;exact⟨h1,h2⟩
 obtain⟨bv,ov,rfl,c4⟩:=hv.limbD (k:=n-1) (by omega);obtain⟨bv',ov',iy,c5⟩:=hv.limbD (k:=n-2) (by omega);obtain⟨rfl,rfl⟩:bv=bv'/\ov=ov':=by injection iy with iy;injection iy with h1 h2;exact⟨h1,h2⟩
 have l1:=bV (l:=us) (j+n);have l2:=bV (l:=us) (j+n-1);have l3:=bV (l:=us) (j+n-2);have l4:=bV (l:=vs) (n-1);have l5:=bV (l:=vs) (n-2);obtain⟨U,hU⟩:∃U,val ((us.drop j).take (n+1))=U:=⟨_,rfl⟩;obtain⟨V,hV⟩:∃V,val vs=V:=⟨_,rfl⟩;obtain⟨u0,h0⟩:∃u0,(us.getD (j+n) 0#32).toNat=u0:=⟨_,rfl⟩;obtain⟨u1,h1⟩:∃u1,(us.getD (j+n-1) 0#32).toNat=u1:=⟨_,rfl⟩;obtain⟨u2,h2⟩:∃u2,(us.getD (j+n-2) 0#32).toNat=u2:=⟨_,rfl⟩;obtain⟨h,h3⟩:∃h,(vs.getD (n-1) 0#32).toNat=h:=⟨_,rfl⟩;obtain⟨v2,h4⟩:∃v2,(vs.getD (n-2) 0#32).toNat=v2:=⟨_,rfl⟩;rw[hU,hV] at hlt;rw[hU,h0,h1,h2] at eU;rw[hV,h3,h4] at eV;rw[h0] at c1 l1;rw[h1] at c2 l2;rw[h2] at c3 l3;rw[h3] at c4 l4 hh;rw[h4] at c5 l5;rw[hU,hV];obtain⟨T,hT⟩:∃T,u0*4294967296+u1=T:=⟨_,rfl⟩;have jG:=Li u0 u1 l1 l2;rw[hT] at jG eU;have hTb:T<18446744073709551616:=by omega
 have ZN:=AL eU eV Bs l5 hlt;have wy:=uf eU FP l3 eV (by omega);have hcu:=hu.cap;have Zz:=hv.cap;have EU:=zH eU;have EV:=zH eV;have F4:=zH ZN;have RF:=zH FP;have Xx:=zH Bs;obtain⟨a,ha⟩:∃a,j+n=a:=⟨_,rfl⟩;obtain⟨b,hb⟩:∃b,j+n-1=b:=⟨_,rfl⟩;obtain⟨c,hc⟩:∃c,j+n-2=c:=⟨_,rfl⟩;obtain⟨d,hd⟩:∃d,n-1=d:=⟨_,rfl⟩;obtain⟨f,hf⟩:∃f,n-2=f:=⟨_,rfl⟩;rw[ha] at c1;rw[hb] at c2;rw[hc] at c3;rw[hd] at c4;rw[hf] at c5;have i1:(j:Int)+(n:Int)=(a:Int):=by omega
 have i2:(a:Int)-1=(b:Int):=by omega
 have i3:(a:Int)-2=(c:Int):=by omega
 have i4:(n:Int)-1=(d:Int):=by omega
 have i5:(n:Int)-2=(f:Int):=by omega
 have k1:(a:Int)<(nu:Int):=by omega
 have k2:(b:Int)<(nu:Int):=by omega
 have k3:(c:Int)<(nu:Int):=by omega
 have k4:(d:Int)<(n:Int):=by omega
 have k5:(f:Int)<(n:Int):=by omega
 have wa:IntKind.i64.wrap (a:Int)=(a:Int):=by rw[IntKind.wrap_i64];omega
 have wb:IntKind.i64.wrap (b:Int)=(b:Int):=by rw[IntKind.wrap_i64];omega
 have wc:IntKind.i64.wrap (c:Int)=(c:Int):=by rw[IntKind.wrap_i64];omega
 have w0:IntKind.u64.wrap (u0:Int)=(u0:Int):=by rw[IntKind.wrap_u64];omega
 have w1:IntKind.u64.wrap (u1:Int)=(u1:Int):=by rw[IntKind.wrap_u64];omega
 have w2:IntKind.u64.wrap (u2:Int)=(u2:Int):=by rw[IntKind.wrap_u64];omega
 have w3:IntKind.u64.wrap (h:Int)=(h:Int):=by rw[IntKind.wrap_u64];omega
 have w4:IntKind.u64.wrap (v2:Int)=(v2:Int):=by rw[IntKind.wrap_u64];omega
 have w5:IntKind.u64.wrap ((u0:Int)*4294967296)=(u0:Int)*4294967296:=by rw[IntKind.wrap_u64];omega
 have Za:((h:Int)==0)=false:=by rw[beq_eq_false_iff_ne];omega
 obtain⟨q0,D2⟩:∃q,T/h=q:=⟨_,rfl⟩;obtain⟨r0,Is⟩:∃r,T%h=r:=⟨_,rfl⟩;have uV:q0*h+r0=T:=by rw[<-D2,<-Is,Nat.mul_comm];exact Nat.div_add_mod T h
 have Qf:r0<4294967296:=by have:=Nat.mod_lt T (show 0<h by omega);omega
 have Qj:q0<18446744073709551616:=by have:=Nat.div_le_self T h;omega
 rw[D2] at wy;have SE:(T:Int).tdiv (h:Int)=(q0:Int):=by rw[<-D2];rfl
 have FT:(T:Int).tmod (h:Int)=(r0:Int):=by rw[<-Is];rfl
 have Qh:(T:Int)/(h:Int)=(q0:Int):=by rw[<-D2];rfl
 have Qa:(T:Int)%(h:Int)=(r0:Int):=by rw[<-Is];rfl
 have wq:IntKind.u64.wrap (q0:Int)=(q0:Int):=by rw[IntKind.wrap_u64];omega
 have wr0:IntKind.u64.wrap (r0:Int)=(r0:Int):=by rw[IntKind.wrap_u64];omega
 have HFI:=zH wy;have XM:=zH uV;have HUB:Hid (U/V<4294967296):=zH (Nat.div_lt_of_lt_mul hlt);clear eU eV ZN FP Bs wy ha hb hc hd hf h0 h1 h2 h3 h4 hU hV hT hlt hu hv hP D2 Is uV;go_enter Tryz.func256,Tryz.ntmps256;go_wp2_with fail;go_quiet (fail)
 go_wp2_with fail;go_quiet (fail)
 go_wp2_with fail;go_loopw [10,11] (λqv rv wr=>∃(q r m:Nat),qv=.int .u64 q/\rv=.int .u64 r/\q*h+r=T/\U/V<=q/\r<4294967296/\q<18446744073709551616/\wr=w.drewN m)
  (λqv _ _=>(intOf qv).toNat)
 case atStart=>exact⟨q0,r0,_,rfl,rfl,XM.out,HFI.out,Qf,Qj,World.drewN_drewN _ _ _⟩
 case round=>
  clear wq wr0 SE Qh FT Qa jG XM HFI Qf Qj;obtain⟨q,r,m,rfl,rfl,uV,mz,hr,hq,rfl⟩:=hrel;have XM:=zH uV;have Tr:=zH mz;have wh:IntKind.u64.wrap ((r:Int)+(h:Int))=(r:Int)+(h:Int):=by rw[IntKind.wrap_u64];omega
  by_cases hB:4294967296<=q
  ·have hB':(4294967296:Int)<=(q:Int):=by omega
   have Sc:IntKind.u64.wrap ((q:Int)-1)=(q:Int)-1:=by rw[IntKind.wrap_u64];omega
   have D1:1<=q:=by omega
   have wn:(q-1)*h+(r+h)=T:=by
    have e:q=q-1+1:=by omega
    rw[e,Nat.add_mul] at uV;omega
   have ww:U/V<=q-1:=by have:=HUB.out;omega
   have sK:=zH wn;have xb:=zH ww;obtain⟨q',yC⟩:∃x,q-1=x:=⟨_,rfl⟩;obtain⟨r',fa⟩:∃x,r+h=x:=⟨_,rfl⟩;rw[yC,fa] at sK;rw[yC] at xb;have iq:(q:Int)-1=(q':Int):=by omega
   have ir:(r:Int)+(h:Int)=(r':Int):=by omega
   rw[iq] at Sc;rw[ir] at wh;by_cases hR:4294967296<=r'
   ·have Wj:(4294967296:Int)<=(r':Int):=by omega
    have AD:=nU (u2:=u2) sK.out F4.out hR l5;have FY:=kd EU.out EV.out Xx.out (by omega) sK.out AD.1 AD.2;have cM:Hid (U/V<=q'/\q'<=U/V+1/\q'<4294967296):=zH ⟨xb.out,FY,AD.1⟩;clear uV mz wn ww AD FY yC fa hR hB;go_wp2_with fail;go_quiet (fail)
    go_wp2_with fail;go_ret
    exact⟨q',_,rfl,cM.out.1,cM.out.2.1,cM.out.2.2,rfl⟩
   ·have Wj:(r':Int)<(4294967296:Int):=by omega
    have Wi:¬((4294967296:Int)<=(r':Int)):=by omega
    have hR3:decide ((4294967296:Int)<=(r':Int))=false:=decide_eq_false Wi;have AA:r'<4294967296:=by omega
    have sT:q'<18446744073709551616:=by omega
    have SE:q'<q:=by omega
    clear uV mz wn ww hB yC fa hR;go_wp2_with fail;go_quiet (fail)
    go_wp2_with fail;go_roundw
    case rel=>exact⟨q',r',_,rfl,rfl,sK.out,xb.out,AA,sT,rfl⟩
    case measure=>simp[intOf];omega
  ·have hB':(q:Int)<(4294967296:Int):=by omega
   have hB2:¬((4294967296:Int)<=(q:Int)):=by omega
   have hB3:decide ((4294967296:Int)<=(q:Int))=false:=decide_eq_false hB2;obtain⟨p,hp⟩:∃p,q*v2=p:=⟨_,rfl⟩;obtain⟨s,hs⟩:∃s,r*4294967296+u2=s:=⟨_,rfl⟩;have AC:p<=4294967295*4294967295:=by rw[<-hp];exact Nat.mul_le_mul (by omega) (by omega)
   have ip:(q:Int)*(v2:Int)=(p:Int):=by rw[<-hp];omega
   have wp':IntKind.u64.wrap (p:Int)=(p:Int):=by rw[IntKind.wrap_u64];omega
   have wr':IntKind.u64.wrap ((r:Int)*4294967296)=(r:Int)*4294967296:=by rw[IntKind.wrap_u64];omega
   have Vj:=Li r u2 hr l3;rw[hs] at Vj;by_cases Qk:s<p
   ·have hbig:=AM EU.out RF.out EV.out uV (by rw[hs,hp];exact Qk);have Ve:(s:Int)<(p:Int):=by omega
    have D1:1<=q:=Nat.lt_of_le_of_lt (Nat.zero_le _) hbig;have Sc:IntKind.u64.wrap ((q:Int)-1)=(q:Int)-1:=by rw[IntKind.wrap_u64];omega
    have wn:(q-1)*h+(r+h)=T:=by
     have e:q=q-1+1:=by omega
     rw[e,Nat.add_mul] at uV;omega
    have ww:U/V<=q-1:=Nat.le_sub_one_of_lt hbig;have sK:=zH wn;have xb:=zH ww;obtain⟨q',yC⟩:∃x,q-1=x:=⟨_,rfl⟩;obtain⟨r',fa⟩:∃x,r+h=x:=⟨_,rfl⟩;rw[yC,fa] at sK;rw[yC] at xb;have iq:(q:Int)-1=(q':Int):=by omega
    have ir:(r:Int)+(h:Int)=(r':Int):=by omega
    rw[iq] at Sc;rw[ir] at wh;by_cases hR:4294967296<=r'
    ·have Wj:(4294967296:Int)<=(r':Int):=by omega
     have AD:=nU (u2:=u2) sK.out F4.out hR l5;have FY:=kd EU.out EV.out Xx.out (by omega) sK.out AD.1 AD.2;have cM:Hid (U/V<=q'/\q'<=U/V+1/\q'<4294967296):=zH ⟨xb.out,FY,AD.1⟩;clear uV mz wn ww AD FY yC fa hR hB hp hs Qk AC hbig;go_wp2_with fail;go_quiet (fail)
     go_wp2_with fail;go_ret
     exact⟨q',_,rfl,cM.out.1,cM.out.2.1,cM.out.2.2,rfl⟩
    ·have Wj:(r':Int)<(4294967296:Int):=by omega
     have Wi:¬((4294967296:Int)<=(r':Int)):=by omega
     have hR3:decide ((4294967296:Int)<=(r':Int))=false:=decide_eq_false Wi;have AA:r'<4294967296:=by omega
     have sT:q'<18446744073709551616:=by omega
     have SE:q'<q:=by omega
     clear uV mz wn ww hB yC fa hR hp hs Qk AC hbig;go_wp2_with fail;go_quiet (fail)
     go_wp2_with fail;go_roundw
     case rel=>exact⟨q',r',_,rfl,rfl,sK.out,xb.out,AA,sT,rfl⟩
     case measure=>simp[intOf];omega
   ·have Ve:(p:Int)<=(s:Int):=by omega
    have Vd:¬((s:Int)<(p:Int)):=by omega
    have abI:decide ((s:Int)<(p:Int))=false:=decide_eq_false Vd;have abH:decide (s<p)=false:=decide_eq_false Qk;have FY:=kd EU.out EV.out Xx.out (by omega) uV (by omega) (by rw[hs,hp];omega);have cM:Hid (U/V<=q/\q<=U/V+1/\q<4294967296):=zH ⟨mz,FY,by omega⟩;clear uV mz FY hB hp hs Qk AC;go_wp2_with fail;go_quiet (fail)
    go_wp2_with fail;go_ret
    exact⟨q,_,rfl,cM.out.1,cM.out.2.1,cM.out.2.2,World.drewN_drewN _ _ _⟩
def Jt (w:World) (bs gu nu cu U V m:Nat) (e:Ending) (w':World):Prop:=
 ∃(s:Value) (qs rs:List (BitVec 32)),e=.returned s/\Own w' ba w.heap.size 138 s qs/\val qs=U/V/\qs.length=m/\
  Own w' ba bs 138 (.slice (some ⟨gu,0,none⟩) nu cu) rs/\val rs=U%V/\rs.length=nu/\Below bs w w'
theorem Jl (p:Nat) (hp:p<18446744073709551616):bits .and .u64 (p:Int) 4294967295=((p%4294967296:Nat):Int):=by
 have h:=bits_and_u64_nat p 4294967295 hp (by omega);have e:p&&& 4294967295=p%4294967296:=Nat.and_two_pow_sub_one_eq_mod p 32;rw[e] at h;exact h
theorem np {n V:Nat} {us ts xs qs:List (BitVec 32)} {j q:Nat} {z:BitVec 32} (hj:j+(n+1)<=ts.length) (hV:V<4294967296^n) (Iv:val (ts.drop (j+1))<V) (hlen:xs.length=ts.length) (h1:xs.take j=ts.take j) (h2:xs.drop (j+(n+1))=ts.drop (j+(n+1))) (hw:val ((xs.drop j).take (n+1))=val ((ts.drop j).take (n+1))%V) (hq:q=val ((ts.drop j).take (n+1))/V) (hz:z.toNat=q) (hjq:j<qs.length) (dV:val us=val ts+V*(4294967296^(j+1)*val (qs.drop (j+1)))):val us=val xs+V*(4294967296^j*val ((qs.set j z).drop j))/\val (xs.drop j)<V:=by
 obtain⟨_,h3,h4⟩:=vV hj hV Iv hlen h1 h2 hw;refine⟨?_,h3⟩;rw[jL z hjq,val,hz,dV,h4,<-hq,Nat.pow_succ]
 grind
theorem Hj {S:Nat->Prop} {Av:Option Addr} {bs gu nu cu n cv:Nat} {us vs:List (BitVec 32)} {w:World} (hu:Own w ba bs 138 (.slice (some ⟨gu,0,none⟩) nu cu) us) (hv:RS w S Av n cv vs) (hS:∀b,S b->b<w.heap.size/\b≠gu) (hn:2<=n) (hnu:n<nu) (hmax:nu<=1073741825) (hh:2147483648<=(vs.getD (n-1) 0#32).toNat) (L8:val (us.drop (nu-n))<val vs) : Calls Tryz.prog 237 #[.slice (some ⟨gu,0,none⟩) nu cu,.slice Av n cv] w (Jt w bs gu nu cu (val us) (val vs) (nu-n)):=by
 obtain⟨i0,hi,hz0,hz1,hz2⟩:=info_parts Tryz.u32Info;have HI:=zH hi;have sX:=zH hz0;have kP:=zH hz1;have oF:=zH hz2;have HU:=zH hu;have HV:=zH hv;have RF:=zH hu.rsAll.len;have RG:=zH hS;have HH:=zH hh;have Iz:bs<=gu/\gu<w.heap.size:=hu.lt gu rfl;obtain⟨m,hm⟩:∃m,nu-n=m:=⟨_,rfl⟩;rw[hm] at L8;rw[hm];have HT:=zH L8;have AF:(nu:Int)-(n:Int)=(m:Int):=by omega
 have hmb:m<=1073741825:=by omega
 have hm0:1<=m:=by omega
 have wm:IntKind.i64.wrap (m:Int)=(m:Int):=by rw[IntKind.wrap_i64];omega
 obtain⟨V,hV⟩:∃V,val vs=V:=⟨_,rfl⟩;rw[hV] at HT;rw[hV];have Nx:=zH hV;clear hu hv hh L8 hi hz0 hz1 hz2 hV hS;go_enter Tryz.func237,Tryz.ntmps237;go_wp2_with (refine bW (α:=BitVec 32) _ rfl _ _ _ rfl rfl w.heap.size i0 (.int .u32 0) Tryz.underlying26 HI.out sX.out kP.out rfl .i64 .i64 (m:Int) (m:Int) m rfl rfl rfl rfl (by rw[oF.out];omega) (by unfold maxLen;omega) (Nat.le_refl _) 0#32 ba (λ_ h=>h.elim) (λ_ _=>rfl) ?_; intro w1 kh hg1; have eH:=zH kh; have dc:=zH ((Below.refl w.heap.size w).grown hg1 (Nat.le_refl _) (λk hk=>by cases hk)); clear kh hg1);obtain⟨g,hg⟩:∃g,w.heap.size=g:=⟨_,rfl⟩;rw[hg] at eH Iz;have HG:=zH hg;have fM:Hid (Below bs w w1):=zH (dc.out.mono (by rw[hg];omega));have HU1:=zH (HU.out.below dc.out);have Jw:Hid (af S w w1):=zH ((af.of_below dc.out).sub λb hb=>(RG.out b hb).1);clear hg;go_loopw [7] (λjv wr=>∃(k:Nat) (z:Int) (ts qs:List (BitVec 32)),k<=m/\jv=.int .i64 z/\z+1=k/\ts.length=nu/\qs.length=m/\val us=val ts+V*(4294967296^k*val (qs.drop k))/\val (ts.drop k)<V/\ Own wr ba bs 138 (.slice (some ⟨gu,0,none⟩) nu cu) ts/\Own wr ba g 138 (.slice (some ⟨g,0,none⟩) m m) qs/\af S w wr/\Below bs w wr)
  (λjv _=>(intOf jv+1).toNat)
 case atStart=>
  exact⟨m,(m:Int)-1,us,List.replicate m 0#32,Nat.le_refl _,rfl,by omega,RF.out,by simp,by rw[List.drop_eq_nil_of_le (by simp)];simp[val],HT.out,HU1.out,eH.out,Jw.out,fM.out⟩
 case round=>
  clear eH dc fM HU1 Jw HU;obtain⟨k,z,ts,qs,hk,rfl,hz,Az,sT,dV,Iv,AE,ua,aV,ka⟩:=hrel;have zf:=zH Az;have zh:=zH sT;have fL:=zH dV;have FF:=zH Iv;have uR:=zH AE;have wZ:=zH ua;have HK:=zH aV;have HB:=zH ka;have Ny:=zH (HV.out.keep (λb hb=>hb) aV);clear Az sT dV Iv AE ua aV ka;rcases k with _|j
  ·obtain rfl:z= -1:=by omega
   have cM:val qs=val us/V/\val ts=val us%V:=by
    have h1:=fL.out;have h2:=FF.out;rw[List.drop_zero] at h1 h2;rw[Nat.pow_zero,Nat.one_mul] at h1;exact qi (by rw[Nat.mul_comm,h1];omega) h2
   have HF:=zH cM;clear cM hz;go_wp2_with fail;go_ret
   exact⟨_,qs,ts,rfl,by rw[HG.out];exact wZ.out,HF.out.1,zh.out,uR.out,HF.out.2,zf.out,HB.out⟩
  ·obtain rfl:z=j:=by omega
   have Qw:j+(n+1)<=nu:=by omega
   have Ay:=KD (n:=n) (by rw[zf.out];exact Qw) FF.out;have HWL:=zH Ay;clear Ay hz;go_wp2_with fail;refine(Ex j uR.out.rsAll Ny.out hn (by omega) (by omega) HH.out (by rw[Nx.out];exact HWL.out)).mono ?_;rintro e w' ⟨q,mm,rfl,mz,mg,Zi,rfl⟩;rw[Nx.out] at mz mg;have Tr:=zH mz;have HHI:=zH mg;have FE:=zH (uR.out.drewN mm);have NA:=zH (wZ.out.drewN mm);have Ky:Hid (af S w (wr.drewN mm)):=zH HK.out;have fM:=zH (below_drewN HB.out mm);obtain⟨wd,t7⟩:∃x,wr.drewN mm=x:=⟨_,rfl⟩;rw[t7] at FE NA Ky fM;rw[t7];clear mz mg t7 uR wZ HK HB Ny;obtain⟨N,hN⟩:∃N,n+1=N:=⟨_,rfl⟩;have hN1:(n:Int)+1=(N:Int):=by omega
   have wN:IntKind.i64.wrap (N:Int)=(N:Int):=by rw[IntKind.wrap_i64];omega
   go_wp2_with fail;go_loopw [9,10,38] (λbv cv iv wr=>∃(b c i:Nat) (xs:List (BitVec 32)),i<=N/\iv=.int .i64 i/\bv=.int .u64 b/\cv=.int .u64 c/\b<=1/\c<4294967296/\(n<i->c=0)/\xs.length=nu/\xs.take j=ts.take j/\xs.drop (j+i)=ts.drop (j+i)/\ val ((xs.drop j).take i)+q*val (vs.take i)=val ((ts.drop j).take i)+4294967296^i*(c+b)/\ Own wr ba bs 138 (.slice (some ⟨gu,0,none⟩) nu cu) xs/\Own wr ba g 138 (.slice (some ⟨g,0,none⟩) m m) qs/\af S w wr/\Below bs w wr)
    (λ_ _ iv _=>N-(intOf iv).toNat)
   case atStart=>exact⟨0,0,0,ts,Nat.zero_le _,rfl,rfl,rfl,Nat.zero_le _,by omega,by omega,zf.out,rfl,rfl,by simp[val],FE.out,NA.out,Ky.out,fM.out⟩
   case round=>
    clear FE NA Ky fM;obtain⟨b,c,i,xs,hi,rfl,rfl,rfl,hb,hc,ZA,jt,Y7,L1,dV,AE,ua,aV,ka⟩:=hrel;have Nv:=zH jt;have Xt:=zH Y7;have Xv:=zH L1;have Kz:=zH dV;have uR:=zH AE;have wZ:=zH ua;have HK:=zH aV;have HB:=zH ka;have HCN:=zH ZA;have Ny:Hid (RS wr S Av n cv vs):=zH (HV.out.keep (λb hb=>hb) aV);clear jt Y7 L1 dV AE ua aV ka ZA;by_cases hlt:i<N
    ·have Ed:(i:Int)<(N:Int):=by omega
     have Eb:j+i<nu:=by omega
     obtain⟨y,hy⟩:∃y,(vs.getD i 0#32).toNat=y:=⟨_,rfl⟩;obtain⟨x,hx⟩:∃x,(xs.getD (j+i) 0#32).toNat=x:=⟨_,rfl⟩;have t4:y<4294967296:=by rw[<-hy];exact(vs.getD i 0#32).isLt
     have jt:x<4294967296:=by rw[<-hx];exact(xs.getD (j+i) 0#32).isLt
     obtain⟨cI,im⟩:=uR.out.limb (k:=j+i) (by rw[Nv.out];exact Eb);rw[hx] at cI;obtain⟨p0,Md⟩:∃p,q*y=p:=⟨_,rfl⟩;have abL:p0<=4294967295*4294967295:=by rw[<-Md];exact Nat.mul_le_mul (by omega) (by omega)
     have abM:(q:Int)*(y:Int)=(p0:Int):=by rw[<-Md];exact(Int.natCast_mul _ _).symm
     obtain⟨p,hp⟩:∃p,p0+c=p:=⟨_,rfl⟩;have hpi:(p0:Int)+(c:Int)=(p:Int):=by omega
     have AC:p<18446744073709551616:=by omega
     have wp0:IntKind.u64.wrap (p0:Int)=(p0:Int):=by rw[IntKind.wrap_u64];omega
     have wp1:IntKind.u64.wrap (p:Int)=(p:Int):=by rw[IntKind.wrap_u64];omega
     obtain⟨c',Ep⟩:∃c',p/4294967296=c':=⟨_,rfl⟩;have QJ:(p:Int)/4294967296=(c':Int):=by rw[<-Ep];rfl
     have VP:c'<4294967296:=by omega
     have hand:=Jl p AC;obtain⟨pm,Vg⟩:∃z,p%4294967296=z:=⟨_,rfl⟩;rw[Vg] at hand;have abJ:pm<4294967296:=by omega
     obtain⟨s,hs⟩:∃s,4294967296+x-pm-b=s:=⟨_,rfl⟩;obtain⟨s1,jk⟩:∃s,4294967296+x=s:=⟨_,rfl⟩;obtain⟨s2,NV⟩:∃s,s1-pm=s:=⟨_,rfl⟩;have U5:(4294967296:Int)+(x:Int)=(s1:Int):=by omega
     have abD:(s1:Int)-(pm:Int)=(s2:Int):=by omega
     have hsi:(s2:Int)-(b:Int)=(s:Int):=by omega
     have ws1:IntKind.u64.wrap (s1:Int)=(s1:Int):=by rw[IntKind.wrap_u64];omega
     have ws2:IntKind.u64.wrap (s2:Int)=(s2:Int):=by rw[IntKind.wrap_u64];omega
     have ws:IntKind.u64.wrap (s:Int)=(s:Int):=by rw[IntKind.wrap_u64];omega
     have wx:IntKind.u64.wrap (x:Int)=(x:Int):=by rw[IntKind.wrap_u64];omega
     obtain⟨d,hd⟩:∃d,s/4294967296=d:=⟨_,rfl⟩;have Iq:(s:Int)/4294967296=(d:Int):=by rw[<-hd];rfl
     have N7:d<=1:=by omega
     obtain⟨b',iy⟩:∃b',1-d=b':=⟨_,rfl⟩;have SQ:(1:Int)-(d:Int)=(b':Int):=by omega
     have wb:IntKind.u64.wrap (b':Int)=(b':Int):=by rw[IntKind.wrap_u64];omega
     have pQ:=eC s;obtain⟨t,ht⟩:∃t,BitVec.ofNat 32 s=t:=⟨_,rfl⟩;have L6:=ci s;rw[ht] at pQ L6;obtain⟨k,rW⟩:∃k,j+i=k:=⟨_,rfl⟩;have hki:(i:Int)+(j:Int)=(k:Int):=by omega
     have wk:IntKind.i64.wrap (k:Int)=(k:Int):=by rw[IntKind.wrap_i64];omega
     have oV:(k:Int)<(nu:Int):=by omega
     have hw:=xl t (by rw[Nv.out];exact Eb) Xt.out Xv.out;have e1:=aF (ts.drop j) i;have e2:=aF vs i;have gX:=Ai (B:=4294967296) rfl jt (show q*y+c=p by rw[Md];exact hp) (show 4294967296+x-p%4294967296-b=s by rw[Vg];exact hs) hb Kz.out;have e3:(ts.drop j).getD i 0#32=ts.getD (j+i) 0#32:=by rw[List.getD_eq_getElem?_getD,List.getD_eq_getElem?_getD,List.getElem?_drop]
     rw[e3,<-hw.2.2.2,hx] at e1;rw[hy] at e2;rw[<-e1,<-e2,Ep,hd,iy,<-L6,<-hw.2.2.1,<-Nat.pow_succ] at gX;have QH:n<i+1->c'=0:=by
      intro h;have NT:y=0:=by
       rw[<-hy,List.getD_eq_getElem?_getD,List.getElem?_eq_none (by rw[HV.out.len];omega)];rfl
      rw[NT,Nat.mul_zero] at Md;omega
     rw[rW] at hw gX cI im;have jN:=zH hw.1;have Nw:=zH hw.2.1;have XB:=zH gX;have X4:=zH QH;have HY:=zH hy;clear hw gX QH hy hx e1 e2 e3 Md hp Ep Vg hs jk NV hd iy ht L6 rW Kz hN hm;go_wp2_with fail;refine(fS i Ny.out).mono ?_;rintro e w' ⟨rfl,rfl⟩;rw[HY.out];go_wp2_with fail;go_roundw
     case rel=>exact⟨b',c',i+1,xs.set k t,by omega,by go_num,rfl,rfl,by omega,VP,X4.out,by rw[List.length_set];exact Nv.out,jN.out,Nw.out,XB.out,uR.out.setLimb k t,wZ.out.setCell (by simp[Value.ownBlock];omega) (λ_ h=>h.elim) _,HK.out.setCell (λhb=>(RG.out _ hb).2 rfl) _,HB.out.setCell Iz.1 _⟩
     case measure=>simp[intOf];omega
    ·have Ed:i=N:=by omega
     have Mv:=HCN.out (by omega);have Ec:=Kz.out;rw[Mv] at Ec;clear Mv;rw[aL vs i (by rw[HV.out.len];omega),Nx.out] at Ec;have Ay:=cE ((xs.drop j).take i);have N3:((xs.drop j).take i).length=i:=by rw[List.length_take,List.length_drop,Nv.out];omega
     rw[N3] at Ay;have hVp:0<V:=Nat.lt_of_le_of_lt (Nat.zero_le _) FF.out;have ZM:V<4294967296^n:=by rw[<-Nx.out,<-HV.out.len];exact cE vs
     rw[Ed,<-hN] at Ec Ay;have L1:xs.drop (j+(n+1))=ts.drop (j+(n+1)):=by rw[hN,<-Ed];exact Xv.out
     obtain⟨h0,h1⟩:=Dj hVp Ay Tr.out HHI.out hb Ec;have Vx:(j:Int)<(m:Int):=by omega
     obtain⟨cI,im⟩:=wZ.out.limb (k:=j) (by rw[zh.out];omega);rw[<-HG.out] at cI im;have Qz:w.heap.size≠gu:=by have:=HG.out;omega
     have HGU:Hid (gu<w.heap.size):=zH (by rw[HG.out];exact Iz.2);rcases Nat.eq_zero_or_pos b with hb0|hb0
     ·obtain⟨hq,DU⟩:=h0 hb0;have ZG:decide (0<b)=false:=decide_eq_false (by omega);have ZF:(0<b)=False:=eq_false (by omega);have pQ:=eC q;obtain⟨zq,JZ⟩:∃z,BitVec.ofNat 32 q=z:=⟨_,rfl⟩;have ew:=ci q;rw[JZ] at pQ ew;have Bq:zq.toNat=q:=by omega
      have wt:=np (us:=us) (qs:=qs) (by rw[zf.out];exact Qw) ZM FF.out (by rw[Nv.out,zf.out]) Xt.out L1 DU hq Bq (by rw[zh.out];omega) fL.out;have FC:=zH wt;have q1:Own (wr.setCell ⟨w.heap.size,j,none⟩ (.int .u32 (zq.toNat:Int))) ba bs 138 (.slice (some ⟨gu,0,none⟩) nu cu) xs:=uR.out.setCell (by simp[Value.ownBlock];omega) (λ_ h=>h.elim) _;have q2:Own (wr.setCell ⟨w.heap.size,j,none⟩ (.int .u32 (zq.toNat:Int))) ba g 138 (.slice (some ⟨g,0,none⟩) m m) (qs.set j zq):=by rw[HG.out];exact wZ.out.setLimb j zq
      have q3:af S w (wr.setCell ⟨w.heap.size,j,none⟩ (.int .u32 (zq.toNat:Int))):=HK.out.setCell (λhb=>Nat.lt_irrefl _ (RG.out _ hb).1) _;have q4:Below bs w (wr.setCell ⟨w.heap.size,j,none⟩ (.int .u32 (zq.toNat:Int))):=HB.out.setCell (by have:=HG.out;simp;omega) _;have Q1:=zH q1;have Q2:=zH q2;have Q3:=zH q3;have Q4:=zH q4;clear wt hq DU h0 h1 Ec Ay N3 JZ ew Bq hN L1 Ed hb0 q1 q2 q3 q4;have Mm:((i:Int)<(N:Int))=False:=eq_false (by omega);go_wp2_with fail;go_roundw
      case rel=>exact⟨j,(j:Int)-1,xs,qs.set j zq,by omega,by go_num,by omega,Nv.out,by rw[List.length_set];exact zh.out,FC.out.1,FC.out.2,Q1.out,Q2.out,Q3.out,Q4.out⟩
      case measure=>simp[intOf]
     ·obtain⟨hq,DU⟩:=h1 hb0;have bp:b=1:=by omega
      obtain⟨q1,D1⟩:∃q1,q-1=q1:=⟨_,rfl⟩;have D2:1<=q:=by rw[hq];exact Nat.le_add_left _ _
      have abG:(q:Int)-1=(q1:Int):=by omega
      have Qi:q1=val ((ts.drop j).take (n+1))/V:=by rw[<-D1,hq];rfl
      have Sc:IntKind.u64.wrap (q1:Int)=(q1:Int):=by rw[IntKind.wrap_u64];omega
      have pQ:=eC q1;obtain⟨zq,JZ⟩:∃z,BitVec.ofNat 32 q1=z:=⟨_,rfl⟩;have ew:=ci q1;rw[JZ] at pQ ew;have Bq:zq.toNat=q1:=by omega
      have ZF:(0<b)=True:=eq_true (by omega);have ZG:decide (0<b)=true:=decide_eq_true (by omega);have Mm:((i:Int)<(N:Int))=False:=eq_false (by omega);obtain⟨U1,hU1⟩:∃U1,val ((xs.drop j).take (n+1))=U1:=⟨_,rfl⟩;obtain⟨RR,ZO⟩:∃U1,val ((ts.drop j).take (n+1))%V=U1:=⟨_,rfl⟩;have Bl:=zH ZO;have Tq:=zH Qi;have HZN:=zH Bq;have Xu:=zH L1;have Xw:=zH DU;have HN:=zH hN;clear h0 h1 Ec Ay N3 JZ ew Bq hN L1 Ed hb0 hq DU hU1 ZO D1 Qi bp Kz Xv;go_wp2_with fail;go_loopw [10,80] (λcv iv wr=>∃(c i:Nat) (ys:List (BitVec 32)),i<=N/\iv=.int .i64 i/\cv=.int .u64 c/\c<=1/\ys.length=nu/\ys.take j=xs.take j/\ys.drop (j+i)=xs.drop (j+i)/\ val ((ys.drop j).take i)+4294967296^i*c=val ((xs.drop j).take i)+val (vs.take i)/\ Own wr ba bs 138 (.slice (some ⟨gu,0,none⟩) nu cu) ys/\Own wr ba g 138 (.slice (some ⟨g,0,none⟩) m m) qs/\af S w wr/\Below bs w wr)
       (λ_ iv _=>N-(intOf iv).toNat)
      case atStart=>exact⟨0,0,xs,Nat.zero_le _,rfl,rfl,Nat.zero_le _,Nv.out,rfl,rfl,by simp[val],uR.out,wZ.out,HK.out,HB.out⟩
      case round=>
       clear uR wZ HK HB Ny hi hlt Mm cI im hc hb ZF ZG;obtain⟨c,i,ys,hi,rfl,rfl,hc,t4,Y1,J1,dV,AE,ua,aV,ka⟩:=hrel;have Oo:=zH t4;have HYT:=zH Y1;have Tl:=zH J1;have Kz:=zH dV;have uR:=zH AE;have wZ:=zH ua;have HK:=zH aV;have HB:=zH ka;have Ny:Hid (RS wr S Av n cv vs):=zH (HV.out.keep (λb hb=>hb) aV);clear t4 Y1 J1 dV AE ua aV ka;by_cases hlt:i<N
       ·have Ed:(i:Int)<(N:Int):=by omega
        have Eb:j+i<nu:=by have:=HN.out;omega
        obtain⟨y,hy⟩:∃y,(vs.getD i 0#32).toNat=y:=⟨_,rfl⟩;obtain⟨x,hx⟩:∃x,(ys.getD (j+i) 0#32).toNat=x:=⟨_,rfl⟩;have t4:y<4294967296:=by rw[<-hy];exact(vs.getD i 0#32).isLt
        have jt:x<4294967296:=by rw[<-hx];exact(ys.getD (j+i) 0#32).isLt
        obtain⟨cI,im⟩:=uR.out.limb (k:=j+i) (by rw[Oo.out];exact Eb);rw[hx] at cI;obtain⟨s,hs⟩:∃s,x+y+c=s:=⟨_,rfl⟩;obtain⟨s1,jk⟩:∃s,x+y=s:=⟨_,rfl⟩;have U5:(x:Int)+(y:Int)=(s1:Int):=by omega
        have hsi:(s1:Int)+(c:Int)=(s:Int):=by omega
        have ws1:IntKind.u64.wrap (s1:Int)=(s1:Int):=by rw[IntKind.wrap_u64];omega
        have ws:IntKind.u64.wrap (s:Int)=(s:Int):=by rw[IntKind.wrap_u64];omega
        have wx:IntKind.u64.wrap (x:Int)=(x:Int):=by rw[IntKind.wrap_u64];omega
        obtain⟨d,hd⟩:∃d,s/4294967296=d:=⟨_,rfl⟩;have Iq:(s:Int)/4294967296=(d:Int):=by rw[<-hd];rfl
        have N7:d<=1:=by omega
        have UZ:=eC s;obtain⟨t,ht⟩:∃t,BitVec.ofNat 32 s=t:=⟨_,rfl⟩;have L6:=ci s;rw[ht] at UZ L6;obtain⟨k,rW⟩:∃k,j+i=k:=⟨_,rfl⟩;have hki:(i:Int)+(j:Int)=(k:Int):=by omega
        have wk:IntKind.i64.wrap (k:Int)=(k:Int):=by rw[IntKind.wrap_i64];omega
        have oV:(k:Int)<(nu:Int):=by omega
        have hw:=xl t (by rw[Oo.out];exact Eb) HYT.out Tl.out;have e1:=aF (xs.drop j) i;have e2:=aF vs i;have gX:=uK hs Kz.out;have e3:(xs.drop j).getD i 0#32=xs.getD (j+i) 0#32:=by rw[List.getD_eq_getElem?_getD,List.getD_eq_getElem?_getD,List.getElem?_drop]
        rw[e3,<-hw.2.2.2,hx] at e1;rw[hy] at e2;rw[<-e1,<-e2,hd,<-L6,<-hw.2.2.1,<-Nat.pow_succ] at gX;rw[rW] at hw gX cI im;have jN:=zH hw.1;have Nw:=zH hw.2.1;have XB:=zH gX;have RU:Hid (∀z,Calls Tryz.prog 257 #[.slice Av n cv,.int .i64 i] (wr.drewN z) (uM (wr.drewN z) (.int .u64 (y:Int)))):=zH λz=>by
         rw[<-hy];exact fS i (Ny.out.drewN z)
        clear hw gX hy hx e1 e2 e3 hs jk hd ht L6 rW Kz hm pQ;go_wp2_with fail;go_quiet ((go_at_call 257;(with_reducible refine(RU.out _).mono ?_);rintro e w' ⟨rfl,rfl⟩;exact⟨rfl,_,rfl⟩))
        go_wp2_with fail;go_roundw
        case rel=>exact⟨d,i+1,ys.set k t,by omega,by go_num,rfl,N7,by rw[List.length_set];exact Oo.out,jN.out,Nw.out,XB.out,(uR.out.drewN _).setLimb k t,(wZ.out.drewN _).setCell (by simp[Value.ownBlock];omega) (λ_ h=>h.elim) _,(HK.out.drewN _).setCell (λhb=>(RG.out _ hb).2 rfl) _,(below_drewN HB.out _).setCell Iz.1 _⟩
        case measure=>simp[intOf];omega
       ·have Ed:i=n+1:=by have:=HN.out;omega
        have Ec:=Kz.out;have Ay:=cE ((ys.drop j).take i);have N3:((ys.drop j).take i).length=i:=by rw[List.length_take,List.length_drop,Oo.out];omega
        rw[N3] at Ay;rw[aL vs i (by rw[HV.out.len];omega),Nx.out] at Ec;rw[Ed] at Ec Ay;have hR:=uJ Ay Ec Xw.out hc;have J1:ys.drop (j+(n+1))=ts.drop (j+(n+1)):=by rw[<-Ed,Tl.out,Ed];exact Xu.out
        have wt:=np (us:=us) (qs:=qs) (by rw[zf.out];exact Qw) ZM FF.out (by rw[Oo.out,zf.out]) (HYT.out.trans Xt.out) J1 hR Tq.out HZN.out (by rw[zh.out];omega) fL.out;have FC:=zH wt;obtain⟨cI,im⟩:=wZ.out.limb (k:=j) (by rw[zh.out];omega);rw[<-HG.out] at cI im;have Sp:Own (wr.setCell ⟨w.heap.size,j,none⟩ (.int .u32 (zq.toNat:Int))) ba bs 138 (.slice (some ⟨gu,0,none⟩) nu cu) ys:=uR.out.setCell (by simp[Value.ownBlock];omega) (λ_ h=>h.elim) _;have q2:Own (wr.setCell ⟨w.heap.size,j,none⟩ (.int .u32 (zq.toNat:Int))) ba g 138 (.slice (some ⟨g,0,none⟩) m m) (qs.set j zq):=by rw[HG.out];exact wZ.out.setLimb j zq
        have q3:af S w (wr.setCell ⟨w.heap.size,j,none⟩ (.int .u32 (zq.toNat:Int))):=HK.out.setCell (λhb=>Nat.lt_irrefl _ (RG.out _ hb).1) _;have q4:Below bs w (wr.setCell ⟨w.heap.size,j,none⟩ (.int .u32 (zq.toNat:Int))):=HB.out.setCell (by have:=HG.out;simp;omega) _;have Q1:=zH Sp;have Q2:=zH q2;have Q3:=zH q3;have Q4:=zH q4;have Mm:((i:Int)<(N:Int))=False:=eq_false (by omega);clear wt hR J1 Ec Ay N3 Ed Sp q2 q3 q4 hlt;go_wp2_with fail;go_roundw
        case rel=>exact⟨j,(j:Int)-1,ys,qs.set j zq,by omega,by go_num,by omega,Oo.out,by rw[List.length_set];exact zh.out,FC.out.1,FC.out.2,Q1.out,Q2.out,Q3.out,Q4.out⟩
        case measure=>simp[intOf]
end Go.Proofs.YtichkplomldgiaaGreatDoor
