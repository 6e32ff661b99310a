/- NatV Nat10 -/
import Derived.Test.YtdbpbfglhbiadaaGreatDoorF02
import Derived.Lib.BitFns
import Derived.Test.YtdbpbfglhbiadaaGreatDoorF06
import Derived.Test.YtdbpbfglhbiadaaGreatDoorF04
set_option maxHeartbeats 8000000
set_option maxRecDepth 100000
namespace Go.Proofs.YtdbpbfglhbiadaaGreatDoor
open Go.RowKit
theorem ly:∀(f x:Nat),x<2^f->x<2^Lib.bitLenAux f x/\Lib.bitLenAux f x<=f/\(0<x->2^(Lib.bitLenAux f x)<=2*x/\0<Lib.bitLenAux f x)
 | 0,x,h=>by
  have:x=0:=by simpa using h
  subst this;simp[Lib.bitLenAux]
 | f+1,x,h=>by
  unfold Lib.bitLenAux;split
  ·rename_i h0;subst h0;simp
  ·rename_i h0;obtain⟨h1,h2,h3⟩:=ly f (x/2) (by rw[Nat.pow_succ] at h;omega);obtain⟨k,hk⟩:∃k,Lib.bitLenAux f (x/2)=k:=⟨_,rfl⟩;rw[hk] at h1 h2 h3 ⊢;have e:2^(1+k)=2*2^k:=by rw[Nat.add_comm,Nat.pow_succ']
   refine⟨by rw[e];omega,by omega,λ_=>⟨?_,by omega⟩⟩;rw[e];rcases Nat.eq_zero_or_pos (x/2) with hz|hz
   ·have:k=0:=by
     have hx:x/2=0:=hz;rw[hx] at hk;cases f with
     | zero=>simpa[Lib.bitLenAux] using hk.symm
     | succ f=>simpa[Lib.bitLenAux] using hk.symm
    subst this;omega
   ·have:=(h3 hz).1;omega
theorem bitLen_le {x k:Nat} (hx:x<2^k) (hk:k<=64):Lib.bitLen x<=k:=by
 obtain⟨h1,h2,h3⟩:=ly 64 x (Nat.lt_of_lt_of_le hx (Nat.pow_le_pow_right (by omega) hk));unfold Lib.bitLen;rcases Nat.lt_or_ge k (Lib.bitLenAux 64 x) with hc|hc
 ·exfalso
  rcases Nat.eq_zero_or_pos x with h0|h0
  ·subst h0;simp[Lib.bitLenAux] at hc
  ·have h4:=(h3 h0).1;have h5:2^(k+1)<=2^Lib.bitLenAux 64 x:=Nat.pow_le_pow_right (by omega) hc;rw[Nat.pow_succ] at h5;omega
 ·exact hc
theorem Gd {t:Nat} (h0:0<t) (h:t<4294967296):Lib.bitLen t<=32/\0<Lib.bitLen t/\2147483648<=t*2^(32-Lib.bitLen t)/\t*2^(32-Lib.bitLen t)<4294967296:=by
 have wn:Lib.bitLen t<=32:=bitLen_le (by simpa using h) (by omega);obtain⟨h1,h2,h3⟩:=ly 64 t (by omega);have h4:=h3 h0;change t<2^Lib.bitLen t at h1
 change 2^Lib.bitLen t<=2*t/\0<Lib.bitLen t at h4
 obtain⟨k,hk⟩:∃k,Lib.bitLen t=k:=⟨_,rfl⟩;rw[hk] at wn h1 h4 ⊢;refine⟨wn,h4.2,?_,?_⟩
 ·have e:2^k*2^(32-k)=4294967296:=by rw[<-Nat.pow_add,show k+(32-k)=32 by omega]
  have:=Nat.mul_le_mul_right (2^(32-k)) h4.1;rw[e,Nat.mul_assoc] at this;omega
 ·have e:2^k*2^(32-k)=4294967296:=by rw[<-Nat.pow_add,show k+(32-k)=32 by omega]
  have:=Nat.mul_lt_mul_of_pos_right h1 (Nat.two_pow_pos (32-k));omega
theorem xX (us:List (BitVec 32)) (k:Nat) (hk:k<=us.length):val (us.drop k)*4294967296^k<=val us:=by
 have:=dO us k hk;rw[Nat.mul_comm] at this ⊢;rw[this,Nat.mul_comm];exact Nat.le_add_left _ _
theorem JJ {ys:List (BitVec 32)} {n t s V:Nat} (hl:ys.length=n+1) (hV:val ys=V) (ht:(ys.getD n 0#32).toNat=t) (h1:2147483648<=t*2^s) (h2:t*2^s<4294967296) : (cF (V*2^s)).length=n+1/\2147483648<=((cF (V*2^s)).getD n 0#32).toNat/\2147483648*4294967296^n<=V*2^s:=by
 have e1:=aX ys n;rw[bn ys (n+1) (by omega),hV,ht] at e1;have e2:=dL (ys.take n);rw[List.length_take,hl,Nat.min_eq_left (by omega)] at e2;have hp:=Nat.two_pow_pos s;have lR:2147483648*4294967296^n<=V*2^s:=by
  rw[e1,Nat.add_mul,Nat.mul_assoc,Nat.mul_comm 2147483648];have:=Nat.mul_le_mul_left (4294967296^n) h1;omega
 have rX:V*2^s<4294967296^(n+1):=by
  have h3:V<4294967296^n*(t+1):=by rw[Nat.mul_succ];omega
  have h4:V*2^s<4294967296^n*(t+1)*2^s:=Nat.mul_lt_mul_of_pos_right h3 hp;have h5:(t+1)*2^s<=4294967296:=by
   rcases Nat.lt_or_ge 32 s with hs|hs
   ·exfalso
    have ht0:0<t:=by
     rcases Nat.eq_zero_or_pos t with h|h
     ·subst h;omega
     ·exact h
    have:2^33<=2^s:=Nat.pow_le_pow_right (by omega) hs;have:1*2^s<=t*2^s:=Nat.mul_le_mul_right _ ht0;omega
   ·have e:4294967296=2^(32-s)*2^s:=by rw[<-Nat.pow_add,show 32-s+s=32 by omega]
    rw[e] at h2 ⊢;exact Nat.mul_le_mul_right _ (Nat.lt_of_mul_lt_mul_right h2)
  have h6:4294967296^n*(t+1)*2^s<=4294967296^n*4294967296:=by rw[Nat.mul_assoc];exact Nat.mul_le_mul_left _ h5
  rw[Nat.pow_succ];omega
 have bm:(cF (V*2^s)).length=n+1:=by
  have a1:=fl rX;have a2:=vZ (n:=V*2^s) (k:=n) (by omega);omega
 refine⟨bm,?_,lR⟩;have e3:=aX (cF (V*2^s)) n;rw[bn _ (n+1) (by omega),bi] at e3;have e4:=dL ((cF (V*2^s)).take n);rw[List.length_take,bm,Nat.min_eq_left (by omega)] at e4;obtain⟨x,hx⟩:∃x,((cF (V*2^s)).getD n 0#32).toNat=x:=⟨_,rfl⟩;rw[hx] at e3 ⊢;rcases Nat.lt_or_ge x 2147483648 with hc|hc
 ·exfalso
  have:=Nat.mul_le_mul_left (4294967296^n) (show x+1<=2147483648 from hc);rw[Nat.mul_succ] at this;have e5:4294967296^n*2147483648=2147483648*4294967296^n:=Nat.mul_comm _ _;omega
 ·exact hc
theorem SY {us xs:List (BitVec 32)} {n m s V:Nat} (PP:us.length=m+1) (nA:xs.length=m) (hU:val us=val xs*2^s) (hs:s<=31) (Kl:n<m+1) (lR:2147483648*4294967296^n<=V):val (us.drop (m+1-(n+1)))<V:=by
 have h1:=xX us (m-n) (by omega);have h2:=dL xs;rw[nA] at h2;have h3:(2:Nat)^s<=2^31:=Nat.pow_le_pow_right (by omega) hs;have h4:val xs*2^s<=val xs*2147483648:=Nat.mul_le_mul_left _ h3;have h5:val us<4294967296^m*2147483648:=by
  have:=Nat.mul_lt_mul_of_pos_right h2 (show 0<2147483648 by omega);omega
 have e:4294967296^m=4294967296^n*4294967296^(m-n):=by rw[<-Nat.pow_add,show n+(m-n)=m by omega]
 have hh:m+1-(n+1)=m-n:=by omega
 rw[hh];rcases Nat.lt_or_ge (val (us.drop (m-n))) V with hc|hc
 ·exact hc
 ·exfalso
  have h6:2147483648*4294967296^n*4294967296^(m-n)<=val (us.drop (m-n))*4294967296^(m-n):=Nat.mul_le_mul_right _ (by omega);rw[Nat.mul_assoc,<-e] at h6;omega
theorem QB (X V s:Nat):X*2^s/(V*2^s)=X/V:=Nat.mul_div_mul_right _ _ (Nat.two_pow_pos s)
theorem QA (X V s:Nat):X*2^s%(V*2^s)/2^s=X%V:=by
 rw[Nat.mul_mod_mul_right,Nat.mul_div_cancel _ (Nat.two_pow_pos s)]
def Zm (w:World) (X V:Nat) (en:Ending) (w':World):Prop:=
 ∃vq vr,en=.returned (.tuple #[vq,vr,.bool (decide (V≠0))])/\Own w' bb w.heap.size 172 vq (cF (if V=0 then 0 else X/V))/\Own w' bb w.heap.size 172 vr (cF (if V=0 then 0 else X%V))/\Below w.heap.size w w'
theorem RS.nil_of' {α:Type} [ay α] {w:World} {S:Nat->Prop} {A:Option Addr} {c:Nat} {xs:List α} (h:RS w S A 0 c xs):xs=[]:=List.length_eq_zero_iff.1 h.len
theorem Own.shape {w:World} {base:Nat} {e:TypeId} {v:Value} {xs:List (BitVec 32)} (h:Own w bb base e v xs) (hx:0<xs.length):∃g c,v=.slice (some ⟨g,0,none⟩) xs.length c/\base<=g/\g<w.heap.size:=by
 obtain⟨A,n,c,rfl,rfl⟩:=h.slice;obtain⟨g,u,rfl,hg,hg2,_⟩:=h.get1 rfl (List.getElem?_eq_getElem hx);exact⟨g,c,rfl,hg,hg2⟩
theorem DV {a b:Value} {x y:Bool} (h:x=y):Ending.returned (.tuple #[a,b,.bool x])=.returned (.tuple #[a,b,.bool y]):=by rw[h]
theorem EL {S S2:Nat->Prop} {A A2:Option Addr} {n c n2 c2:Nat} {xs ys:List (BitVec 32)} {w:World} (h:RS w S A n c xs) (h2:RS w S2 A2 n2 c2 ys) (hS:∀b,S b->b<w.heap.size) (gL:∀b,S2 b->b<w.heap.size) (hn:n<=536870912) (hn2:n2<=536870912) : Calls Tryz.prog 191 #[.slice A n c,.slice A2 n2 c2] w (Zm w (val xs) (val ys)):=by
 have H:=zH h;have H2:=zH h2;have HL:=zH h.len;have nF:=zH h2.len;have Xm:=eg xs;have Xl:=eg ys;clear h h2;obtain⟨X,hX⟩:∃X,val xs=X:=⟨_,rfl⟩;obtain⟨V,hV⟩:∃V,val ys=V:=⟨_,rfl⟩;have gO:=di xs;have jT:=di ys;rw[hX] at Xm gO;rw[hV] at Xl jT;rw[hX,hV];clear hX hV;obtain⟨la,XE⟩:∃l,cG xs=l:=⟨_,rfl⟩;obtain⟨lb,XD⟩:∃l,cG ys=l:=⟨_,rfl⟩;rw[XE] at Xm gO;rw[XD] at Xl jT;have vL:=zH Xm;have vK:=zH Xl;have Vo:=zH gO;have HLB:=zH jT;have HTA:=zH XE;have HTB:=zH XD;clear Xm Xl gO jT XE XD;go_enter Tryz.func191,Tryz.ntmps191;go_wp2_with fail;refine(et H.out).mono ?_;rintro e w' ⟨A3,n3,c3,rfl,hr,rfl⟩;have hl3:n3<=536870912:=by have:=bA xs;have:=hr.len;have:=HL.out;omega
 have HR:=zH hr;clear hr;go_wp2_with fail;refine(et H2.out).mono ?_;rintro e w' ⟨A4,n4,c4,rfl,hr,rfl⟩;have hl4:n4<=536870912:=by have:=bA ys;have:=hr.len;have:=nF.out;omega
 have nl:=zH hr;clear hr;rw[HTA.out] at HR;rw[HTB.out] at nl;have xV:=zH HR.out.len;have Db:=zH nl.out.len;clear H H2 HL nF;rcases Nat.eq_zero_or_pos n4 with h0|h0
 ·subst h0;have Yl:V=0:=by rw[<-vK.out,RS.nil_of' nl.out];rfl
  have Ho:=zH Yl;clear Yl;go_wp2_with fail
  go_ret3
  refine⟨_,_,DV (decide_eq_false (λh=>h Ho.out)).symm,?_,?_,Below.refl _ _⟩<;>rw[if_pos Ho.out,cN]<;>exact Own.nil _ _ _
 ·have Yl:V≠0:=by
   intro h;have h1:=HLB.out;rw[h,cN] at h1;have:=Db.out;rw[<-h1] at this;simp at this;omega
  have Ho:=zH Yl;have hb0:((n4:Int)==0)=false:=by rw[beq_eq_false_iff_ne];omega
  clear Yl;go_wp2_with fail;refine(EP HR.out nl.out).mono ?_;rintro e w' ⟨rfl,mm,rfl⟩;have HR':=zH (HR.out.drewN mm);have TS:=zH (nl.out.drewN mm);obtain⟨wd,Bq⟩:∃x,w.drewN mm=x:=⟨_,rfl⟩;have HB:=zH (show Below w.heap.size w wd by rw[<-Bq];exact below_drewN (Below.refl _ _) mm);have HWS:=zH (show wd.heap.size=w.heap.size by rw[<-Bq];rfl);rw[Bq] at HR' TS;rw[Bq,vL.out,vK.out];clear Bq HR nl;rcases Nat.lt_or_ge X V with hc|hc
  ·rw[nc hc];have hq:X/V=0:=Nat.div_eq_of_lt hc;have hr:X%V=X:=Nat.mod_eq_of_lt hc;have HQ:=zH hq;have CG:=zH hr;clear hq hr hc;go_wp2_with fail;refine(xO HR'.out (by omega)).mono ?_;rintro e w2 ⟨v,rfl,ho,hb⟩;rw[HWS.out] at ho;have HO:=zH ho;have ek:=zH (ak HB.out (show Below wd.heap.size wd w2 from hb));clear ho hb;go_wp2_with fail
   go_ret3
   refine⟨_,_,DV (decide_eq_true Ho.out).symm,?_,?_,ek.out⟩
   ·rw[if_neg Ho.out,HQ.out,cN];exact Own.nil _ _ _
   ·rw[if_neg Ho.out,CG.out,Vo.out];exact HO.out
  ·have hcc:decide (jD X V<0)=false:=by
    rcases Nat.lt_or_ge V X with h|h
    ·rw[nf h];rfl
    ·rw[Nat.le_antisymm h hc,pH];rfl
   have HC:=zH hc;obtain⟨cc,X7⟩:∃cc,jD X V=cc:=⟨_,rfl⟩;rw[X7] at hcc;rw[X7];have hcf:(cc<0)=False:=by simpa using hcc
   clear hc X7;by_cases h1:n4=1
   ·subst h1;obtain⟨b,o,y,rfl,_,hy,e1⟩:=TS.out.limb_at (k:=0) (by omega);rw[Nat.add_zero] at e1;have hyV:y.toNat=V:=by
     have hs:=vK.out;have hl:=Db.out
     match lb,hl,hy with
     | [z],_,hy=>
      simp at hy;subst hy;simpa[val] using hs
    have Bp:=y.isLt;have hyw:IntKind.u64.wrap (y.toNat:Int)=(y.toNat:Int):=by rw[IntKind.wrap_u64];omega
    obtain⟨yn,hyn⟩:∃yn,y.toNat=yn:=⟨_,rfl⟩;rw[hyn] at hyV Bp hyw e1;subst hyV;clear hyn hy;go_wp2_with fail;refine(wG yn HR'.out (λb hb=>by rw[HWS.out];exact hS b hb) (by omega) (by have:=Ho.out;omega) Bp).mono ?_;rintro e w2 ⟨s,qs,rfl,ho,hq,zM,hb⟩;rw[vL.out];rw[vL.out] at hq;obtain⟨As,ns,cs,rfl,Z4⟩:=ho.slice;have HO:=zH ho;have ek:=zH (ak HB.out (show Below wd.heap.size wd w2 from hb));have HQ:=zH hq;have Ev:ns<=1073741824:=by omega
    have xu:X%yn<18446744073709551616:=by have:=Nat.mod_lt X (show 0<yn by have:=Ho.out;omega);omega
    clear ho hb hq zM Z4;go_wp2_with fail;refine(jf HO.out.rsAll (by omega)).mono ?_;rintro e w3 ⟨v3,rfl,uw,jF⟩;rw[HQ.out] at uw;have CJ:=zH uw;have kR:=zH (ak ek.out jF);clear uw jF;go_wp2_with fail;refine(yz (X%yn) w3 xu).mono ?_;rintro e w4 ⟨v4,rfl,Z2,iY⟩;have CI:=zH (Z2.base_le (Nat.le_trans kR.out.size (Nat.le_refl _)));have vz:=zH (ak kR.out iY);have Ku:=zH ((CJ.out.below iY).base_le (Nat.le_trans ek.out.size (Nat.le_refl _)));clear Z2 iY;go_wp2_with fail
    go_ret3
    refine⟨_,_,DV (decide_eq_true Ho.out).symm,?_,?_,vz.out⟩
    ·rw[if_neg Ho.out];exact Ku.out
    ·rw[if_neg Ho.out];exact CI.out
   ·have bS:((n4:Int)==1)=false:=by rw[beq_eq_false_iff_ne];omega
    obtain⟨k,hk⟩:∃k,n4=k+1:=⟨n4-1,by omega⟩;subst hk;obtain⟨b,o,y,rfl,_,hy,e1⟩:=TS.out.limb_at (k:=k) (by omega);obtain⟨t,ht⟩:∃t,y.toNat=t:=⟨_,rfl⟩;have CO:t<4294967296:=by rw[<-ht];exact y.isLt
    have ht0:0<t:=by
     rcases Nat.eq_zero_or_pos t with h|h
     ·exfalso
      have jx:lb.getLast?=some y:=by rw[List.getLast?_eq_getElem?,Db.out];simpa using hy
      have ahV:cG lb=lb:=by rw[<-HLB.out,wz]
      rw[<-ahV] at jx;exact tg jx (lw.2 (by omega))
     ·exact h
    have qG:(lb.getD k 0#32).toNat=t:=by rw[List.getD_eq_getElem?_getD,hy];exact ht
    rw[ht] at e1;obtain⟨z1,z2,z3,z4⟩:=Gd ht0 CO;obtain⟨sh,PR⟩:∃sh,32-Lib.bitLen t=sh:=⟨_,rfl⟩;rw[PR] at z3 z4;have aco:32-(Lib.bitLen t:Int)=(sh:Int):=by omega
    have Xs:sh<32:=by omega
    obtain⟨w1,w2,w3⟩:=JJ (s:=sh) Db.out vK.out qG z3 z4;have Ny:(k:Int)+1-1=(k:Int):=by omega
    have Nu:k<n3:=by
     rcases Nat.lt_or_ge k n3 with h|h
     ·exact h
     ·exfalso
      have a1:=fi HC.out;rw[Vo.out,HLB.out,xV.out,Db.out] at a1;omega
    have W1:=zH w1;have W2:=zH w2;have W3:=zH w3;have akj:=zH aco;clear hy ht qG z1 z2 z3 z4 PR w1 w2 w3 aco;have HLZ:Hid (Calls Tryz.prog 223 #[.int .u32 (t:Int)] wd (ga wd (.int .i64 (sh:Int)))):=zH (by
     refine(Tryz.bits_LeadingZeros32 (t:Int) wd (by omega) (by omega)).mono λe w' h=>⟨?_,h.2.symm⟩;rw[h.1,Int.toNat_natCast,akj.out])
    go_wp2_with fail;refine HLZ.out.mono ?_;rintro e w' ⟨rfl,rfl⟩;go_wp2_with fail;refine(Gl sh HR'.out (λb hb=>by rw[HWS.out];exact hS b hb) (by omega) Xs).mono ?_;rintro e w1 ⟨vu,us,rfl,Jl,huv,PP,bS⟩;rw[vL.out] at huv;obtain⟨gu,cu,rfl,hg1,hg2⟩:=Jl.shape (by omega);rw[PP] at Jl;have CH:=zH Jl;have HUV:=zH huv;have HUL:=zH PP;have eP:=zH (ak HB.out bS);have HRW:=zH (TS.out.below bS (λb hb=>by rw[HWS.out];exact gL b hb));clear Jl huv bS;rw[PP];go_wp2_with fail;have lJ:w.heap.size<=w1.heap.size:=eP.out.size;refine(Gl sh HRW.out (λb hb=>Nat.lt_of_lt_of_le (gL b hb) lJ) (by omega) Xs).mono ?_;rintro e w2 ⟨vv,vs,rfl,Jk,hvv,zJ,bH⟩;rw[vK.out] at hvv;obtain⟨Av,nv,cv,rfl,hnv⟩:=Jk.slice;rw[zJ] at hnv;subst hnv;have HRV:=zH (Jk.rs (S':=λb=>w1.heap.size<=b/\b<w2.heap.size) (λ_ h=>h.elim) (λ_ h1 h2=>⟨h1,h2⟩));have Zt:=zH hvv;have ek:=zH (ak eP.out bH);have Pu:=zH (CH.out.below bH);have HBX:=zH bH;clear Jk hvv bH CH;go_wp2_with fail;refine(et HRV.out).mono ?_;rintro e w' ⟨A5,n5,c5,rfl,Gz,rfl⟩;rw[<-di,Zt.out] at Gz;have hn5:n5=k+1:=by rw[<-Gz.len];exact W1.out
    subst hn5;have TR:=zH Gz;clear Gz;go_wp2_with fail;refine(Rl Pu.out TR.out (λb hb=>⟨hb.2,λe=>by have:=hb.1;omega⟩) (by omega) (by omega) (by omega) (by rw[Nat.add_sub_cancel];exact W2.out)
     (SY HUL.out xV.out (by rw[HUV.out,vL.out]) (by omega) (by omega) (by rw[bi];exact W3.out))).mono ?_
    rintro e w3 ⟨sq,qs,rs,rfl,wj,Xu,zM,kj,hrv,xu,jF⟩;rw[bi,HUV.out,QB] at Xu;rw[bi,HUV.out] at hrv;obtain⟨Aq,nq,cq,rfl,UI⟩:=wj.slice;have Xw:nq<=1073741825:=by omega
    clear UI;have zU:=zH wj;have HOR:=zH kj;have HQV:=zH Xu;have akn:=zH hrv;have kR:Hid (Below w.heap.size w w3):=zH (ek.out.trans (by rw[<-HWS.out];exact jF));have hs3:w2.heap.size<=w3.heap.size:=jF.size;have CP:w.heap.size<=w2.heap.size:=ek.out.size;clear wj kj Xu hrv xu jF;go_wp2_with fail;refine(jf zU.out.rsAll (by omega)).mono ?_;rintro e w4 ⟨v4,rfl,Z2,iY⟩;rw[HQV.out] at Z2;have CI:=zH Z2;have vz:=zH (ak kR.out iY);have akv:=zH (HOR.out.below iY);clear Z2 iY;go_wp2_with fail;refine(LD sh akv.out.rsAll (λb hb=>hb) (by omega) Xs).mono ?_;rintro e w5 ⟨v5,zs,rfl,Se,hz5,xp,zN⟩;rw[akn.out,QA] at hz5;obtain⟨A6,n6,c6,rfl,hn6⟩:=Se.slice;have h6b:n6<=1073741825:=by omega
    clear hn6;have Ku:=zH Se;have HZ5:=zH hz5;have Hs:=zH (ak vz.out zN);have akC:=zH (CI.out.below zN);clear Se hz5 zN xp;go_wp2_with fail;refine(jf Ku.out.rsAll (by omega)).mono ?_;rintro e w6 ⟨v6,rfl,ho6,hb6⟩;rw[HZ5.out] at ho6;have HO6:=zH (ho6.base_le Hs.out.size);have akB:=zH ((akC.out.below hb6).base_le kR.out.size);have HB6:=zH (ak Hs.out hb6);clear ho6 hb6;go_wp2_with fail
    go_ret3
    refine⟨v4,v6,?_,?_,?_,HB6.out⟩
    ·rw[decide_eq_true Ho.out];rfl
    ·rw[if_neg Ho.out];exact akB.out
    ·rw[if_neg Ho.out];exact HO6.out
end Go.Proofs.YtdbpbfglhbiadaaGreatDoor
