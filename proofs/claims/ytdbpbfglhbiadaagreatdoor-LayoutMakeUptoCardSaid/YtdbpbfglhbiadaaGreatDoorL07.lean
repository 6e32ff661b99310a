/- NatV Nat10 -/
import Derived.Test.YtdbpbfglhbiadaaGreatDoorL02
import Derived.Lib.BitFns
import Derived.Test.YtdbpbfglhbiadaaGreatDoorL06
import Derived.Test.YtdbpbfglhbiadaaGreatDoorL04
set_option maxHeartbeats 8000000
set_option maxRecDepth 100000
namespace Go.Proofs.YtdbpbfglhbiadaaGreatDoor
open Go.RowKit
theorem nh:∀(f x:Nat),x<2^f→x<2^Lib.bitLenAux f x∧Lib.bitLenAux f x≤f∧(0<x→2^(Lib.bitLenAux f x)≤2*x∧0<Lib.bitLenAux f x)
 | 0,x,h=>by
  have:x=0:=by simpa using h
  subst this;simp[Lib.bitLenAux]
 | f+1,x,h=>by
  unfold Lib.bitLenAux;split
  ·rename_i h0;subst h0;simp
  ·rename_i h0;obtain⟨h1,h2,h3⟩:=nh f (x/2) (by rw[Nat.pow_succ] at h;omega);obtain⟨k,hk⟩:∃k,Lib.bitLenAux f (x/2)=k:=⟨_,rfl⟩;rw[hk] at h1 h2 h3 ⊢;have e:2^(1+k)=2*2^k:=by rw[Nat.add_comm,Nat.pow_succ']
   refine⟨by rw[e];omega,by omega,fun _=>⟨?_,by omega⟩⟩;rw[e];rcases Nat.eq_zero_or_pos (x/2) with hz|hz
   ·have:k=0:=by
     have hx:x/2=0:=hz;rw[hx] at hk;cases f with
     | zero=>simpa[Lib.bitLenAux] using hk.symm
     | succ f=>simpa[Lib.bitLenAux] using hk.symm
    subst this;omega
   ·have:=(h3 hz).1;omega
theorem bitLen_le {x k:Nat} (hx:x<2^k) (hk:k≤64):Lib.bitLen x≤k:=by
 obtain⟨h1,h2,h3⟩:=nh 64 x (Nat.lt_of_lt_of_le hx (Nat.pow_le_pow_right (by omega) hk));unfold Lib.bitLen;rcases Nat.lt_or_ge k (Lib.bitLenAux 64 x) with hc|hc
 ·exfalso
  rcases Nat.eq_zero_or_pos x with h0|h0
  ·subst h0;simp[Lib.bitLenAux] at hc
  ·have h4:=(h3 h0).1;have h5:2^(k+1)≤2^Lib.bitLenAux 64 x:=Nat.pow_le_pow_right (by omega) hc;rw[Nat.pow_succ] at h5;omega
 ·exact hc
theorem IZ {t:Nat} (h0:0<t) (h:t<4294967296):Lib.bitLen t≤32∧0<Lib.bitLen t∧2147483648≤t*2^(32-Lib.bitLen t)∧t*2^(32-Lib.bitLen t)<4294967296:=by
 have yV:Lib.bitLen t≤32:=bitLen_le (by simpa using h) (by omega);obtain⟨h1,h2,h3⟩:=nh 64 t (by omega);have h4:=h3 h0;change t<2^Lib.bitLen t at h1
 change 2^Lib.bitLen t≤2*t∧0<Lib.bitLen t at h4
 obtain⟨k,hk⟩:∃k,Lib.bitLen t=k:=⟨_,rfl⟩;rw[hk] at yV h1 h4 ⊢;refine⟨yV,h4.2,?_,?_⟩
 ·have e:2^k*2^(32-k)=4294967296:=by rw[←Nat.pow_add,show k+(32-k)=32 by omega]
  have:=Nat.mul_le_mul_right (2^(32-k)) h4.1;rw[e,Nat.mul_assoc] at this;omega
 ·have e:2^k*2^(32-k)=4294967296:=by rw[←Nat.pow_add,show k+(32-k)=32 by omega]
  have:=Nat.mul_lt_mul_of_pos_right h1 (Nat.two_pow_pos (32-k));omega
theorem AR (us:List (BitVec 32)) (k:Nat) (hk:k≤us.length):val (us.drop k)*4294967296^k≤val us:=by
 have:=eM us k hk;rw[Nat.mul_comm] at this ⊢;rw[this,Nat.mul_comm];exact Nat.le_add_left _ _
theorem LX {ys:List (BitVec 32)} {n t s V:Nat} (hl:ys.length=n+1) (hV:val ys=V) (ht:(ys.getD n 0#32).toNat=t) (h1:2147483648≤t*2^s) (h2:t*2^s<4294967296) : (du (V*2^s)).length=n+1∧2147483648≤((du (V*2^s)).getD n 0#32).toNat∧2147483648*4294967296^n≤V*2^s:=by
 have e1:=bp ys n;rw[bL ys (n+1) (by omega),hV,ht] at e1;have e2:=eI (ys.take n);rw[List.length_take,hl,Nat.min_eq_left (by omega)] at e2;have hp:=Nat.two_pow_pos s;have nU:2147483648*4294967296^n≤V*2^s:=by
  rw[e1,Nat.add_mul,Nat.mul_assoc,Nat.mul_comm 2147483648];have:=Nat.mul_le_mul_left (4294967296^n) h1;omega
 have vm:V*2^s<4294967296^(n+1):=by
  have h3:V<4294967296^n*(t+1):=by rw[Nat.mul_succ];omega
  have h4:V*2^s<4294967296^n*(t+1)*2^s:=Nat.mul_lt_mul_of_pos_right h3 hp;have h5:(t+1)*2^s≤4294967296:=by
   rcases Nat.lt_or_ge 32 s with hs|hs
   ·exfalso
    have ht0:0<t:=by
     rcases Nat.eq_zero_or_pos t with h|h
     ·subst h;omega
     ·exact h
    have:2^33≤2^s:=Nat.pow_le_pow_right (by omega) hs;have:1*2^s≤t*2^s:=Nat.mul_le_mul_right _ ht0;omega
   ·have e:4294967296=2^(32-s)*2^s:=by rw[←Nat.pow_add,show 32-s+s=32 by omega]
    rw[e] at h2 ⊢;exact Nat.mul_le_mul_right _ (Nat.lt_of_mul_lt_mul_right h2)
  have h6:4294967296^n*(t+1)*2^s≤4294967296^n*4294967296:=by rw[Nat.mul_assoc];exact Nat.mul_le_mul_left _ h5
  rw[Nat.pow_succ];omega
 have bG:(du (V*2^s)).length=n+1:=by
  have a1:=gj vm;have a2:=yP (n:=V*2^s) (k:=n) (by omega);omega
 refine⟨bG,?_,nU⟩;have e3:=bp (du (V*2^s)) n;rw[bL _ (n+1) (by omega),bF] at e3;have e4:=eI ((du (V*2^s)).take n);rw[List.length_take,bG,Nat.min_eq_left (by omega)] at e4;obtain⟨x,hx⟩:∃x,((du (V*2^s)).getD n 0#32).toNat=x:=⟨_,rfl⟩;rw[hx] at e3 ⊢;rcases Nat.lt_or_ge x 2147483648 with hc|hc
 ·exfalso
  have:=Nat.mul_le_mul_left (4294967296^n) (show x+1≤2147483648 from hc);rw[Nat.mul_succ] at this;have e5:4294967296^n*2147483648=2147483648*4294967296^n:=Nat.mul_comm _ _;omega
 ·exact hc
theorem Vm {us xs:List (BitVec 32)} {n m s V:Nat} (Sj:us.length=m+1) (pC:xs.length=m) (hU:val us=val xs*2^s) (hs:s≤31) (MC:n<m+1) (nU:2147483648*4294967296^n≤V):val (us.drop (m+1-(n+1)))<V:=by
 have h1:=AR us (m-n) (by omega);have h2:=eI xs;rw[pC] at h2;have h3:(2:Nat)^s≤2^31:=Nat.pow_le_pow_right (by omega) hs;have h4:val xs*2^s≤val xs*2147483648:=Nat.mul_le_mul_left _ h3;have h5:val us<4294967296^m*2147483648:=by
  have:=Nat.mul_lt_mul_of_pos_right h2 (show 0<2147483648 by omega);omega
 have e:4294967296^m=4294967296^n*4294967296^(m-n):=by rw[←Nat.pow_add,show n+(m-n)=m by omega]
 have hh:m+1-(n+1)=m-n:=by omega
 rw[hh];rcases Nat.lt_or_ge (val (us.drop (m-n))) V with hc|hc
 ·exact hc
 ·exfalso
  have h6:2147483648*4294967296^n*4294967296^(m-n)≤val (us.drop (m-n))*4294967296^(m-n):=Nat.mul_le_mul_right _ (by omega);rw[Nat.mul_assoc,←e] at h6;omega
theorem Tj (X V s:Nat):X*2^s/(V*2^s)=X/V:=Nat.mul_div_mul_right _ _ (Nat.two_pow_pos s)
theorem Ti (X V s:Nat):X*2^s%(V*2^s)/2^s=X%V:=by
 rw[Nat.mul_mod_mul_right,Nat.mul_div_cancel _ (Nat.two_pow_pos s)]
def abS (w:World) (X V:Nat) (en:Ending) (w':World):Prop:=
 ∃vq vr,en=.returned (.tuple #[vq,vr,.bool (decide (V≠0))])∧Own w' bz w.heap.size 172 vq (du (if V=0 then 0 else X/V))∧Own w' bz w.heap.size 172 vr (du (if V=0 then 0 else X%V))∧Below w.heap.size w w'
theorem RS.nil_of' {α:Type} [aF α] {w:World} {S:Nat→Prop} {A:Option Addr} {c:Nat} {xs:List α} (h:RS w S A 0 c xs):xs=[]:=List.length_eq_zero_iff.1 h.len
theorem Own.shape {w:World} {base:Nat} {e:TypeId} {v:Value} {xs:List (BitVec 32)} (h:Own w bz base e v xs) (hx:0<xs.length):∃g c,v=.slice (some ⟨g,0,none⟩) xs.length c∧base≤g∧g<w.heap.size:=by
 obtain⟨A,n,c,rfl,rfl⟩:=h.slice;obtain⟨g,u,rfl,hg,hg2,_⟩:=h.get1 rfl (List.getElem?_eq_getElem hx);exact⟨g,c,rfl,hg,hg2⟩
theorem Gc {a b:Value} {x y:Bool} (h:x=y):Ending.returned (.tuple #[a,b,.bool x])=.returned (.tuple #[a,b,.bool y]):=by rw[h]
theorem G0 {S S2:Nat→Prop} {A A2:Option Addr} {n c n2 c2:Nat} {xs ys:List (BitVec 32)} {w:World} (h:RS w S A n c xs) (h2:RS w S2 A2 n2 c2 ys) (hS:∀b,S b→b<w.heap.size) (iM:∀b,S2 b→b<w.heap.size) (hn:n≤536870912) (hn2:n2≤536870912) : Calls Tryz.prog 191 #[.slice A n c,.slice A2 n2 c2] w (abS w (val xs) (val ys)):=by
 have H:=zH h;have H2:=zH h2;have HL:=zH h.len;have pG:=zH h2.len;have ZP:=fc xs;have ZO:=fc ys;clear h h2;obtain⟨X,hX⟩:∃X,val xs=X:=⟨_,rfl⟩;obtain⟨V,hV⟩:∃V,val ys=V:=⟨_,rfl⟩;have iP:=dY xs;have lw:=dY ys;rw[hX] at ZP iP;rw[hV] at ZO lw;rw[hX,hV];clear hX hV;obtain⟨la,aaa⟩:∃l,dy xs=l:=⟨_,rfl⟩;obtain⟨lb,Z9⟩:∃l,dy ys=l:=⟨_,rfl⟩;rw[aaa] at ZP iP;rw[Z9] at ZO lw;have yF:=zH ZP;have yE:=zH ZO;have XC:=zH iP;have HLB:=zH lw;have HTA:=zH aaa;have HTB:=zH Z9;clear ZP ZO iP lw aaa Z9;go_enter Tryz.func191,Tryz.ntmps191;go_wp2_with fail;refine(fi H.out).mono ?_;rintro e w' ⟨A3,n3,c3,rfl,hr,rfl⟩;have hl3:n3≤536870912:=by have:=bU xs;have:=hr.len;have:=HL.out;omega
 have HR:=zH hr;clear hr;go_wp2_with fail;refine(fi H2.out).mono ?_;rintro e w' ⟨A4,n4,c4,rfl,hr,rfl⟩;have hl4:n4≤536870912:=by have:=bU ys;have:=hr.len;have:=pG.out;omega
 have pk:=zH hr;clear hr;rw[HTA.out] at HR;rw[HTB.out] at pk;have AN:=zH HR.out.len;have FE:=zH pk.out.len;clear H H2 HL pG;rcases Nat.eq_zero_or_pos n4 with h0|h0
 ·subst h0;have hV0:V=0:=by rw[←yE.out,RS.nil_of' pk.out];rfl
  have J0:=zH hV0;clear hV0;go_wp2_with fail
  go_ret3
  refine⟨_,_,Gc (decide_eq_false (fun h=>h J0.out)).symm,?_,?_,Below.refl _ _⟩<;>rw[if_pos J0.out,dH]<;>exact Own.nil _ _ _
 ·have hV0:V≠0:=by
   intro h;have h1:=HLB.out;rw[h,dH] at h1;have:=FE.out;rw[←h1] at this;simp at this;omega
  have J0:=zH hV0;have hb0:((n4:Int)==0)=false:=by rw[beq_eq_false_iff_ne];omega
  clear hV0;go_wp2_with fail;refine(G4 HR.out pk.out).mono ?_;rintro e w' ⟨rfl,mm,rfl⟩;have HR':=zH (HR.out.drewN mm);have Wc:=zH (pk.out.drewN mm);obtain⟨wd,Ed⟩:∃x,w.drewN mm=x:=⟨_,rfl⟩;have HB:=zH (show Below w.heap.size w wd by rw[←Ed];exact below_drewN (Below.refl _ _) mm);have HWS:=zH (show wd.heap.size=w.heap.size by rw[←Ed];rfl);rw[Ed] at HR' Wc;rw[Ed,yF.out,yE.out];clear Ed HR pk;rcases Nat.lt_or_ge X V with hc|hc
  ·rw[pc hc];have hq:X/V=0:=Nat.div_eq_of_lt hc;have hr:X%V=X:=Nat.mod_eq_of_lt hc;have HQ:=zH hq;have Fo:=zH hr;clear hq hr hc;go_wp2_with fail;refine(AG HR'.out (by omega)).mono ?_;rintro e w2 ⟨v,rfl,ho,hb⟩;rw[HWS.out] at ho;have HO:=zH ho;have fg:=zH (ao HB.out (show Below wd.heap.size wd w2 from hb));clear ho hb;go_wp2_with fail
   go_ret3
   refine⟨_,_,Gc (decide_eq_true J0.out).symm,?_,?_,fg.out⟩
   ·rw[if_neg J0.out,HQ.out,dH];exact Own.nil _ _ _
   ·rw[if_neg J0.out,Fo.out,XC.out];exact HO.out
  ·have hcc:decide (kP X V<0)=false:=by
    rcases Nat.lt_or_ge V X with h|h
    ·rw[pd h];rfl
    ·rw[Nat.le_antisymm h hc,sK];rfl
   have HC:=zH hc;obtain⟨cc,aaB⟩:∃cc,kP X V=cc:=⟨_,rfl⟩;rw[aaB] at hcc;rw[aaB];have hcf:(cc<0)=False:=by simpa using hcc
   clear hc aaB;by_cases h1:n4=1
   ·subst h1;obtain⟨b,o,y,rfl,_,hy,e1⟩:=Wc.out.limb_at (k:=0) (by omega);rw[Nat.add_zero] at e1;have hyV:y.toNat=V:=by
     have hs:=yE.out;have hl:=FE.out
     match lb,hl,hy with
     | [z],_,hy=>
      simp at hy;subst hy;simpa[val] using hs
    have Ec:=y.isLt;have hyw:IntKind.u64.wrap (y.toNat:Int)=(y.toNat:Int):=by rw[IntKind.wrap_u64];omega
    obtain⟨yn,hyn⟩:∃yn,y.toNat=yn:=⟨_,rfl⟩;rw[hyn] at hyV Ec hyw e1;subst hyV;clear hyn hy;go_wp2_with fail;refine(zl yn HR'.out (fun b hb=>by rw[HWS.out];exact hS b hb) (by omega) (by have:=J0.out;omega) Ec).mono ?_;rintro e w2 ⟨s,qs,rfl,ho,hq,CB,hb⟩;rw[yF.out];rw[yF.out] at hq;obtain⟨As,ns,cs,rfl,hns⟩:=ho.slice;have HO:=zH ho;have fg:=zH (ao HB.out (show Below wd.heap.size wd w2 from hb));have HQ:=zH hq;have GI:ns≤1073741824:=by omega
    have Af:X%yn<18446744073709551616:=by have:=Nat.mod_lt X (show 0<yn by have:=J0.out;omega);omega
    clear ho hb hq CB hns;go_wp2_with fail;refine(kh HO.out.rsAll (by omega)).mono ?_;rintro e w3 ⟨v3,rfl,xD,kR⟩;rw[HQ.out] at xD;have Fs:=zH xD;have mM:=zH (ao fg.out kR);clear xD kR;go_wp2_with fail;refine(Bt (X%yn) w3 Af).mono ?_;rintro e w4 ⟨v4,rfl,ho4,j7⟩;have Fq:=zH (ho4.base_le (Nat.le_trans mM.out.size (Nat.le_refl _)));have yz:=zH (ao mM.out j7);have MJ:=zH ((Fs.out.below j7).base_le (Nat.le_trans fg.out.size (Nat.le_refl _)));clear ho4 j7;go_wp2_with fail
    go_ret3
    refine⟨_,_,Gc (decide_eq_true J0.out).symm,?_,?_,yz.out⟩
    ·rw[if_neg J0.out];exact MJ.out
    ·rw[if_neg J0.out];exact Fq.out
   ·have cK:((n4:Int)==1)=false:=by rw[beq_eq_false_iff_ne];omega
    obtain⟨k,hk⟩:∃k,n4=k+1:=⟨n4-1,by omega⟩;subst hk;obtain⟨b,o,y,rfl,_,hy,e1⟩:=Wc.out.limb_at (k:=k) (by omega);obtain⟨t,ht⟩:∃t,y.toNat=t:=⟨_,rfl⟩;have Fv:t<4294967296:=by rw[←ht];exact y.isLt
    have ht0:0<t:=by
     rcases Nat.eq_zero_or_pos t with h|h
     ·exfalso
      have kJ:lb.getLast?=some y:=by rw[List.getLast?_eq_getElem?,FE.out];simpa using hy
      have aks:dy lb=lb:=by rw[←HLB.out,ze]
      rw[←aks] at kJ;exact wu kJ (nc.2 (by omega))
     ·exact h
    have ua:(lb.getD k 0#32).toNat=t:=by rw[List.getD_eq_getElem?_getD,hy];exact ht
    rw[ht] at e1;obtain⟨z1,z2,z3,z4⟩:=IZ ht0 Fv;obtain⟨sh,Sl⟩:∃sh,32-Lib.bitLen t=sh:=⟨_,rfl⟩;rw[Sl] at z3 z4;have aeX:32-(Lib.bitLen t:Int)=(sh:Int):=by omega
    have ZX:sh<32:=by omega
    obtain⟨w1,w2,w3⟩:=LX (s:=sh) FE.out yE.out ua z3 z4;have PW:(k:Int)+1-1=(k:Int):=by omega
    have PS:k<n3:=by
     rcases Nat.lt_or_ge k n3 with h|h
     ·exact h
     ·exfalso
      have a1:=gf HC.out;rw[XC.out,HLB.out,AN.out,FE.out] at a1;omega
    have W1:=zH w1;have W2:=zH w2;have W3:=zH w3;have amQ:=zH aeX;clear hy ht ua z1 z2 z3 z4 Sl w1 w2 w3 aeX;have HLZ:Hid (Calls Tryz.prog 223 #[.int .u32 (t:Int)] wd (gW wd (.int .i64 (sh:Int)))):=zH (by
     refine(Tryz.bits_LeadingZeros32 (t:Int) wd (by omega) (by omega)).mono fun e w' h=>⟨?_,h.2.symm⟩;rw[h.1,Int.toNat_natCast,amQ.out])
    go_wp2_with fail;refine HLZ.out.mono ?_;rintro e w' ⟨rfl,rfl⟩;go_wp2_with fail;refine(I7 sh HR'.out (fun b hb=>by rw[HWS.out];exact hS b hb) (by omega) ZX).mono ?_;rintro e w1 ⟨vu,us,rfl,Lv,huv,Sj,cK⟩;rw[yF.out] at huv;obtain⟨gu,cu,rfl,hg1,hg2⟩:=Lv.shape (by omega);rw[Sj] at Lv;have Fp:=zH Lv;have HUV:=zH huv;have HUL:=zH Sj;have fK:=zH (ao HB.out cK);have HRW:=zH (Wc.out.below cK (fun b hb=>by rw[HWS.out];exact iM b hb));clear Lv huv cK;rw[Sj];go_wp2_with fail;have nM:w.heap.size≤w1.heap.size:=fK.out.size;refine(I7 sh HRW.out (fun b hb=>Nat.lt_of_lt_of_le (iM b hb) nM) (by omega) ZX).mono ?_;rintro e w2 ⟨vv,vs,rfl,Lu,hvv,Cy,cm⟩;rw[yE.out] at hvv;obtain⟨Av,nv,cv,rfl,hnv⟩:=Lu.slice;rw[Cy] at hnv;subst hnv;have HRV:=zH (Lu.rs (S':=fun b=>w1.heap.size≤b∧b<w2.heap.size) (fun _ h=>h.elim) (fun _ h1 h2=>⟨h1,h2⟩));have HVV:=zH hvv;have fg:=zH (ao fK.out cm);have RU:=zH (Fp.out.below cm);have HBX:=zH cm;clear Lu hvv cm Fp;go_wp2_with fail;refine(fi HRV.out).mono ?_;rintro e w' ⟨A5,n5,c5,rfl,Jj,rfl⟩;rw[←dY,HVV.out] at Jj;have hn5:n5=k+1:=by rw[←Jj.len];exact W1.out
    subst hn5;have Wb:=zH Jj;clear Jj;go_wp2_with fail;refine(TX RU.out Wb.out (fun b hb=>⟨hb.2,fun e=>by have:=hb.1;omega⟩) (by omega) (by omega) (by omega) (by rw[Nat.add_sub_cancel];exact W2.out)
     (Vm HUL.out AN.out (by rw[HUV.out,yF.out]) (by omega) (by omega) (by rw[bF];exact W3.out))).mono ?_
    rintro e w3 ⟨sq,qs,rs,rfl,yT,ZZ,CB,lT,hrv,Af,kR⟩;rw[bF,HUV.out,Tj] at ZZ;rw[bF,HUV.out] at hrv;obtain⟨Aq,nq,cq,rfl,WY⟩:=yT.slice;have Z1:nq≤1073741825:=by omega
    clear WY;have CH:=zH yT;have HOR:=zH lT;have HQV:=zH ZZ;have amU:=zH hrv;have mM:Hid (Below w.heap.size w w3):=zH (fg.out.trans (by rw[←HWS.out];exact kR));have hs3:w2.heap.size≤w3.heap.size:=kR.size;have Fw:w.heap.size≤w2.heap.size:=fg.out.size;clear yT lT ZZ hrv Af kR;go_wp2_with fail;refine(kh CH.out.rsAll (by omega)).mono ?_;rintro e w4 ⟨v4,rfl,ho4,j7⟩;rw[HQV.out] at ho4;have Fq:=zH ho4;have yz:=zH (ao mM.out j7);have am2:=zH (HOR.out.below j7);clear ho4 j7;go_wp2_with fail;refine(N3 sh am2.out.rsAll (fun b hb=>hb) (by omega) ZX).mono ?_;rintro e w5 ⟨v5,zs,rfl,UN,hz5,z9,CC⟩;rw[amU.out,Ti] at hz5;obtain⟨A6,n6,c6,rfl,hn6⟩:=UN.slice;have h6b:n6≤1073741825:=by omega
    clear hn6;have MJ:=zH UN;have HZ5:=zH hz5;have J4:=zH (ao yz.out CC);have am9:=zH (Fq.out.below CC);clear UN hz5 CC z9;go_wp2_with fail;refine(kh MJ.out.rsAll (by omega)).mono ?_;rintro e w6 ⟨v6,rfl,ho6,hb6⟩;rw[HZ5.out] at ho6;have HO6:=zH (ho6.base_le J4.out.size);have am8:=zH ((am9.out.below hb6).base_le mM.out.size);have HB6:=zH (ao J4.out hb6);clear ho6 hb6;go_wp2_with fail
    go_ret3
    refine⟨v4,v6,?_,?_,?_,HB6.out⟩
    ·rw[decide_eq_true J0.out];rfl
    ·rw[if_neg J0.out];exact am8.out
    ·rw[if_neg J0.out];exact HO6.out
end Go.Proofs.YtdbpbfglhbiadaaGreatDoor
