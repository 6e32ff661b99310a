/- NatV -/
import Derived.Test.YtichkplomldgiaaGreatDoorJ02
import Derived.Lib.BitFns
set_option maxHeartbeats 4000000
set_option maxRecDepth 100000
namespace Go.Proofs.YtichkplomldgiaaGreatDoor
theorem hZ:∀(f x:Nat),x<2^f->x<2^Lib.bitLenAux f x/\Lib.bitLenAux f x<=f/\(0<x->2^(Lib.bitLenAux f x)<=2*x/\0<Lib.bitLenAux f x)
 | 0,x,h=>by
  have:x=0:=by simpa using h
  subst this;simp[Lib.bitLenAux]
 | f+1,x,h=>by
  unfold Lib.bitLenAux;split
  ·rename_i h0;subst h0;simp
  ·rename_i h0;obtain⟨h1,h2,h3⟩:=hZ f (x/2) (by rw[Nat.pow_succ] at h;omega);obtain⟨k,hk⟩:∃k,Lib.bitLenAux f (x/2)=k:=⟨_,rfl⟩;rw[hk] at h1 h2 h3 ⊢;have e:2^(1+k)=2*2^k:=by rw[Nat.add_comm,Nat.pow_succ']
   refine⟨by rw[e];omega,by omega,λ_=>⟨?_,by omega⟩⟩;rw[e];rcases Nat.eq_zero_or_pos (x/2) with hz|hz
   ·have:k=0:=by
     have hx:x/2=0:=hz;rw[hx] at hk;cases f with
     | zero=>simpa[Lib.bitLenAux] using hk.symm
     | succ f=>simpa[Lib.bitLenAux] using hk.symm
    subst this;omega
   ·have:=(h3 hz).1;omega
theorem bitLen_le {x k:Nat} (hx:x<2^k) (hk:k<=64):Lib.bitLen x<=k:=by
 obtain⟨h1,h2,h3⟩:=hZ 64 x (Nat.lt_of_lt_of_le hx (Nat.pow_le_pow_right (by omega) hk));unfold Lib.bitLen;rcases Nat.lt_or_ge k (Lib.bitLenAux 64 x) with hc|hc
 ·exfalso
  rcases Nat.eq_zero_or_pos x with h0|h0
  ·subst h0;simp[Lib.bitLenAux] at hc
  ·have h4:=(h3 h0).1;have h5:2^(k+1)<=2^Lib.bitLenAux 64 x:=Nat.pow_le_pow_right (by omega) hc;rw[Nat.pow_succ] at h5;omega
 ·exact hc
theorem yj {t:Nat} (h0:0<t) (h:t<4294967296):Lib.bitLen t<=32/\0<Lib.bitLen t/\2147483648<=t*2^(32-Lib.bitLen t)/\t*2^(32-Lib.bitLen t)<4294967296:=by
 have AG:Lib.bitLen t<=32:=bitLen_le (by simpa using h) (by omega);obtain⟨h1,h2,h3⟩:=hZ 64 t (by omega);have h4:=h3 h0;change t<2^Lib.bitLen t at h1
 change 2^Lib.bitLen t<=2*t/\0<Lib.bitLen t at h4
 obtain⟨k,hk⟩:∃k,Lib.bitLen t=k:=⟨_,rfl⟩;rw[hk] at AG h1 h4 ⊢;refine⟨AG,h4.2,?_,?_⟩
 ·have e:2^k*2^(32-k)=4294967296:=by rw[<-Nat.pow_add,show k+(32-k)=32 by omega]
  have:=Nat.mul_le_mul_right (2^(32-k)) h4.1;rw[e,Nat.mul_assoc] at this;omega
 ·have e:2^k*2^(32-k)=4294967296:=by rw[<-Nat.pow_add,show k+(32-k)=32 by omega]
  have:=Nat.mul_lt_mul_of_pos_right h1 (Nat.two_pow_pos (32-k));omega
theorem qy (us:List (BitVec 32)) (k:Nat) (hk:k<=us.length):val (us.drop k)*4294967296^k<=val us:=by
 have:=cf us k hk;rw[Nat.mul_comm] at this ⊢;rw[this,Nat.mul_comm];exact Nat.le_add_left _ _
theorem AU {ys:List (BitVec 32)} {n t s V:Nat} (hl:ys.length=n+1) (hV:val ys=V) (ht:(ys.getD n 0#32).toNat=t) (h1:2147483648<=t*2^s) (h2:t*2^s<4294967296) : (bC (V*2^s)).length=n+1/\2147483648<=((bC (V*2^s)).getD n 0#32).toNat/\2147483648*4294967296^n<=V*2^s:=by
 have e1:=aF ys n;rw[aL ys (n+1) (by omega),hV,ht] at e1;have e2:=cE (ys.take n);rw[List.length_take,hl,Nat.min_eq_left (by omega)] at e2;have hp:=Nat.two_pow_pos s;have mz:2147483648*4294967296^n<=V*2^s:=by
  rw[e1,Nat.add_mul,Nat.mul_assoc,Nat.mul_comm 2147483648];have:=Nat.mul_le_mul_left (4294967296^n) h1;omega
 have mg:V*2^s<4294967296^(n+1):=by
  have h3:V<4294967296^n*(t+1):=by rw[Nat.mul_succ];omega
  have h4:V*2^s<4294967296^n*(t+1)*2^s:=Nat.mul_lt_mul_of_pos_right h3 hp;have h5:(t+1)*2^s<=4294967296:=by
   rcases Nat.lt_or_ge 32 s with hs|hs
   ·exfalso
    have P8:0<t:=by
     rcases Nat.eq_zero_or_pos t with h|h
     ·subst h;omega
     ·exact h
    have:2^33<=2^s:=Nat.pow_le_pow_right (by omega) hs;have:1*2^s<=t*2^s:=Nat.mul_le_mul_right _ P8;omega
   ·have e:4294967296=2^(32-s)*2^s:=by rw[<-Nat.pow_add,show 32-s+s=32 by omega]
    rw[e] at h2 ⊢;exact Nat.mul_le_mul_right _ (Nat.lt_of_mul_lt_mul_right h2)
  have h6:4294967296^n*(t+1)*2^s<=4294967296^n*4294967296:=by rw[Nat.mul_assoc];exact Nat.mul_le_mul_left _ h5
  rw[Nat.pow_succ];omega
 have hlen:(bC (V*2^s)).length=n+1:=by
  have a1:=dK mg;have a2:=oS (n:=V*2^s) (k:=n) (by omega);omega
 refine⟨hlen,?_,mz⟩;have e3:=aF (bC (V*2^s)) n;rw[aL _ (n+1) (by omega),aM] at e3;have e4:=cE ((bC (V*2^s)).take n);rw[List.length_take,hlen,Nat.min_eq_left (by omega)] at e4;obtain⟨x,hx⟩:∃x,((bC (V*2^s)).getD n 0#32).toNat=x:=⟨_,rfl⟩;rw[hx] at e3 ⊢;rcases Nat.lt_or_ge x 2147483648 with hc|hc
 ·exfalso
  have:=Nat.mul_le_mul_left (4294967296^n) (show x+1<=2147483648 from hc);rw[Nat.mul_succ] at this;have e5:4294967296^n*2147483648=2147483648*4294967296^n:=Nat.mul_comm _ _;omega
 ·exact hc
theorem IZ {us xs:List (BitVec 32)} {n m s V:Nat} (FP:us.length=m+1) (jt:xs.length=m) (hU:val us=val xs*2^s) (hs:s<=31) (hnm:n<m+1) (mz:2147483648*4294967296^n<=V):val (us.drop (m+1-(n+1)))<V:=by
 have h1:=qy us (m-n) (by omega);have h2:=cE xs;rw[jt] at h2;have h3:(2:Nat)^s<=2^31:=Nat.pow_le_pow_right (by omega) hs;have h4:val xs*2^s<=val xs*2147483648:=Nat.mul_le_mul_left _ h3;have h5:val us<4294967296^m*2147483648:=by
  have:=Nat.mul_lt_mul_of_pos_right h2 (show 0<2147483648 by omega);omega
 have e:4294967296^m=4294967296^n*4294967296^(m-n):=by rw[<-Nat.pow_add,show n+(m-n)=m by omega]
 have hh:m+1-(n+1)=m-n:=by omega
 rw[hh];rcases Nat.lt_or_ge (val (us.drop (m-n))) V with hc|hc
 ·exact hc
 ·exfalso
  have h6:2147483648*4294967296^n*4294967296^(m-n)<=val (us.drop (m-n))*4294967296^(m-n):=Nat.mul_le_mul_right _ (by omega);rw[Nat.mul_assoc,<-e] at h6;omega
theorem Gz (X V s:Nat):X*2^s/(V*2^s)=X/V:=Nat.mul_div_mul_right _ _ (Nat.two_pow_pos s)
theorem Gy (X V s:Nat):X*2^s%(V*2^s)/2^s=X%V:=by
 rw[Nat.mul_mod_mul_right,Nat.mul_div_cancel _ (Nat.two_pow_pos s)]
end Go.Proofs.YtichkplomldgiaaGreatDoor
