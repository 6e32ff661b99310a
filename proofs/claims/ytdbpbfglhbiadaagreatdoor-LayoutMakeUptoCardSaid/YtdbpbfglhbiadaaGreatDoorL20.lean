/- Ref6 -/
import Derived.Test.YtdbpbfglhbiadaaGreatDoorL19
import Derived.Test.YtdbpbfglhbiadaaGreatDoorL15
set_option maxHeartbeats 8000000
set_option maxRecDepth 100000
namespace Go.Proofs.YtdbpbfglhbiadaaGreatDoor
open Go.RowKit
theorem Own.lit1 (w:World) (x:Bool):Own (w.alloc (.cells #[.bool x] 4)) bz w.heap.size 4 (.slice (some ⟨w.heap.size,0,none⟩) 1 1) [x]:=
 ⟨_,World.ownsRow_lit w #[.bool x] 1 (Nat.le_refl _) (by unfold maxLen;omega) rfl,Flat.bools [x],fun _ h=>h.elim⟩
structure RL (q:List Bool) (n k v:Nat):Prop where
 len:q.length=n
 low:q.take k=List.replicate k false
 val:au (q.drop k)=v
theorem KR {q:List Bool} {n k v:Nat} (h:RL q n (k+1) v) (hk:k<n):RL q n k (2*v)∧RL (q.set k true) n k (1+2*v):=by
 obtain⟨h1,h2,h3⟩:=h;have PW:k<q.length:=by omega
 have h4:q.take k=List.replicate k false:=by
  have:=congrArg (List.take k) h2;rw[List.take_take,Nat.min_eq_left (by omega),List.take_replicate,Nat.min_eq_left (by omega)] at this;exact this
 have h5:dW q k=false:=by
  have:=congrArg (fun l=>l[k]?) h2;simp only[List.getElem?_take,List.getElem?_replicate] at this;rw[if_pos (by omega),if_pos (by omega)] at this;exact fY this
 refine⟨⟨h1,h4,?_⟩,⟨by simp[h1],?_,?_⟩⟩
 ·rw[et,h5,h3];simp
 ·rw[List.take_set,List.set_eq_of_length_le (by rw[List.length_take];omega)];exact h4
 ·have e1:dW (q.set k true) k=true:=fY (by rw[List.getElem?_set_self PW]);rw[et,e1,List.drop_set_of_lt (by omega),h3];rfl
theorem Gh (n:Nat):RL (List.replicate n false) n n 0:=⟨by simp,by simp,by simp[au]⟩
def V6 (w:World) (q r:List Bool) (en:Ending) (w':World):Prop:=
 ∃v1 v2,en=.returned (.tuple #[v1,v2])∧Own w' bz w.heap.size 4 v1 q∧Own w' bz w.heap.size 4 v2 r∧Below w.heap.size w w'
theorem Cf {S S2:Nat→Prop} {A A2:Option Addr} {n c n2 c2:Nat} {xs ys:List Bool} {w:World} (h:RS w S A n c xs) (h2:RS w S2 A2 n2 c2 ys) (hS:∀b,S b→b<w.heap.size) (iM:∀b,S2 b→b<w.heap.size) (hn:n≤137438953472) (hn2:n2≤137438953472) (hd:0<au ys) : Calls Tryz.prog 174 #[.slice A n c,.slice A2 n2 c2] w (V6 w (bits (au xs/au ys)) (bits (au xs%au ys))):=by
 have H:=zH h;have H2:=zH h2;have HL:=zH h.len;have pG:=zH h2.len;have HS:=zH hS;have HS2:=zH iM;obtain⟨d,UT⟩:∃d,au ys=d:=⟨_,rfl⟩;have hdl:d<2^n2:=by rw[←UT,←pG.out];exact m8 ys
 rw[UT] at hd;have HD:=zH UT;have HDP:=zH hd;have HDL:=zH hdl;rw[UT];clear h h2 hS iM UT hd hdl;obtain⟨i0,hi,kI,fF,iO⟩:=info_parts (show(Tryz.prog.info? 4).map (fun i=>(i.zero,i.size,i.bytes))=some (some (.bool false),1,1) by kernel_rfl);have HI:=zH hi;have qR:=zH kI;have ku:=zH fF;have lC:=zH iO;clear hi kI fF iO;have hwn:IntKind.i64.wrap ((n:Int)-1)=(n:Int)-1:=by rw[IntKind.wrap_i64]<;>omega
 go_enter Tryz.func174,Tryz.ntmps174;go_wp2_with (refine ct (α:=Bool) w rfl _ _ 155 rfl rfl w.heap.size i0 (.bool false) Tryz.underlying155 HI.out qR.out ku.out rfl .i64 .i64 (n:Int) (n:Int) n rfl rfl rfl rfl (by rw[lC.out];omega) (by unfold maxLen;omega) (Nat.le_refl _) false bz (fun _ h=>h.elim) (fun _ _=>rfl) ?_; intro w3 xD hg3; have Fs:=zH xD; have mM:=zH ((Below.refl w.heap.size w).grown hg3 (Nat.le_refl _) (fun k hk=>by cases hk)); have HG3:=zH (xD.lt w.heap.size rfl).2; clear xD hg3);go_loopw [7,8] (fun rv iv wr=>∃(k:Nat) (z:Int) (q:List Bool),k≤n∧iv=.int .i64 z∧z+1=k∧Own wr bz w.heap.size 4 (.slice (some ⟨w.heap.size,0,none⟩) n n) q∧RL q n k (au (xs.drop k)/d) ∧Own wr bz (w.heap.size+1) 4 rv (bits (au (xs.drop k)%d))∧Below w.heap.size w wr) (fun _ iv _=>(intOf iv+1).toNat)
 case atStart=>
  have hx:xs.drop n=[]:=List.drop_eq_nil_of_le (by rw[HL.out];exact Nat.le_refl _);refine⟨n,(n:Int)-1,List.replicate n false,Nat.le_refl _,rfl,by omega,Fs.out,?_,?_,mM.out⟩
  ·rw[hx];simpa[au] using Gh n
  ·rw[hx];show Own _ _ _ _ _ (bits (0%d));rw[Nat.zero_mod,eA];exact Own.nil _ _ _
 case round=>
  obtain⟨k,z,q,hk,rfl,hz,yT,hq,lT,hb⟩:=hrel;have CH:=zH yT;have HQ:=zH hq;have HOR:=zH lT;have HB:=zH hb;have hgw:w.heap.size<wr.heap.size:=(yT.lt w.heap.size rfl).2;have HGW:=zH hgw;obtain⟨A4,n4,c4,rfl,hn4⟩:=lT.slice;have Af:au (xs.drop k)%d<d:=Nat.mod_lt _ HDP.out;have afi:n4≤n2:=by
   rw[hn4];exact jO (Nat.lt_trans Af HDL.out)
  have HRL:=zH Af;have HN4:=zH afi;clear yT hq lT hb hn4 hgw Af afi;rcases k with _|k
  ·obtain rfl:z= -1:=by omega
   have hqf:au q=au xs/d:=by have:=HQ.out.val;simpa using this
   have GD:bits (au (xs.drop 0)%d)=bits (au xs%d):=by rw[List.drop_zero]
   have bT:=jG CH.out.rsAll (by omega);rw[hqf] at bT;have HC:=zH bT;have Wa:=zH GD;clear bT hqf GD hz;go_wp2_with fail;refine HC.out.mono ?_;rintro e w5 ⟨v5,rfl,UN,CC⟩;have MJ:=zH (UN.base_le HB.out.size);have HO6:=zH ((HOR.out.below CC).base_le (base':=w.heap.size) (by omega));have J4:=zH (ao HB.out CC);clear UN CC;go_wp2_with fail;go_ret2
   exact⟨_,_,rfl,MJ.out,by rw[←Wa.out];exact HO6.out,J4.out⟩
  ·obtain rfl:z=k:=by omega
   have P0:(0≤(k:Int))=True:=eq_true (by omega);have hwk:IntKind.i64.wrap ((k:Int)-1)=(k:Int)-1:=by rw[IntKind.wrap_i64]<;>omega
   obtain⟨b,o,x,rfl,CE,hx,e1⟩:=(H.out.below HB.out HS.out).bool_at (k:=k) (by omega);have PY:(k:Int)<(n:Int):=by omega
   have gX:(k:Int)≤(c:Int):=by have:=H.out.cap;omega
   have dp:=et xs k;rw[fY hx] at dp;obtain⟨ρ,hρ⟩:∃ρ,au (xs.drop (k+1))%d=ρ:=⟨_,rfl⟩;obtain⟨α,hα⟩:∃α,au (xs.drop (k+1))/d=α:=⟨_,rfl⟩;have ab3:=zH (show ρ<d by rw[←hρ];exact HRL.out);have hdv:=Vo (A:=au (xs.drop (k+1))) (d:=d) (q:=α) (r:=ρ) x.toNat (by rw[←hα,←hρ,Nat.mul_comm];exact(Nat.div_add_mod _ _).symm) (by rw[←hρ];exact HRL.out) (by cases x<;>simp);rw[←dp] at hdv;have yD:au ([x]++bits ρ)=x.toNat+2*ρ:=by show au (x::bits ρ)=_;rw[au,bE]
   have Jq:=KR HQ.out (by omega:k<n);rw[hα] at Jq;have HDN:=zH Jq;have HDV:=zH hdv;have RY:=zH yD;have lT:=HOR.out;rw[hρ] at lT;have am3:=zH lT;have HOL:=zH (Own.lit1 wr x);have fK:=zH (HB.out.alloc HB.out.size (.cells #[.bool x] 4));have HLR:=zH lT.rsAll.len;clear dp hρ hα hdv yD Jq lT hx HOR;go_wp2_with (at_builtin; have Lt:=am3.out.rsAll.below ((Below.refl wr.heap.size wr).alloc (Nat.le_refl _) (.cells #[.bool x] 4)) (fun _ h=>h); refine gv (α:=Bool) (S:=bz) rfl _ _ 155 rfl 1 Tryz.bitsTy rfl HOL.out rfl Lt _ (Flat.bools _) Lt.boolsAt (pg _) (by rw[HLR.out];have:=HN4.out;simp;omega) (by simp) ?_; intro w6 w7 hown2 hg2 ub; have HO7:=zH hown2; have HB7:=zH (((Below.refl wr.heap.size wr).alloc (Nat.le_refl _) (.cells #[.bool x] 4)).grown hg2 (by simp) (fun k hk=>(HOL.out.lt k hk).1)); obtain⟨A7,n7,c7,rfl,hn7⟩:=hown2.slice; have bT:=jG hown2.rsAll (by rw[←hown2.rsAll.len,List.length_append,HLR.out];have:=HN4.out;simp;omega); rw[RY.out] at bT; have HC:=zH bT; clear hown2 hg2 ub Lt hn7 bT);refine HC.out.mono ?_;rintro e w8 ⟨v8,rfl,ho8,Xf⟩;obtain⟨A8,n8,c8,rfl,hn8⟩:=ho8.slice;have HB8:=zH (ao HB7.out Xf);have HO8:=zH ho8;have aaE:=ao HB.out HB8.out;have aax:=JH ho8.rsAll (H2.out.below aaE HS2.out);rw[bE,HD.out] at aax;have HCM:=zH aax;have Wk:=zH aaE;have nM:w.heap.size+1≤w8.heap.size:=Nat.le_trans HGW.out HB8.out.size;have afL:=HB8.out;have Fw:w.heap.size+1≤w7.heap.size:=Nat.le_trans HGW.out HB7.out.size;have am6:=zH (ho8.base_le Fw);have agH:=zH (CH.out.below afL);have HN8:=zH (show n8≤n2+1 by
    rw[hn8];refine jO ?_;have h1:=ab3.out;have h2:=HDL.out;have h3:=Bool.toNat_le x;rw[Nat.pow_succ];omega)
   have Hz:=zH nM;clear ho8 Xf aax aaE hn8 afL nM Fw;obtain⟨t,ht⟩:∃t,kP (x.toNat+2*ρ) d=t:=⟨_,rfl⟩;have SB:=HCM.out;rw[ht] at SB;have anp:=zH SB;clear SB HCM;go_wp2_with fail;refine anp.out.mono ?_;rintro e w' ⟨rfl,rfl⟩;rcases Nat.lt_or_ge (x.toNat+2*ρ) d with hlt|hge
   ·have ht1:t= -1:=by rw[←ht];exact pc hlt
    subst ht1;obtain⟨e1,e2⟩:=HDV.out.2 hlt;have HE1:=zH e1;have HE2:=zH e2;clear ht hlt e1 e2;go_wp2_with fail;go_roundw
    case rel=>exact⟨k,(k:Int)-1,q,by omega,by go_num,by omega,agH.out,by rw[HE1.out];exact HDN.out.1,by rw[HE2.out];exact am6.out,Wk.out⟩
    case measure=>simp[intOf]
   ·have ht1:(0≤t)=True:=by
     refine eq_true ?_;rw[←ht];rcases Nat.lt_or_ge d (x.toNat+2*ρ) with h|h
     ·rw[pd h];omega
     ·rw[show x.toNat+2*ρ=d by omega,sK];omega
    obtain⟨e1,e2⟩:=HDV.out.1 hge;have bT:=S5 HO8.out.rsAll (H2.out.below Wk.out HS2.out) (fun _ h=>h) (fun b hb=>Nat.lt_of_lt_of_le (HS2.out b hb) Wk.out.size) (by have:=HN8.out;omega) (by rw[bE,HD.out];exact hge);rw[bE,HD.out] at bT;have HC:=zH bT;have HE1:=zH e1;have HE2:=zH e2;clear ht hge e1 e2 bT;go_wp2_with fail;refine HC.out.mono ?_;rintro e w9 ⟨v9,rfl,ho9,hb9⟩;obtain⟨A9,n9,c9,rfl,hn9⟩:=ho9.slice;have HB9:=zH (ao Wk.out hb9);have HO9:=zH (ho9.base_le Hz.out);have Z5:=agH.out.below hb9;obtain⟨y,hy⟩:∃y,q[k]?=some y:=⟨_,List.getElem?_eq_getElem (by have:=HQ.out.len;omega)⟩;obtain⟨g,u,hA,_,_,_,vn,hfz⟩:=Z5.get1 rfl hy;injection hA with hA
    injection hA with hA
    subst hA;have am4:=zH Z5;clear ho9 hb9 hn9 Z5 hy;go_wp2_with fail;go_roundw
    case rel=>exact⟨k,(k:Int)-1,q.set k true,by omega,by go_num,by omega,(am4.out.stored (x:=true) rfl rfl).1,by rw[HE1.out,Nat.add_comm];exact HDN.out.2,by rw[HE2.out];exact HO9.out.setCell (p:=⟨w.heap.size,k,none⟩) (HO9.out.own_ne (by show w.heap.size<w.heap.size+1;omega)) (fun _ h=>h.elim) _,HB9.out.setCell (p:=⟨w.heap.size,k,none⟩) (Nat.le_refl _) _⟩
    case measure=>simp[intOf]
end Go.Proofs.YtdbpbfglhbiadaaGreatDoor
