/- Tm6 Tm7 Tm8 Tm12 -/
import Derived.Test.YtdbpbfglhbiadaaGreatDoorH00
import Derived.Test.YtdbpbfglhbiadaaGreatDoorH36
import Derived.Test.YtdbpbfglhbiadaaGreatDoorH31
set_option maxHeartbeats 4000000
set_option maxRecDepth 100000
namespace Go.Proofs.YtdbpbfglhbiadaaGreatDoor
open Go Go.RowKit
theorem Gr (c:UInt8):digitB c=true↔48<=c.toNat/\c.toNat<=57:=by unfold digitB;simp
theorem vm:∀(l:List UInt8) (n:Int),(∀x∈l,digitB x=true)->0<=n->0<=l.foldl cP n/\l.foldl cP n<=(n+1)*10^l.length-1
 | [],n,_,hn=>⟨hn,by simp⟩
 | x::l,n,h,hn=>by
  have hx:=(Gr x).1 (h x (by simp));have h1:0<=cP n x/\cP n x<=10*n+9:=by unfold cP;omega
  have ih:=vm l (cP n x) (λy hy=>h y (by simp[hy])) h1.1;rw[adl,aaJ];refine⟨ih.1,Int.le_trans ih.2 ?_⟩;obtain⟨P,hP⟩:∃P:Int,(10:Int)^l.length=P:=⟨_,rfl⟩;have hP0:0<=P:=by rw[<-hP];exact Int.pow_nonneg (by omega)
  rw[Int.pow_succ,hP];have h2:(cP n x+1)*P<=(10*n+10)*P:=Int.mul_le_mul_of_nonneg_right (by omega) hP0;have h3:(n+1)*(P*10)=(10*n+10)*P:=by rw[Int.mul_comm P 10,<-Int.mul_assoc];congr 1;omega
  omega
theorem vp {l:List UInt8} (h:(cW l).2=true):0<=(cW l).1/\(cW l).1<=999999:=by
 have h':jM l=true:=h;unfold jM at h';simp only[aav,decide_eq_true_eq] at h';obtain⟨h1,h2,h3,_⟩:=h';have h4:=vm (l.take 6) 0 (λx hx=>abc.1 h1 x (List.mem_of_mem_take hx)) (by omega);have h5:(10:Int)^(l.take 6).length<=1000000:=by
  have e:(10:Int)^(l.take 6).length=((10^(l.take 6).length:Nat):Int):=by simp
  rw[e];have:10^(l.take 6).length<=10^6:=acW (by omega) (by rw[abD];omega);omega
 show 0<=(l.take 6).foldl cP 0/\(l.take 6).foldl cP 0<=999999;omega
theorem Iz (a:Nat):dN false a 1=⟨false,a,1⟩:=by
 unfold dN;split
 ·rename_i h;rcases h with h|h
  ·rw[h]
  ·omega
 ·rw[Nat.gcd_one_right,Nat.div_one]
theorem OK (neg:Bool) (a b:Nat):(dN neg a b).n<=a/\(dN neg a b).d<=max b 1:=by
 unfold dN;split
 ·exact⟨abz _,by show 1<=_;omega⟩
 ·exact⟨Nat.div_le_self _ _,aax (Nat.div_le_self _ _) (by omega)⟩
theorem abm {l:List UInt8} {i:Nat} (hx:l[i]?=some 47) (h:∀j x,j<i->l[j]?=some x->x≠47):iJ l=true/\dy l=l.take i/\dw l=l.drop (i+1):=by
 refine⟨?_,?_,?_⟩
 ·unfold iJ;rw[List.contains_eq_mem];simpa using acq hx
 ·unfold dy;induction l generalizing i with
  | nil=>cases hx
  | cons y l ih=>
   cases i with
   | zero=>simp at hx;subst hx;simp
   | succ i=>
    have hy:=h 0 y (by omega) rfl;rw[ade,if_pos (by simpa using hy),List.take_succ_cons];congr 1
    exact ih (i:=i) (by simpa using hx) (λj x hj hx=>h (j+1) x (by omega) (by simpa using hx))
 ·unfold dw;induction l generalizing i with
  | nil=>cases hx
  | cons y l ih=>
   cases i with
   | zero=>simp at hx;subst hx;simp
   | succ i=>
    have hy:=h 0 y (by omega) rfl;rw[List.dropWhile_cons,if_pos (by simpa using hy),List.drop_succ_cons];exact ih (i:=i) (by simpa using hx) (λj x hj hx=>h (j+1) x (by omega) (by simpa using hx))
theorem abl {l:List UInt8} (h:∀(j:Nat) (x:UInt8),l[j]?=some x->x≠47):iJ l=false:=by
 unfold iJ;rw[List.contains_eq_mem,decide_eq_false_iff_not];intro hm;obtain⟨j,hj,e⟩:=List.getElem_of_mem hm;exact h j _ (aac hj) e
noncomputable def C5:eP Tryz.prog:=bA pG [⟨_,_,_,nK⟩,⟨_,_,_,Zh⟩,⟨_,_,_,VN⟩,⟨_,_,_,Yk⟩] [⟨_,_,_,_,_,jN⟩,⟨_,_,_,_,_,rk⟩]
abbrev sRb:SS:=.box 28 [.d .bool,.d (.list .limb),.d (.list .limb)]
abbrev Wz:=eB [.d .bool,.d (.list .limb),.d (.list .limb)]
abbrev rkL:List (Nat×SS):=[(0,sN),(3,Mo),(4,sRb),(5,sS),(6,sI)]
abbrev rkO:List (Nat×SS):=[(0,sN),(3,Mo),(4,sRb)]
abbrev Ww:=LE rkL rkO [(0,sN)]
def YQ (x:gx) (f:zo) (r:Wz) (s:ByteArray) (i:Int):Ww:=.back (x,f,r,s,i,())
def u5 (x:gx) (f:zo) (r:Wz):Ww:=.out (x,f,r,())
def u4 (a:XV) (x:gx):Ww:=.ret a (x,())
def rZ:XV:=.agg [.val (.bool false),.val (.slice none 0 0),.val (.slice none 0 0)]
def rk4 (x:gx) (f:zo):T Ww:=.nd ((0:Int)≠4) (.lf (u4 rZ (x.note 4 f.ln)))
def Mp (n:Int):lk:=QT (dN false n.toNat 1)
def rkD (x:gx) (a b:Int):T Ww:=.nd (0<=a/\a<9223372036854775808) (.nd (0<=b/\b<9223372036854775808) (.nd (FB (2^100) (Mp a)/\FB (2^100) (Mp b)) (.nd (FB 4294967296 (QT (LM (uJ (Mp a)) (uJ (Mp b))))) (.lf (u4 (aR (uJ (QT (LM (uJ (Mp a)) (uJ (Mp b))))).raw) x)))))
def rkC (x:gx) (f:zo) (r:Wz) (p q:Int×Bool):T Ww:=.br (!p.2) (.lf (u5 x f r)) (.br (!q.2) (.lf (u5 x f r)) (.br (q.1==0) (rk4 x f) (.nd (cw (1000*p.1)) (.br (decide (1000*p.1<q.1)) (rk4 x f) (.nd (cw (2*p.1)) (.br (decide (2*p.1>q.1)) (rk4 x f) (rkD x p.1 q.1)))))))
def rkB (x:gx) (f:zo) (r:Wz) (s:ByteArray) (i:Int):T Ww:=.br (decide (i<s.size)) (.nd (0<=i/\i<s.size) (.br (!(((s.data.toList.getD i.toNat 0).toNat:Int)==47)) (.nd (cw (i+1)) (.lf (YQ x f r s (i+1))))
 (.nd ((0:Int)<=0/\0<=i/\i<=s.size) (.nd ((s.extract (Int.toNat 0) i.toNat).size<=9223372036854775807) (.nd (cw (i+1)) (.nd (0<=i+1/\i+1<=s.size/\(s.size:Int)<=s.size) (.nd ((s.extract (i+1).toNat (s.size:Int).toNat).size<=9223372036854775807) (rkC x f r (cW (s.extract (Int.toNat 0) i.toNat).data.toList) (cW (s.extract (i+1).toNat (s.size:Int).toNat).data.toList)))))))))
 (.lf (u5 x f r))
def YP (x:gx) (f:zo) (r:Wz) (l:List UInt8):T Ww:=.br (decide ((dR l).1=5)) (.lf (u5 x f r)) (.br (decide ((dR l).1=4)) (.lf (u4 rZ (x.note 4 f.ln))) (.lf (u4 (aR (dR l).2) x)))
def rkN (l:List UInt8) (i:Int):Prop:=0<=i/\i<=l.length/\l.length<=9223372036854775807/\∀(j:Nat) (x:UInt8),j<i.toNat->l[j]?=some x->x≠47
theorem TA {x:gx} {f:zo} {r:Wz} {l p q:List UInt8} (hF:iJ l=true) (hA:dy l=p) (hB:dw l=q) {z:Ww} (h:(YP x f r l).hit z):(rkC x f r (cW p) (cW q)).hit z:=by
 have hr:dR l=if((cW p).2&&(cW q).2)=false then(5,⟨false,[],[]⟩) else if(cW q).1=0\/1000*(cW p).1<(cW q).1\/(cW q).1<2*(cW p).1 then(4,⟨false,[],[]⟩) else(0,(dN false (cW p).1.toNat (cW q).1.toNat).raw):=by
  unfold dR;rw[hF,hA,hB];simp
 unfold YP at h;rw[hr] at h;have out:((cW p).2&&(cW q).2)=false->u5 x f r=z:=λe=>by rw[if_pos e] at h;exact h.1 rfl
 have four:((cW p).2&&(cW q).2)=true->((cW q).1=0\/1000*(cW p).1<(cW q).1\/(cW q).1<2*(cW p).1)->(rk4 x f).hit z:=λe e2=>by
  rw[if_neg (by rw[e];simp),if_pos e2] at h;exact⟨by decide,(h.2 rfl).1 rfl⟩
 unfold rkC;cases hp:(cW p).2 with
 | false=>exact aC rfl (out (by rw[hp];rfl))
 | true=>
  refine aK rfl ?_;cases hq:(cW q).2 with
  | false=>exact aC rfl (out (by rw[hp,hq];rfl))
  | true=>
   have e:((cW p).2&&(cW q).2)=true:=by rw[hp,hq];rfl
   obtain⟨p0,p1⟩:=vp hp;obtain⟨q0,q1⟩:=vp hq;refine aK rfl ⟨λe0=>four e (.inl (beq_iff_eq.1 e0)),λe0=>⟨⟨by omega,by omega⟩,⟨λe1=>four e (.inr (.inl (of_decide_eq_true e1))),λe1=>⟨⟨by omega,by omega⟩,⟨λe2=>four e (.inr (.inr (of_decide_eq_true e2))),λe2=>?_⟩⟩⟩⟩⟩;have e0:=beq_eq_false_iff_ne.1 e0;have e1:=of_decide_eq_false e1;have e2:=of_decide_eq_false e2;rw[if_neg (by rw[e];simp),if_neg (by omega)] at h;have h:=(h.2 rfl).2 rfl;have h:u4 (aR (dN false (cW p).1.toNat (cW q).1.toNat).raw) x=z:=h;subst h;have u:∀n:Int,uJ (Mp n)=⟨false,n.toNat,1⟩:=λn=>by unfold Mp;rw[rq,Iz]
   have ok:∀(n:Int) (m:Nat),n.toNat<m->1<m->FB m (Mp n):=λn m h h1=>by
    unfold FB;rw[u];exact⟨by unfold Mp;rw[Iz],h,h1⟩
   have hd:LM (uJ (Mp (cW p).1)) (uJ (Mp (cW q).1))=dN false (cW p).1.toNat (cW q).1.toNat:=by
    rw[u,u];unfold LM;simp
   have By:=OK false (cW p).1.toNat (cW q).1.toNat;refine⟨⟨p0,by omega⟩,⟨q0,by omega⟩,⟨ok _ _ (by omega) (by omega),ok _ _ (by omega) (by omega)⟩,?_,?_⟩
   ·rw[hd];unfold FB;rw[rq];exact⟨rfl,by omega,by omega⟩
   ·rw[hd,rq];rfl
theorem TB:cL (EK C5 Tryz.f154 pN) 0 0 rkL rkO [(0,sN)] λ((x:gx),(f:zo),(r:Wz),(s:ByteArray),(i:Int),_)=>.nd (rkN s.data.toList i) (YP x f r s.data.toList):=by
 refine fy _ (nL _ _) 99 0 0 rkL rkO [(0,sN)] (λ((x:gx),(f:zo),(r:Wz),(s:ByteArray),(i:Int),_)=>rkB x f r s i) (λ(_,_,_,(s:ByteArray),(i:Int),_)=>s.size-i.toNat) ?_;rintro⟨(x:gx),(f:zo),(r:Wz),(s:ByteArray),(i:Int),_⟩ z _ ⟨⟨h0,h1,h2,h3⟩,h⟩;have bJ:s.data.toList.length=s.size:=abK;obtain⟨k,rfl⟩:∃k:Nat,i=k:=⟨i.toNat,by omega⟩;show∃q,(rkB x f r s k).hit q/\_;unfold rkB;by_cases hk:k<s.size
 ·have hx:s.data.toList[k]?=some (s.data.toList.getD k 0):=by rw[aal,aac (by omega)];rfl
  by_cases hc:s.data.toList.getD k 0=47
  ·obtain⟨c1,c2,c3⟩:=abm (l:=s.data.toList) (i:=k) (by rw[hx,hc]) h3;have e1:(s.extract (Int.toNat 0) (k:Int).toNat)=⟨(s.data.toList.take k).toArray⟩:=exT s k;have e2:(s.extract ((k:Int)+1).toNat (s.size:Int).toNat)=⟨(s.data.toList.drop (k+1)).toArray⟩:=exD s (k+1);refine⟨z,aC (decide_eq_true (by omega)) ⟨⟨by omega,by omega⟩,aK (by rw[aae,hc];rfl) ⟨⟨by omega,by omega,by omega⟩,?_,⟨by omega,by omega⟩,⟨by omega,by omega,by omega⟩,?_,TA c1 ?_ ?_ h⟩⟩,?_⟩
   ·rw[e1];show(List.take k s.data.toList).toArray.size<=_;rw[acc,abD];omega
   ·rw[e2];show(List.drop (k+1) s.data.toList).toArray.size<=_;rw[acc,abw];omega
   ·rw[c2,e1]
   ·rw[c3,e2]
   ·have h:(YP x f r s.data.toList).hit z:=h;unfold YP at h;rcases hB h with⟨_,h⟩|⟨_,h⟩
    ·obtain rfl:u5 x f r=z:=h;rfl
    ·rcases hB h with⟨_,h⟩|⟨_,h⟩
     ·obtain rfl:u4 rZ (x.note 4 f.ln)=z:=h;rfl
     ·obtain rfl:u4 (aR (dR s.data.toList).2) x=z:=h;rfl
  ·refine⟨_,aC (decide_eq_true (by omega)) ⟨⟨by omega,by omega⟩,aC ?_ ⟨⟨by omega,by omega⟩,rfl⟩⟩,?_,⟨by omega,by omega,h2,λj y hj hy=>?_⟩,h⟩
   ·rw[aae,acs,beq_eq_false_iff_ne];intro e;exact hc (UInt8.toNat_inj.1 (by have:(47:UInt8).toNat=47:=rfl;omega))
   ·show s.size-(k+1)<s.size-k;omega
   ·by_cases tR:j=k
    ·subst tR;rw[hx] at hy;exact aaj hy▸hc
    ·exact h3 j y (by omega) hy
 ·refine⟨z,aK (decide_eq_false (by omega)) ?_,?_⟩
  all_goals
   have PL:iJ s.data.toList=false:=abl λj y hy=>h3 j y (by have:=(aad.1 hy).1;omega) hy;have h:(YP x f r s.data.toList).hit z:=h;have h5:(dR s.data.toList).1=5:=by unfold dR;rw[if_pos (.inl PL)]
   unfold YP at h;have h:=h.1 (decide_eq_true h5);obtain rfl:u5 x f r=z:=h;rfl
theorem NR (l:List UInt8):(dR l).1=5\/(dR l).1=4\/(dR l).1=0:=by
 unfold dR;split
 ·exact .inl rfl
 ·split
  ·exact .inr (.inl rfl)
  ·exact .inr (.inr rfl)
def rZs:XV:=.agg [.sym (.bool false),.val (.slice none 0 0),.val (.slice none 0 0)]
def EA (f:ai):List UInt8:=(bf f.vals).data.toList
theorem NQ:ew Tryz.prog 154 pN [(0,sN),(1,sF)] [(0,sN)] λ((x:gx),(f:ai),_)=>.nd ((bf f.vals).size<=9223372036854775807) (.br (decide ((dR (EA f)).1=0)) (.lf (an (aR (dR (EA f)).2) (x.note (jZ f.vals) f.line))) (.lf (an rZs (x.note (jZ f.vals) f.line)))):=by
 refine iA (C:=C5) (pb:=pN) ((nL _ _).add 0 _ TB) 99 [(0,sN),(1,sF)] [(0,sN)] (λ((x:gx),(f:ai),_)=>.nd (rkN (EA f) 0) (.br (decide ((dR (EA f)).1=5)) (.nd ((0:Int)≠5) (.lf (an rZs ((x.note (cZ f.vals) f.line).note 5 f.line)))) (.br (decide ((dR (EA f)).1=4)) (.lf (an rZs ((x.note (cZ f.vals) f.line).note 4 f.line))) (.lf (an (aR (dR (EA f)).2) (x.note (cZ f.vals) f.line)))))) ?_ Tryz.func154;rintro⟨(x:gx),(f:ai),_⟩ r _ ⟨hs,h⟩;refine⟨⟨by omega,by omega,by have:(EA f).length=(bf f.vals).size:=abK;omega,λj y hj=>absurd hj (Nat.not_lt_zero _)⟩,?_⟩;have h0:f.vals.length≠1->(dR (EA f)).1=5:=λe=>by unfold EA bf;rw[if_pos e];rfl
 have hc:∀c,(dR (EA f)).1=c->(if cZ f.vals=0 then c else cZ f.vals)=jZ f.vals:=λc e=>by
  unfold jZ cZ;by_cases hv:f.vals.length≠1
  ·rw[if_pos hv,if_pos hv];rfl
  ·rw[if_neg hv,if_neg hv,if_pos rfl];exact e.symm
 rcases NR (EA f) with e|e|e
 ·have h:=h.2 (by rw[e];rfl);obtain rfl:an rZs (x.note (jZ f.vals) f.line)=r:=h;exact aC (by rw[e];rfl) ⟨by decide,Ed (hc 5 e)⟩
 ·have h:=h.2 (by rw[e];rfl);obtain rfl:an rZs (x.note (jZ f.vals) f.line)=r:=h;exact aK (by rw[e];rfl) (aC (by rw[e];rfl) (Ed (hc 4 e)))
 ·have h:=h.1 (by rw[e];rfl);obtain rfl:an (aR (dR (EA f)).2) (x.note (jZ f.vals) f.line)=r:=h;refine aK (by rw[e];rfl) (aK (by rw[e];rfl) (Mg ?_));have:=hc 0 e;by_cases hv:f.vals.length=1
  ·rw[<-this];split
   ·assumption
   ·rfl
  ·have:=h0 hv;omega
noncomputable def C6:eP Tryz.prog:=bA pG [] [⟨_,_,_,_,_,Pq⟩,⟨_,_,_,_,_,vJ⟩,⟨_,_,_,_,_,NQ⟩,⟨_,_,_,_,_,B7⟩]
abbrev stM:List CS:=[.d .str,.d tI,.d tI,.d tI,.d (.list .str),.any,.any,.d tI,.d tI,.d .bool,.d (.list .limb),.d (.list .limb),.d tI,.d .str,.any,.any,.any,.d tI,.d tI]
abbrev sM:SS:=.box 118 stM
abbrev pM:List Nat:=[0,1,2,3,4,5]
abbrev StM:=eB stM
def StM.f (x:StM):Int×Int:=(x.2.2.2.2.2.2.2.2.2.2.2.2.2.2.2.2.2.1,x.2.2.2.2.2.2.2.2.2.2.2.2.2.2.2.2.2.2.1)
def StM.setF (x:StM) (p:Int×Int):StM:=(x.1,x.2.1,x.2.2.1,x.2.2.2.1,x.2.2.2.2.1,x.2.2.2.2.2.1,x.2.2.2.2.2.2.1,x.2.2.2.2.2.2.2.1,x.2.2.2.2.2.2.2.2.1,x.2.2.2.2.2.2.2.2.2.1,x.2.2.2.2.2.2.2.2.2.2.1,x.2.2.2.2.2.2.2.2.2.2.2.1,x.2.2.2.2.2.2.2.2.2.2.2.2.1,x.2.2.2.2.2.2.2.2.2.2.2.2.2.1,x.2.2.2.2.2.2.2.2.2.2.2.2.2.2.1,x.2.2.2.2.2.2.2.2.2.2.2.2.2.2.2.1,x.2.2.2.2.2.2.2.2.2.2.2.2.2.2.2.2.1,p.1,p.2,())
def StM.note (x:StM) (no line:Int):StM:=x.setF (nt x.f no line)
abbrev Ee (r:XV) (x:StM):XV×StM×Unit:=(r,x,())
abbrev SRM:=XV×StM×Unit
namespace StM
def dots (x:StM) (v:Int):StM:=(x.1,v,x.2.2)
def blank (x:StM) (v:Int):StM:=(x.1,x.2.1,v,x.2.2.2)
def marked (x:StM) (v:Int):StM:=(x.1,x.2.1,x.2.2.1,v,x.2.2.2.2)
def prec (x:StM) (v:List ByteArray):StM:=(x.1,x.2.1,x.2.2.1,x.2.2.2.1,v,x.2.2.2.2.2)
def scan (x:StM) (v:Int):StM:=(x.1,x.2.1,x.2.2.1,x.2.2.2.1,x.2.2.2.2.1,x.2.2.2.2.2.1,x.2.2.2.2.2.2.1,v,x.2.2.2.2.2.2.2.2)
def batch (x:StM) (v:Int):StM:=(x.1,x.2.1,x.2.2.1,x.2.2.2.1,x.2.2.2.2.1,x.2.2.2.2.2.1,x.2.2.2.2.2.2.1,x.2.2.2.2.2.2.2.1,v,x.2.2.2.2.2.2.2.2.2)
def risk (x:StM) (v:Raw):StM:=(x.1,x.2.1,x.2.2.1,x.2.2.2.1,x.2.2.2.2.1,x.2.2.2.2.2.1,x.2.2.2.2.2.2.1,x.2.2.2.2.2.2.2.1,x.2.2.2.2.2.2.2.2.1,v.neg,v.num,v.den,x.2.2.2.2.2.2.2.2.2.2.2.2)
def cell (x:StM) (v:Int):StM:=(x.1,x.2.1,x.2.2.1,x.2.2.2.1,x.2.2.2.2.1,x.2.2.2.2.2.1,x.2.2.2.2.2.2.1,x.2.2.2.2.2.2.2.1,x.2.2.2.2.2.2.2.2.1,x.2.2.2.2.2.2.2.2.2.1,x.2.2.2.2.2.2.2.2.2.2.1,x.2.2.2.2.2.2.2.2.2.2.2.1,v,x.2.2.2.2.2.2.2.2.2.2.2.2.2)
def seed (x:StM) (v:ByteArray):StM:=(x.1,x.2.1,x.2.2.1,x.2.2.2.1,x.2.2.2.2.1,x.2.2.2.2.2.1,x.2.2.2.2.2.2.1,x.2.2.2.2.2.2.2.1,x.2.2.2.2.2.2.2.2.1,x.2.2.2.2.2.2.2.2.2.1,x.2.2.2.2.2.2.2.2.2.2.1,x.2.2.2.2.2.2.2.2.2.2.2.1,x.2.2.2.2.2.2.2.2.2.2.2.2.1,v,x.2.2.2.2.2.2.2.2.2.2.2.2.2.2)
end StM
def sf (x:StM) (kind:ByteArray) (f:ai):StM:=
 if cG kind f.key=cG bZ iK then(x.note (qY f.vals 2 7) f.line).dots (lm f.vals)
 else if cG kind f.key=cG bZ cF then(x.note (qY f.vals 1 100) f.line).blank (lm f.vals)
 else if cG kind f.key=cG bZ bO then(x.note (qY f.vals 1 100) f.line).marked (lm f.vals)
 else if cG kind f.key=cG aX fJ then(x.note (qY f.vals 1 6) f.line).scan (lm f.vals)
 else if cG kind f.key=cG aX fL then(x.note (qY f.vals 1 16) f.line).batch (lm f.vals)
 else if cG kind f.key=cG af eA then(x.note (dl f.vals 12) f.line).prec f.vals
 else if cG kind f.key=cG bP dZ then(x.note (jZ f.vals) f.line).risk (dR (EA f)).2
 else if cG kind f.key=cG bP gJ then(x.note (mN f.vals) f.line).seed (bf f.vals)
 else if cG kind f.key=cG bB iL then(x.note (qY f.vals 1 400) f.line).cell (lm f.vals)
 else x
def jn (a b:ByteArray):ByteArray:=⟨(cG a b).toArray⟩
def Pj (k key a b:ByteArray):Bool:=(k++⟨#[32]⟩++key).toList==(jn a b).toList
theorem lG {k key a b:ByteArray}:cG k key=cG a b↔Pj k key a b=true:=by
 unfold Pj;rw[zw];constructor
 ·intro h;refine ByteArray.ext (Array.ext' ?_);simpa[cG,jn] using h
 ·intro h;have:=congrArg (λb=>b.data.toList) h;simpa[cG,jn] using this
def fdV (x:StM) (f:ai) (c:Int) (g:StM->StM):T SRM:=.nd ((bf f.vals).size<=9223372036854775807) (.lf (Ee (.tup []) (g (x.note c f.line))))
def fdI (x:StM) (f:ai) (lo hi:Int) (g:StM->Int->StM):T SRM:=fdV x f (qY f.vals lo hi) λy=>g y (lm f.vals)
def fdB (x:StM) (k:ByteArray) (f:ai):T SRM:=.nd (k.size+(⟨#[32]⟩:ByteArray).size<=9223372036854775807) (.nd ((k++⟨#[32]⟩).size+f.key.size<=9223372036854775807)
 (.br (Pj k f.key bZ iK) (fdI x f 2 7 .dots) (.br (Pj k f.key bZ cF) (fdI x f 1 100 .blank) (.br (Pj k f.key bZ bO) (fdI x f 1 100 .marked)
 (.br (Pj k f.key aX fJ) (fdI x f 1 6 .scan) (.br (Pj k f.key aX fL) (fdI x f 1 16 .batch)
 (.br (Pj k f.key af eA) (.nd (E9 f.vals/\(0:Int)<=12/\f.vals.length<=1099511627776) (.lf (Ee (.tup []) ((x.note (dl f.vals 12) f.line).prec f.vals))))
 (.br (Pj k f.key bP dZ) (.nd ((bf f.vals).size<=9223372036854775807) (.br (decide ((dR (EA f)).1=0)) (.lf (Ee (.tup []) ((x.note (jZ f.vals) f.line).risk (dR (EA f)).2))) (.lf (Ee (.tup []) ((x.note (jZ f.vals) f.line).risk ⟨false,[],[]⟩)))))
 (.br (Pj k f.key bP gJ) (fdV x f (mN f.vals) λy=>y.seed (bf f.vals))
 (.br (Pj k f.key bB iL) (fdI x f 1 400 .cell) (.lf (Ee (.tup []) x))))))))))))
def LD (k:ByteArray) (f:ai):Prop:=fOk f/\k.size<=1152921504606846976/\f.key.size<=1152921504606846976
theorem LB:ew Tryz.prog 114 pM [(0,sM),(1,sS),(2,sF)] [(0,sM)] λ((x:StM),(k:ByteArray),(f:ai),_)=>.nd (LD k f) (.lf (Ee (.tup []) (sf x k f))):=by
 refine iA (C:=C6) (pb:=pM) (nL _ _) 99 [(0,sM),(1,sS),(2,sF)] [(0,sM)] (λ((x:StM),(k:ByteArray),(f:ai),_)=>fdB x k f) ?_ Tryz.func114;rintro⟨(x:StM),(k:ByteArray),(f:ai),_⟩ r _ ⟨⟨⟨h1,h2⟩,h3,h4⟩,hr⟩;obtain rfl:Ee (.tup []) (sf x k f)=r:=hr;have hv:=BH h1;have ho:∀c g,(fdV x f c g).hit (Ee (.tup []) (g (x.note c f.line))):=λc g=>⟨hv,rfl⟩;have e1:(⟨#[32]⟩:ByteArray).size=1:=rfl;refine⟨by omega,by rw[ac2];omega,?_⟩;unfold sf;refine js (F:=Ee (.tup [])) lG (ho _ _) (js (F:=Ee (.tup [])) lG (ho _ _) (js (F:=Ee (.tup [])) lG (ho _ _) (js (F:=Ee (.tup [])) lG (ho _ _) (js (F:=Ee (.tup [])) lG (ho _ _) (js (F:=Ee (.tup [])) lG ⟨⟨h1,by decide,h2⟩,rfl⟩ (js (F:=Ee (.tup [])) lG ⟨hv,?_⟩ (js (F:=Ee (.tup [])) lG (ho _ λy=>y.seed (bf f.vals)) (js (F:=Ee (.tup [])) lG (ho _ _) rfl))))))));refine⟨λ_=>rfl,λe=>?_⟩;have:(dR (EA f)).2=⟨false,[],[]⟩:=by
  have e:=of_decide_eq_false e
  revert e
  unfold dR;split
  ·exact λ_=>rfl
  ·split
   ·exact λ_=>rfl
   ·exact λe=>absurd rfl e
 rw[this];rfl
noncomputable def adF (t:TypeId):Option Ty:=List.lookup t [(9,.str),(3,tI),(87,.st 3),(42,.st 10),(189,.st 7),(188,.st 6)]
noncomputable def C7:eP Tryz.prog:=bA adF [⟨_,_,_,find_ok⟩,⟨_,_,_,qg⟩] [⟨_,_,_,_,_,jN⟩,⟨_,_,_,_,_,QX⟩,⟨_,_,_,_,_,LB⟩,⟨_,_,_,_,_,vJ⟩,⟨_,_,_,_,_,P4⟩]
abbrev sNb:SS:=.box 188 [.d (.list .str),.d (.list .str)]
abbrev sLb:SS:=.box 189 [.d tI,.d tI]
abbrev xd:=eB [.d (.list .str),.d (.list .str)]
abbrev xf:=eB [.d tI,.d tI]
abbrev R4:SS:=.c (.own .str 9)
abbrev bkL:List (Nat×SS):=[(0,sT),(3,sBb),(4,R4),(5,YC),(6,sNb),(7,sLb),(8,sI),(9,sI),(10,sI)]
abbrev bkO:List (Nat×SS):=[(0,sT),(3,sBb),(4,R4),(5,YC),(6,sNb),(7,sLb),(8,sI),(9,sI)]
noncomputable abbrev bfn:=Tryz.f63
def aW.m (x:aW):StM:=(x.1,x.2.1,x.2.2.1,x.2.2.2.1,x.2.2.2.2.1,(),(),x.2.2.2.2.2.2.2.1,x.2.2.2.2.2.2.2.2.1,x.2.2.2.2.2.2.2.2.2.1,x.2.2.2.2.2.2.2.2.2.2.1,x.2.2.2.2.2.2.2.2.2.2.2.1,x.2.2.2.2.2.2.2.2.2.2.2.2.1,x.2.2.2.2.2.2.2.2.2.2.2.2.2.1,(),(),(),x.f.1,x.f.2,())
def aW.setM (x:aW) (y:StM):aW:=(y.1,y.2.1,y.2.2.1,y.2.2.2.1,y.2.2.2.2.1,x.2.2.2.2.2.1,x.2.2.2.2.2.2.1,y.2.2.2.2.2.2.2.1,y.2.2.2.2.2.2.2.2.1,y.2.2.2.2.2.2.2.2.2.1,y.2.2.2.2.2.2.2.2.2.2.1,y.2.2.2.2.2.2.2.2.2.2.2.1,y.2.2.2.2.2.2.2.2.2.2.2.2.1,y.2.2.2.2.2.2.2.2.2.2.2.2.2.1,x.2.2.2.2.2.2.2.2.2.2.2.2.2.2.1,x.2.2.2.2.2.2.2.2.2.2.2.2.2.2.2.1,x.2.2.2.2.2.2.2.2.2.2.2.2.2.2.2.2.1,y.f.1,y.f.2,())
def aW.setE (x:aW) (e:aa) (f:dG):aW:=(e.title,e.dots,e.blank,e.marked,e.prec,x.2.2.2.2.2.1,x.2.2.2.2.2.2.1,e.scan,e.batch,e.risk.neg,e.risk.num,e.risk.den,e.cell,e.seed,x.2.2.2.2.2.2.2.2.2.2.2.2.2.2.1,x.2.2.2.2.2.2.2.2.2.2.2.2.2.2.2.1,x.2.2.2.2.2.2.2.2.2.2.2.2.2.2.2.2.1,f.no,f.line,())
def loc (x:aW) (kn:List ByteArray) (c:nD) (nm:xd) (ln:xf) (d s:Int):em:=⟨x.e,⟨x.f.1,x.f.2⟩,kn.reverse,Mx c,nm.1,nm.2.1,ln.1,ln.2.1,d,s⟩
def jw.kind (b:jw):ByteArray:=b.1
abbrev G0:=LE bkL bkO [(0,sT)]
def Rp (b:jw) (x:aW) (kn:List ByteArray) (c:nD) (nm:xd) (ln:xf) (d s i:Int):G0:=.back (x,b,kn,c,nm,ln,d,s,i,())
def D6 (b:jw) (x:aW) (kn:List ByteArray) (c:nD) (nm:xd) (ln:xf) (d s:Int):G0:=.out (x,b,kn,c,nm,ln,d,s,())
def Wh (b:jw) (x:aW) (kn:List ByteArray) (c:nD) (nm:xd) (ln:xf) (d s i:Int):T G0:=.nd (cw (i+1)) (.lf (Rp b x kn c nm ln d s (i+1)))
def agO (x:aW) (f:ai) (k:Int) (t:aW->T G0):T G0:=.nd (E9 f.vals/\(0:Int)<=k/\f.vals.length<=1099511627776) (t (x.note (dl f.vals k) f.line))
def bkC (b:jw) (x:aW) (kn:List ByteArray) (c:nD) (nm:xd) (ln:xf) (d s i:Int) (f:ai):T G0:=
 .br (f.key.toList==aH.toList) (.br (f.key.toList==bH.toList) (Wh b x kn c nm ln f.line f.line i) (Wh b x kn c nm ln f.line s i)) (.br (f.key.toList==bH.toList) (Wh b x kn c nm ln d f.line i) (Wh b x kn c nm ln d s i))
def bkF (b:jw) (x:aW) (kn:List ByteArray) (c:nD) (nm:xd) (ln:xf) (d s i:Int) (f:ai):T G0:=.nd (LD b.kind f) (Wh b (x.setM (sf x.m b.kind f)) kn c nm ln d s i)
def bk2 (b:jw) (x:aW) (kn:List ByteArray) (c:nD) (nm:xd) (ln:xf) (d s i:Int) (f:ai):T G0:=
 .br (is aG b) (agO x f 4 λx=>Wh b x kn c (nm.1,f.vals,()) (ln.1,f.line,()) d s i) (bkF b x kn c nm ln d s i f)
def bkR (b:jw) (x:aW) (kn:List ByteArray) (c:nD) (nm:xd) (ln:xf) (d s i:Int) (f:ai):T G0:=
 .br (!(x.err==0)) (Wh b x kn c nm ln d s i)
 (.br (is ar b) (.nd (fOk f) (bkC b (x.note (kg (Mx c) f).2 f.line) kn (Mw (kg (Mx c) f).1) nm ln d s i f))
 (.br (is aG b) (.br (f.key.toList==af.toList) (agO x f 12 λx=>Wh b x kn c (f.vals,nm.2.1,()) (f.line,ln.2.1,()) d s i) (bk2 b x kn c nm ln d s i f)) (bk2 b x kn c nm ln d s i f)))
def abR (b:jw) (x:aW) (kn:List ByteArray) (c:nD) (nm:xd) (ln:xf) (d s i:Int) (f:ai):T G0:=.nd ((kn.length+1)*17<=140737488355328) (bkR b x (f.key::kn) c nm ln d s i f)
def bkA (b:jw) (x:aW) (kn:List ByteArray) (c:nD) (nm:xd) (ln:xf) (d s i:Int) (f:ai):T G0:=
 .br (decide (Lib.idxOfS kn.reverse f.key>=0)) (.nd ((0:Int)≠3) (abR b (x.note 3 f.line) kn c nm ln d s i f)) (abR b x kn c nm ln d s i f)
def bkB (b:jw) (x:aW) (kn:List ByteArray) (c:nD) (nm:xd) (ln:xf) (d s i:Int) (f:ai):T G0:=
 .br (decide (Lib.idxOfS (aO b.kind) f.key<0)) (.nd ((0:Int)≠2) (bkA b (x.note 2 f.line) kn c nm ln d s i f)) (bkA b x kn c nm ln d s i f)
def ai.zero:ai:=⟨⟨#[]⟩,[],0⟩
def jw.fs (b:jw):List ai:=b.2.2.1
def bkT (b:jw) (x:aW) (kn:List ByteArray) (c:nD) (nm:xd) (ln:xf) (d s i:Int):T G0:=
 .br (decide (i<b.fs.length)) (.br (x.err==0) (.nd (0<=i/\i<b.fs.length) (bkB b x kn c nm ln d s i (b.fs.getD i.toNat ai.zero))) (.lf (D6 b x kn c nm ln d s))) (.lf (D6 b x kn c nm ln d s))
theorem Gf (p:Int×Int) (no line:Int):(⟨p.1,p.2⟩:dG).note no line=⟨(nt p no line).1,(nt p no line).2⟩:=by
 unfold dG.note nt;by_cases h:p.1=0/\no≠0
 ·rw[if_pos h,if_pos h]
 ·rw[if_neg h,if_neg h]
def aW.er (x:aW):dG:=⟨x.f.1,x.f.2⟩
theorem nX (x:aW) (no line:Int):(x.note no line).er=x.er.note no line:=(Gf x.f no line).symm
theorem nM (x:aW) (no line:Int):x.note no line=x.setE x.e (x.er.note no line):=by rw[<-nX];rfl
theorem Qv (x:aW) (k:ByteArray) (f:ai):x.setM (sf x.m k f)=x.setE (gT k x.e f).1 (x.er.note (gT k x.e f).2 f.line):=by
 have h:∀c,x.er.note c f.line=⟨(nt x.f c f.line).1,(nt x.f c f.line).2⟩:=λc=>Gf x.f c f.line;rw[h];unfold sf gT;split
 ·rfl
 split
 ·rfl
 split
 ·rfl
 split
 ·rfl
 split
 ·rfl
 split
 ·rfl
 split
 ·rfl
 split
 ·rfl
 split
 ·rfl
 rw[Oq];rfl
theorem Dr (k:ByteArray) (e:aa) (f:ai):(gT k e f).1.cont=e.cont/\(gT k e f).1.styl=e.styl:=by
 unfold gT;repeat (split;· exact⟨rfl,rfl⟩)
 exact⟨rfl,rfl⟩
def wW (b:jw) (x:aW) (y:em) (i:Int):G0:=Rp b (x.setE y.e y.f) y.known.reverse (Mw y.c) (y.n0,y.n1,()) (y.l0,y.l1,()) y.digits y.seats i
def D7 (b:jw) (x:aW) (y:em):G0:=D6 b (x.setE y.e y.f) y.known.reverse (Mw y.c) (y.n0,y.n1,()) (y.l0,y.l1,()) y.digits y.seats
theorem OQ {x:aW} {y:em} (h1:y.e.cont=x.cont) (h2:y.e.styl=x.styl):loc (x.setE y.e y.f) y.known.reverse (Mw y.c) (y.n0,y.n1,()) (y.l0,y.l1,()) y.digits y.seats=y:=by
 have:(x.setE y.e y.f).e=y.e:=by
  show(⟨y.e.title,y.e.dots,y.e.blank,y.e.marked,y.e.prec,x.cont,x.styl,y.e.scan,y.e.batch,⟨y.e.risk.neg,y.e.risk.num,y.e.risk.den⟩,y.e.cell,y.e.seed⟩:aa)=y.e;rw[<-h1,<-h2]
 show(⟨(x.setE y.e y.f).e,y.f,y.known.reverse.reverse,y.c,y.n0,y.n1,y.l0,y.l1,y.digits,y.seats⟩:em)=_;rw[this,aat]
theorem uO (k:ByteArray) (y:em) (f:ai):(eK k y f).e.cont=y.e.cont/\(eK k y f).e.styl=y.e.styl:=by
 unfold eK;simp only;generalize (y.f.note (if dc (aO k) f.key=true then 0 else 2) f.line).note (if dc y.known f.key=true then 3 else 0) f.line=f2;repeat (split;· exact⟨rfl,rfl⟩)
 exact Dr k y.e f
theorem isB {k:ByteArray} {b:jw}:is k b=true↔b.kind=k:=zw
theorem Wi (b:jw) (x:aW) (kn:List ByteArray) (c:nD) (nm:xd) (ln:xf) (d s i:Int) (f:ai) (hf:LD b.kind f) (hk:(kn.length+1)*17<=140737488355328) (hi:cw (i+1)):(bkB b x kn c nm ln d s i f).hit (wW b x (eK b.kind (loc x kn c nm ln d s) f) (i+1)):=by
 obtain⟨⟨f1,f2⟩,_⟩:=hf;have hR:∀z:aW,z.er=((x.er.note (if dc (aO b.kind) f.key=true then 0 else 2) f.line).note (if dc kn.reverse f.key=true then 3 else 0) f.line)->z=x.setE x.e z.er->(bkR b z (f.key::kn) c nm ln d s i f).hit (wW b x (eK b.kind (loc x kn c nm ln d s) f) (i+1)):=by
  intro z he hz;have Pz:(kn.reverse++[f.key]).reverse=f.key::kn:=by simp
  have hnt:∀no,z.note no f.line=x.setE x.e (z.er.note no f.line):=λno=>by
   rw[nM,hz];rfl
  unfold eK bkR;simp only;have hs:(loc x kn c nm ln d s).f=x.er:=rfl;have EC:(loc x kn c nm ln d s).known=kn.reverse:=rfl;rw[hs,EC,<-he];by_cases h0:z.er.no=0
  ·rw[if_neg (by simpa using h0)];refine aK (by rw[show z.err=0 from h0];rfl) ?_;by_cases h1:b.kind=ar
   ·rw[if_pos h1];refine aC (isB.2 h1) ⟨⟨f1,f2⟩,?_⟩;have qu:∀d' s',(Wh b (z.note (kg (Mx c) f).2 f.line) (f.key::kn) (Mw (kg (Mx c) f).1) nm ln d' s' i).hit (wW b x { loc x kn c nm ln d s with f:=z.er.note (kg (Mx c) f).2 f.line,known:=kn.reverse++[f.key],c:=(kg (Mx c) f).1,digits:=d',seats:=s' } (i+1)):=λd' s'=>⟨hi,by
     unfold wW;simp only;rw[Pz,hnt];rfl⟩
    unfold bkC;by_cases hd:f.key=aH
    ·refine aC (zw.2 hd) ?_;rw[if_pos hd];by_cases U5:f.key=bH
     ·exact aC (zw.2 U5) (by rw[if_pos U5];exact qu _ _)
     ·exact aK (by rw[cO];exact decide_eq_false U5) (by rw[if_neg U5];exact qu _ _)
    ·refine aK (by rw[cO];exact decide_eq_false hd) ?_;rw[if_neg hd];by_cases U5:f.key=bH
     ·exact aC (zw.2 U5) (by rw[if_pos U5];exact qu _ _)
     ·exact aK (by rw[cO];exact decide_eq_false U5) (by rw[if_neg U5];exact qu _ _)
   ·rw[if_neg h1];refine aK (by rw[acI];exact λe=>h1 (isB.1 e)) ?_;have h2:(bk2 b z (f.key::kn) c nm ln d s i f).hit (wW b x (if b.kind=aG then { loc x kn c nm ln d s with f:=z.er.note (dl f.vals 4) f.line,known:=kn.reverse++[f.key],n1:=f.vals,l1:=f.line } else { loc x kn c nm ln d s with e:=(gT b.kind x.e f).1,f:=z.er.note (gT b.kind x.e f).2 f.line,known:=kn.reverse++[f.key] }) (i+1)):=by
     unfold bk2;by_cases h2:b.kind=aG
     ·rw[if_pos h2];refine aC (isB.2 h2) ⟨⟨f1,by decide,f2⟩,hi,?_⟩;unfold wW;simp only;rw[Pz,hnt];rfl
     ·rw[if_neg h2];refine aK (by rw[acI];exact λe=>h2 (isB.1 e)) ⟨⟨⟨f1,f2⟩,‹_›⟩,hi,?_⟩;unfold wW;simp only;rw[Pz,Qv,hz];rfl
    by_cases h3:b.kind=aG
    ·refine aC (isB.2 h3) ?_;by_cases h4:f.key=af
     ·rw[if_pos ⟨h3,h4⟩];refine aC (zw.2 h4) ⟨⟨f1,by decide,f2⟩,hi,?_⟩;unfold wW;simp only;rw[Pz,hnt];rfl
     ·rw[if_neg λq=>h4 q.2];exact aK (by rw[cO];exact decide_eq_false h4) h2
    ·rw[if_neg λq=>h3 q.1];exact aK (by rw[acI];exact λe=>h3 (isB.1 e)) h2
  ·rw[if_pos h0];refine aC (by rw[acs];exact beq_eq_false_iff_ne.2 h0) ⟨hi,?_⟩;unfold wW;simp only;rw[Pz,hz];rfl
 have hP:∀z:aW,z.er=((x.er.note (if dc (aO b.kind) f.key=true then 0 else 2) f.line).note (if dc kn.reverse f.key=true then 3 else 0) f.line)->z=x.setE x.e z.er->(abR b z kn c nm ln d s i f).hit (wW b x (eK b.kind (loc x kn c nm ln d s) f) (i+1)):=λz h1 h2=>⟨hk,hR z h1 h2⟩;have hA:∀z:aW,z.er=x.er.note (if dc (aO b.kind) f.key=true then 0 else 2) f.line->z=x.setE x.e z.er->(bkA b z kn c nm ln d s i f).hit (wW b x (eK b.kind (loc x kn c nm ln d s) f) (i+1)):=by
  intro z h1 h2;unfold bkA;by_cases h:dc kn.reverse f.key=true
  ·refine aC h ⟨by decide,hP _ ?_ ?_⟩
   ·rw[nX,h1,if_pos h]
   ·rw[nM,h2];rfl
  ·refine aK (by unfold dc at h;simpa using h) (hP _ ?_ h2);rw[h1,if_neg h];have:∀e:dG,e.note 0 f.line=e:=λe=>if_neg λq=>q.2 rfl;rw[this]
 unfold bkB;by_cases h:dc (aO b.kind) f.key=true
 ·refine aK (by unfold dc at h;simpa using h) (hA _ ?_ rfl);rw[if_pos h];have:∀e:dG,e.note 0 f.line=e:=λe=>if_neg λq=>q.2 rfl;rw[this]
 ·refine aC (by unfold dc at h;simpa using h) ⟨by decide,hA _ ?_ ?_⟩
  ·rw[nX,if_neg h]
  ·rw[nM];rfl
def XX (b:jw) (kn:List ByteArray) (i:Int):Prop:=0<=i/\i<=b.fs.length/\(kn.length:Int)=i/\b.fs.length<=1099511627776/\∀f∈b.fs,LD b.kind f
theorem BQ {k:ByteArray} {l:List ai} {y:em} {i:Nat} (hi:i<l.length) (h:y.f.no=0):dj k (l.drop i) y=dj k (l.drop (i+1)) (eK k y (l.getD i ai.zero)):=by
 rw[getD_drop ai.zero hi,dj,if_neg (by simpa using h)]
theorem Fe {k:ByteArray} {l:List ai} {y:em} (h:y.f.no≠0):dj k l y=y:=by
 cases l with
 | nil=>rfl
 | cons f l=>rw[dj,if_pos h]
theorem zk (b:jw) (x:aW) (kn:List ByteArray) (c:nD) (nm:xd) (ln:xf) (d s:Int):D6 b x kn c nm ln d s=D7 b x (loc x kn c nm ln d s):=by
 show _=D6 b x kn.reverse.reverse c nm ln d s;rw[aat]
theorem BR (k:ByteArray) (y:em) (f:ai):(eK k y f).known=y.known++[f.key]:=by
 unfold eK;simp only;generalize (y.f.note (if dc (aO k) f.key=true then 0 else 2) f.line).note (if dc y.known f.key=true then 3 else 0) f.line=f2;repeat (split;· rfl)
 rfl
theorem L3:cL (EK C7 bfn [0]) 0 0 bkL bkO [(0,sT)] λ((x:aW),(b:jw),(kn:List ByteArray),(c:nD),(nm:xd),(ln:xf),(d:Int),(s:Int),(i:Int),_)=>.nd (XX b kn i) (.lf (D7 b x (dj b.kind (b.fs.drop i.toNat) (loc x kn c nm ln d s)))):=by
 refine fy _ (nL _ _) 99 0 0 bkL bkO [(0,sT)] (λ((x:aW),(b:jw),(kn:List ByteArray),(c:nD),(nm:xd),(ln:xf),(d:Int),(s:Int),(i:Int),_)=>bkT b x kn c nm ln d s i)
  (λ(_,(b:jw),_,_,_,_,_,_,(i:Int),_)=>b.fs.length-i.toNat) ?_
 rintro⟨(x:aW),(b:jw),(kn:List ByteArray),(c:nD),(nm:xd),(ln:xf),(d:Int),(s:Int),(i:Int),_⟩ r _ ⟨⟨h0,h1,h2,h3,h4⟩,hr⟩;obtain rfl:D7 b x (dj b.kind (b.fs.drop i.toNat) (loc x kn c nm ln d s))=r:=hr;obtain⟨k,rfl⟩:∃k:Nat,i=k:=⟨i.toNat,by omega⟩;rw[aae];show∃q,(bkT b x kn c nm ln d s k).hit q/\_;unfold bkT;by_cases hk:k<b.fs.length
 ·by_cases he:x.err=0
  ·have hy:(loc x kn c nm ln d s).f.no=0:=he;have hf:=h4 (b.fs.getD k ai.zero) (by rw[aal,aac hk];exact ach hk);refine⟨_,aC (decide_eq_true (by omega)) (aC (beq_iff_eq.2 he) ⟨⟨by omega,by omega⟩,Wi b x kn c nm ln d s k _ (by rw[aae];exact hf) (by omega) ⟨by omega,by omega⟩⟩),?_,?_⟩
   ·show b.fs.length-(k+1)<b.fs.length-k;omega
   ·rw[aae,BQ hk hy];obtain⟨r1,r2⟩:=uO b.kind (loc x kn c nm ln d s) (b.fs.getD k ai.zero);have pz:=BR b.kind (loc x kn c nm ln d s) (b.fs.getD k ai.zero);generalize eK b.kind (loc x kn c nm ln d s) (b.fs.getD k ai.zero)=y at*;refine⟨⟨by omega,by omega,?_,h3,h4⟩,?_⟩
    ·rw[pz,aaP,aaM];show((kn.reverse.length+1:Nat):Int)=(k:Int)+1;rw[aaP];omega
    ·show D7 b (x.setE y.e y.f) _=_;exact congrArg (λz=>D7 b (x.setE y.e y.f) (dj b.kind (b.fs.drop (k+1)) z)) (OQ r1 r2)
  ·refine⟨_,aC (decide_eq_true (by omega)) (aK (beq_eq_false_iff_ne.2 he) rfl),?_⟩;rw[Fe (by exact he)];exact zk b x kn c nm ln d s
 ·refine⟨_,aK (decide_eq_false (by omega)) rfl,?_⟩;rw[aaQ (by omega)];exact zk b x kn c nm ln d s
abbrev bmL:List (Nat×SS):=[(0,sT),(3,sBb),(4,R4),(5,YC),(6,sNb),(7,sLb),(8,sI),(9,sI),(12,sL),(13,sI)]
abbrev BmE:=LE bmL bkO [(0,sT)]
def jw.ln (b:jw):Int:=b.2.2.2.1
def jw.nm (b:jw):ByteArray:=b.2.1
def nD.me (c:nD):Int:=c.2.2.1
section
variable (b:jw) (kn:List ByteArray) (c:nD) (nm:xd) (ln:xf) (d s:Int) (l:List ByteArray) (i:Int)
def abP (x:aW):BmE:=.back (x,b,kn,c,nm,ln,d,s,l,i+1,())
def zh (x:aW):BmE:=.out (x,b,kn,c,nm,ln,d,s,())
def bmN (x:aW):T BmE:=.nd (cw (i+1)) (.lf (abP b kn c nm ln d s l i x))
def bmF (x:aW):T BmE:=.nd ((0:Int)≠6) (bmN b kn c nm ln d s l i (x.note 6 b.ln))
def bmT (x:aW):T BmE:=
 .br (decide (i<l.length)) (.br (x.err==0) (.nd (0<=i/\i<l.length) (.br (decide (Lib.idxOfS kn.reverse (l.getD i.toNat ⟨#[]⟩)<0)) (.nd (0<=i/\i<l.length)
  (.br (!((l.getD i.toNat ⟨#[]⟩).toList==aH.toList)) (bmF b kn c nm ln d s l i x) (.br (c.me==2) (bmF b kn c nm ln d s l i x) (bmN b kn c nm ln d s l i x)))) (bmN b kn c nm ln d s l i x))) (.lf (zh b kn c nm ln d s x))) (.lf (zh b kn c nm ln d s x))
end
theorem L0:cL (EK C7 bfn [0]) 1 3 bmL bkO [(0,sT)] λ((x:aW),(b:jw),(kn:List ByteArray),(c:nD),(nm:xd),(ln:xf),(d:Int),(s:Int),(l:List ByteArray),(i:Int),_)=>.nd (0<=i/\i<=l.length) (.lf (zh b kn c nm ln d s (x.setE x.e (fx kn.reverse c.me b.ln (l.drop i.toNat) x.er)))):=by
 refine fy _ (nL _ _) 99 1 3 bmL bkO [(0,sT)] (λ((x:aW),(b:jw),(kn:List ByteArray),(c:nD),(nm:xd),(ln:xf),(d:Int),(s:Int),(l:List ByteArray),(i:Int),_)=>bmT b kn c nm ln d s l i x)
  (λ(_,_,_,_,_,_,_,_,(l:List ByteArray),(i:Int),_)=>l.length-i.toNat) ?_
 rintro⟨(x:aW),(b:jw),(kn:List ByteArray),(c:nD),(nm:xd),(ln:xf),(d:Int),(s:Int),(l:List ByteArray),(i:Int),_⟩ r rh ⟨⟨h0,h1⟩,hr⟩;have hl:l.length<=9223372036854775807:=rh.2.2.2.2.2.2.2.2.1;obtain rfl:zh b kn c nm ln d s (x.setE x.e (fx kn.reverse c.me b.ln (l.drop i.toNat) x.er))=r:=hr;obtain⟨k,rfl⟩:∃k:Nat,i=k:=⟨i.toNat,by omega⟩;rw[aae];show∃q,(bmT b kn c nm ln d s l k x).hit q/\_;unfold bmT;by_cases hk:k<l.length
 ·have hx:=getD_drop (⟨#[]⟩:ByteArray) hk;by_cases he:x.err=0
  ·have dec:l.length-(k+1)<l.length-k:=by omega
   have dQ:cw ((k:Int)+1):=⟨by omega,by omega⟩;rw[hx,fx,if_neg (by simpa using(show x.er.no=0 from he))];rw[aae];have key:∀no,(if dc kn.reverse (l.getD k ⟨#[]⟩)=true\/(l.getD k ⟨#[]⟩=aH/\c.me≠2) then(0:Int) else 6)=no->zh b kn c nm ln d s ((x.note no b.ln).setE (x.note no b.ln).e (fx kn.reverse c.me b.ln (l.drop (k+1)) (x.note no b.ln).er))=zh b kn c nm ln d s (x.setE x.e (fx kn.reverse c.me b.ln (l.drop (k+1)) (x.er.note (if dc kn.reverse (l.getD k ⟨#[]⟩)=true\/(l.getD k ⟨#[]⟩=aH/\c.me≠2) then 0 else 6) b.ln))):=by
    rintro no rfl;rw[nX];rfl
   have no0:(x.note 0 b.ln)=x:=ug _;by_cases hh:dc kn.reverse (l.getD k ⟨#[]⟩)=true
   ·refine⟨_,aC (decide_eq_true (by omega)) (aC (beq_iff_eq.2 he) ⟨⟨by omega,by omega⟩,aK (by unfold dc at hh;simpa using hh) ⟨dQ,rfl⟩⟩),dec,⟨by omega,by omega⟩,?_⟩;have:=key 0 (if_pos (.inl hh));rw[no0] at this;exact this
   ·have hlt:decide (Lib.idxOfS kn.reverse (l.getD k ⟨#[]⟩)<0)=true:=by unfold dc at hh;simpa using hh
    by_cases hd:l.getD k ⟨#[]⟩=aH
    ·by_cases hm:c.me=2
     ·refine⟨_,aC (decide_eq_true (by omega)) (aC (beq_iff_eq.2 he) ⟨⟨by omega,by omega⟩,aC hlt ⟨⟨by omega,by omega⟩,aK (by rw[Bool.not_eq_false'];exact zw.2 hd) (aC (beq_iff_eq.2 hm) ⟨by decide,dQ,rfl⟩)⟩⟩),dec,⟨by omega,by omega⟩,key 6 (if_neg λq=>q.elim hh λq=>q.2 hm)⟩
     ·refine⟨_,aC (decide_eq_true (by omega)) (aC (beq_iff_eq.2 he) ⟨⟨by omega,by omega⟩,aC hlt ⟨⟨by omega,by omega⟩,aK (by rw[Bool.not_eq_false'];exact zw.2 hd) (aK (beq_eq_false_iff_ne.2 hm) ⟨dQ,rfl⟩)⟩⟩),dec,⟨by omega,by omega⟩,?_⟩;have:=key 0 (if_pos (.inr ⟨hd,hm⟩));rw[no0] at this;exact this
    ·refine⟨_,aC (decide_eq_true (by omega)) (aC (beq_iff_eq.2 he) ⟨⟨by omega,by omega⟩,aC hlt ⟨⟨by omega,by omega⟩,aC (by rw[acs,cO];exact decide_eq_false hd) ⟨by decide,dQ,rfl⟩⟩⟩),dec,⟨by omega,by omega⟩,key 6 (if_neg λq=>q.elim hh λq=>hd q.1)⟩
  ·refine⟨_,aC (decide_eq_true (by omega)) (aK (beq_eq_false_iff_ne.2 he) rfl),?_⟩;rw[hx,fx,if_pos (by exact he)];rfl
 ·refine⟨_,aK (decide_eq_false (by omega)) rfl,?_⟩;rw[aaQ (by omega),fx];rfl
def aW.rc (x:aW):List (ae):=x.2.2.2.2.2.1
def aW.ac (x:aW) (v:ae):aW:=(x.1,x.2.1,x.2.2.1,x.2.2.2.1,x.2.2.2.2.1,(List.cons (α:=ae) v x.rc),x.2.2.2.2.2.2.1,x.2.2.2.2.2.2.2.1,x.2.2.2.2.2.2.2.2.1,x.2.2.2.2.2.2.2.2.2.1,x.2.2.2.2.2.2.2.2.2.2.1,x.2.2.2.2.2.2.2.2.2.2.2.1,x.2.2.2.2.2.2.2.2.2.2.2.2.1,x.2.2.2.2.2.2.2.2.2.2.2.2.2.1,x.2.2.2.2.2.2.2.2.2.2.2.2.2.2.1,x.2.2.2.2.2.2.2.2.2.2.2.2.2.2.2.1,x.2.2.2.2.2.2.2.2.2.2.2.2.2.2.2.2.1,x.2.2.2.2.2.2.2.2.2.2.2.2.2.2.2.2.2.1,x.2.2.2.2.2.2.2.2.2.2.2.2.2.2.2.2.2.2.1,())
def aW.rs (x:aW):List (ByteArray):=x.2.2.2.2.2.2.1
def aW.as (x:aW) (v:ByteArray):aW:=(x.1,x.2.1,x.2.2.1,x.2.2.2.1,x.2.2.2.2.1,x.2.2.2.2.2.1,(List.cons (α:=ByteArray) v x.rs),x.2.2.2.2.2.2.2.1,x.2.2.2.2.2.2.2.2.1,x.2.2.2.2.2.2.2.2.2.1,x.2.2.2.2.2.2.2.2.2.2.1,x.2.2.2.2.2.2.2.2.2.2.2.1,x.2.2.2.2.2.2.2.2.2.2.2.2.1,x.2.2.2.2.2.2.2.2.2.2.2.2.2.1,x.2.2.2.2.2.2.2.2.2.2.2.2.2.2.1,x.2.2.2.2.2.2.2.2.2.2.2.2.2.2.2.1,x.2.2.2.2.2.2.2.2.2.2.2.2.2.2.2.2.1,x.2.2.2.2.2.2.2.2.2.2.2.2.2.2.2.2.2.1,x.2.2.2.2.2.2.2.2.2.2.2.2.2.2.2.2.2.2.1,())
def aW.rn (x:aW):List (ByteArray):=x.2.2.2.2.2.2.2.2.2.2.2.2.2.2.1
def aW.an (x:aW) (v:ByteArray):aW:=(x.1,x.2.1,x.2.2.1,x.2.2.2.1,x.2.2.2.2.1,x.2.2.2.2.2.1,x.2.2.2.2.2.2.1,x.2.2.2.2.2.2.2.1,x.2.2.2.2.2.2.2.2.1,x.2.2.2.2.2.2.2.2.2.1,x.2.2.2.2.2.2.2.2.2.2.1,x.2.2.2.2.2.2.2.2.2.2.2.1,x.2.2.2.2.2.2.2.2.2.2.2.2.1,x.2.2.2.2.2.2.2.2.2.2.2.2.2.1,(List.cons (α:=ByteArray) v x.rn),x.2.2.2.2.2.2.2.2.2.2.2.2.2.2.2.1,x.2.2.2.2.2.2.2.2.2.2.2.2.2.2.2.2.1,x.2.2.2.2.2.2.2.2.2.2.2.2.2.2.2.2.2.1,x.2.2.2.2.2.2.2.2.2.2.2.2.2.2.2.2.2.2.1,())
def aW.rl (x:aW):List (Int×Int):=x.2.2.2.2.2.2.2.2.2.2.2.2.2.2.2.1
def aW.al (x:aW) (v:Int×Int):aW:=(x.1,x.2.1,x.2.2.1,x.2.2.2.1,x.2.2.2.2.1,x.2.2.2.2.2.1,x.2.2.2.2.2.2.1,x.2.2.2.2.2.2.2.1,x.2.2.2.2.2.2.2.2.1,x.2.2.2.2.2.2.2.2.2.1,x.2.2.2.2.2.2.2.2.2.2.1,x.2.2.2.2.2.2.2.2.2.2.2.1,x.2.2.2.2.2.2.2.2.2.2.2.2.1,x.2.2.2.2.2.2.2.2.2.2.2.2.2.1,x.2.2.2.2.2.2.2.2.2.2.2.2.2.2.1,(List.cons (α:=Int×Int) v x.rl),x.2.2.2.2.2.2.2.2.2.2.2.2.2.2.2.2.1,x.2.2.2.2.2.2.2.2.2.2.2.2.2.2.2.2.2.1,x.2.2.2.2.2.2.2.2.2.2.2.2.2.2.2.2.2.2.1,())
def aW.rm (x:aW):List (List ByteArray×List ByteArray):=x.2.2.2.2.2.2.2.2.2.2.2.2.2.2.2.2.1
def aW.am (x:aW) (v:List ByteArray×List ByteArray):aW:=(x.1,x.2.1,x.2.2.1,x.2.2.2.1,x.2.2.2.2.1,x.2.2.2.2.2.1,x.2.2.2.2.2.2.1,x.2.2.2.2.2.2.2.1,x.2.2.2.2.2.2.2.2.1,x.2.2.2.2.2.2.2.2.2.1,x.2.2.2.2.2.2.2.2.2.2.1,x.2.2.2.2.2.2.2.2.2.2.2.1,x.2.2.2.2.2.2.2.2.2.2.2.2.1,x.2.2.2.2.2.2.2.2.2.2.2.2.2.1,x.2.2.2.2.2.2.2.2.2.2.2.2.2.2.1,x.2.2.2.2.2.2.2.2.2.2.2.2.2.2.2.1,(List.cons (α:=List ByteArray×List ByteArray) v x.rm),x.2.2.2.2.2.2.2.2.2.2.2.2.2.2.2.2.2.1,x.2.2.2.2.2.2.2.2.2.2.2.2.2.2.2.2.2.2.1,())
def aW.ofN (t:eD) (z:List ByteArray):aW:=(t.e.title,t.e.dots,t.e.blank,t.e.marked,t.e.prec,t.e.cont.reverse,z,t.e.scan,t.e.batch,t.e.risk.neg,t.e.risk.num,t.e.risk.den,t.e.cell,t.e.seed,t.seen.reverse,t.lines.reverse,t.names.reverse,t.f.no,t.f.line,())
def gH (l:List aj):List ByteArray:=l.map (·.name)
def aW.ofR (t:eD):aW:=.ofN t (gH t.e.styl).reverse
theorem Af (l:List ByteArray):gH (l.map λn=>⟨n,[],[]⟩)=l:=by
 unfold gH;rw[List.map_map];exact List.map_id l
theorem mM (x:aW) (e:aa) (f:dG) (h1:e.cont=x.cont) (h2:e.styl=x.styl):x.setE e f=.ofR ⟨e,x.seen,x.lines,x.names,f⟩:=by
 have r1:x.rc=e.cont.reverse:=by rw[h1];exact(aat _).symm
 have r2:x.rs=(gH e.styl).reverse:=by
  rw[h2];show x.rs=(gH (x.snm.map λn=>⟨n,[],[]⟩)).reverse;rw[Af];exact(aat _).symm
 have r3:x.rn=x.seen.reverse:=(aat _).symm;have r4:x.rl=x.lines.reverse:=(aat _).symm;have r5:x.rm=x.names.reverse:=(aat _).symm;show(e.title,e.dots,e.blank,e.marked,e.prec,x.rc,x.rs,e.scan,e.batch,e.risk.neg,e.risk.num,e.risk.den,e.cell,e.seed,x.rn,x.rl,x.rm,f.no,f.line,())=_;rw[r1,r2,r3,r4,r5];rfl
theorem vj (t:eD) (no line:Int):(aW.ofR t).note no line=.ofR (t.note no line):=by
 show(aW.ofR t).setF (nt (aW.ofR t).f no line)=.ofN { t with f:=t.f.note no line } (gH t.e.styl).reverse;have:=Gf (t.f.no,t.f.line) no line;have h2:t.f.note no line=⟨(nt (t.f.no,t.f.line) no line).1,(nt (t.f.no,t.f.line) no line).2⟩:=this;rw[h2];rfl
theorem pJ {α:Type} (l:List α) (v:α):(l++[v]).reverse=v::l.reverse:=by simp
theorem aey (t:eD) (v:ae):(aW.ofR t).ac v=.ofR { t with e:={ t.e with cont:=t.e.cont++[v] } }:=by
 have:=pJ t.e.cont v;unfold aW.ofR aW.ofN;rw[this];rfl
theorem aew (t:eD) (v:aj):(aW.ofR t).as v.name=.ofR { t with e:={ t.e with styl:=t.e.styl++[v] } }:=by
 have:(gH (t.e.styl++[v])).reverse=v.name::(gH t.e.styl).reverse:=by unfold gH;simp
 show _=aW.ofN t (gH (t.e.styl++[v])).reverse;rw[this];rfl
theorem aex (t:eD) (v:ByteArray):(aW.ofR t).an v=.ofR { t with seen:=t.seen++[v] }:=by
 have:=pJ t.seen v;unfold aW.ofR aW.ofN;rw[this];rfl
theorem Zi (t:eD) (v:Int×Int) (u:List ByteArray×List ByteArray):((aW.ofR t).am u).al v=.ofR { t with lines:=t.lines++[v],names:=t.names++[u] }:=by
 have h1:=pJ t.lines v;have h2:=pJ t.names u;unfold aW.ofR aW.ofN;rw[h1,h2];rfl
def beS (b:jw) (x:aW):T SR:=.nd ((x.rn.length+1)*17<=140737488355328) (.lf (Jz (.tup []) (x.an b.kind)))
def be3 (b:jw) (c:nD) (x:aW):T SR:=.nd ((x.rc.length+1)*97<=140737488355328) (beS b (x.ac { Mx c with name:=b.nm }))
def nD.se (c:nD):Int:=c.2.2.2.1
def be2 (b:jw) (c:nD) (s:Int) (x:aW):T SR:=.br (c.me==1) (.br (decide (c.se>1)) (.nd ((0:Int)≠4) (be3 b c (x.note 4 s))) (be3 b c x)) (be3 b c x)
def beC (b:jw) (kn:List ByteArray) (c:nD) (d s:Int) (x:aW):T SR:=.br (decide (Lib.idxOfS kn.reverse aH>=0)) (.br (!(c.me==2)) (.nd ((0:Int)≠5) (be2 b c s (x.note 5 d))) (be2 b c s x)) (be2 b c s x)
def beY (b:jw) (nm:xd) (ln:xf) (x:aW):T SR:=.nd ((x.rs.length+1)*65<=140737488355328) (.nd ((x.rm.length+1)*49<=140737488355328) (.nd ((x.rl.length+1)*17<=140737488355328) (beS b (((x.as b.nm).am (nm.1,nm.2.1)).al (ln.1,ln.2.1)))))
def aW.bl (x:aW):Int:=x.2.2.1
def aW.mk' (x:aW):Int:=x.2.2.2.1
def beN (b:jw) (x:aW):T SR:=.br (is bZ b) (.br (decide (x.bl>x.mk')) (.nd ((0:Int)≠4) (beS b (x.note 4 b.ln))) (beS b x)) (beS b x)
def beT (b:jw) (kn:List ByteArray) (c:nD) (nm:xd) (ln:xf) (d s:Int) (x:aW):T SR:=
 .br (!(x.err==0)) (beS b x) (.br (is ar b) (beC b kn c d s x) (.br (is aG b) (beY b nm ln x) (beN b x)))
def XZ (b:ak):jw:=(b.kind,b.name,b.fields,b.line,())
def lg (x:aW) (b:ak):em:=dj b.kind b.fields (loc (x.note (jq x.r b.kind b.name) b.line) [] (Mw ae.zero) ([],[],()) ((0:Int),(0:Int),()) 0 0)
def XY (x:aW) (b:ak):aW:=(x.note (jq x.r b.kind b.name) b.line).setE (lg x b).e (lg x b).f
def beB (x:aW) (b:ak):T SR:=.nd (b.name.size<=9223372036854775807) (.nd (XX (XZ b) [] 0) (.nd ((0:Int)<=0/\(0:Int)<=(aO b.kind).length)
 (beT (XZ b) (lg x b).known.reverse (Mw (lg x b).c) ((lg x b).n0,(lg x b).n1,()) ((lg x b).l0,(lg x b).l1,()) (lg x b).digits (lg x b).seats ((XY x b).setE (XY x b).e (fx (lg x b).known.reverse.reverse (Mw (lg x b).c).me b.line (aO b.kind) (XY x b).er)))))
def GL (x:aW) (b:ak):Prop:=b.name.size<=9223372036854775807/\b.fields.length<=1099511627776/\(∀f∈b.fields,LD b.kind f)/\x.rn.length<=1099511627776/\x.rc.length<=1099511627776/\x.rs.length<=1099511627776/\x.rm.length<=1099511627776/\x.rl.length<=1099511627776
theorem mK (k:ByteArray):∀(l:List ai) (y:em),(dj k l y).e.cont=y.e.cont/\(dj k l y).e.styl=y.e.styl
 | [],_=>⟨rfl,rfl⟩
 | f::l,y=>by
  unfold dj;split
  ·exact⟨rfl,rfl⟩
  ·obtain⟨h1,h2⟩:=mK k l (eK k y f);obtain⟨h3,h4⟩:=uO k y f;exact⟨h1.trans h3,h2.trans h4⟩
theorem abV (x:aW) (b:ak):lg x b=dj b.kind b.fields (em.start x.r b):=by
 unfold lg em.start loc;have:=nX x (jq x.r b.kind b.name) b.line;show dj b.kind b.fields ⟨x.e,(x.note (jq x.r b.kind b.name) b.line).er,[],ae.zero,[],[],0,0,0,0⟩=_;rw[this];rfl
section
variable {b:ak} {t:eD} (hn:t.seen.length<=1099511627776) (hc:t.e.cont.length<=1099511627776) (hs:t.e.styl.length<=1099511627776) (hm:t.names.length<=1099511627776) (hl:t.lines.length<=1099511627776)
include hn in
theorem qR:(beS (XZ b) (.ofR t)).hit (Jz (.tup []) (.ofR { t with seen:=t.seen++[b.kind] })):=by
 refine⟨?_,?_⟩
 ·show(t.seen.reverse.length+1)*17<=_;rw[aaP];omega
 ·rw[show(XZ b).kind=b.kind from rfl,aex];rfl
include hn hc in
theorem Ju (c:ae):(be3 (XZ b) (Mw c) (.ofR t)).hit (Jz (.tup []) (.ofR { t with e:={ t.e with cont:=t.e.cont++[{ c with name:=b.name }] },seen:=t.seen++[b.kind] })):=by
 refine⟨?_,?_⟩
 ·show(t.e.cont.reverse.length+1)*97<=_;rw[aaP];omega
 ·rw[aey];exact qR (t:={ t with e:={ t.e with cont:=t.e.cont++[{ c with name:=b.name }] } }) hn
include hn hc in
theorem Jv (c:ae) (s:Int):(be2 (XZ b) (Mw c) s (.ofR t)).hit (Jz (.tup []) (.ofR { t with e:={ t.e with cont:=t.e.cont++[{ c with name:=b.name }] },seen:=t.seen++[b.kind],f:=t.f.note (if c.method=1/\1<c.seats then 4 else 0) s })):=by
 unfold be2;refine oS (F:=λno=>Jz (.tup []) (.ofR { t with e:={ t.e with cont:=t.e.cont++[{ c with name:=b.name }] },seen:=t.seen++[b.kind],f:=t.f.note no s })) (by show c.method=1/\1<c.seats↔(c.method==1)=true/\decide (c.seats>1)=true;simp) ⟨by decide,?_⟩ ?_
 ·rw[vj];exact Ju (t:=t.note 4 s) hn hc c
 ·have:t.f.note 0 s=t.f:=if_neg λq=>q.2 rfl;simp only[this];exact Ju (t:=t) hn hc c
end
theorem L6:ew Tryz.prog 63 [0] [(0,sT),(1,sBk)] [(0,sT)] λ((x:aW),(b:ak),_)=>.nd (GL x b) (.lf (Jz (.tup []) (.ofR (fM x.r b)))):=by
 refine iA (C:=C7) (pb:=[0]) (((nL _ _).add 0 _ L3).add 1 _ L0) 99 [(0,sT),(1,sBk)] [(0,sT)] (λ((x:aW),(b:ak),_)=>beB x b) ?_ Tryz.func63;rintro⟨(x:aW),(b:ak),_⟩ r rh ⟨⟨h1,h2,h3,h4,h5,h6,h7,h8⟩,hr⟩;obtain rfl:Jz (.tup []) (.ofR (fM x.r b))=r:=hr;refine⟨h1,⟨by omega,by omega,rfl,h2,h3⟩,⟨by omega,by omega⟩,?_⟩;obtain⟨r1,r2⟩:=mK b.kind b.fields (em.start x.r b);unfold fM;rw[<-abV] at r1 r2 ⊢;have hX:(XY x b).setE (XY x b).e (fx (lg x b).known.reverse.reverse (Mw (lg x b).c).me b.line (aO b.kind) (XY x b).er)=.ofR ⟨(lg x b).e,x.seen,x.lines,x.names,fx (lg x b).known (lg x b).c.method b.line (aO b.kind) (lg x b).f⟩:=by
  rw[aat];have e1:XY x b=.ofR ⟨(lg x b).e,x.seen,x.lines,x.names,(lg x b).f⟩:=mM (x.note (jq x.r b.kind b.name) b.line) _ _ r1 r2;have e2:(XY x b).e=(lg x b).e:=by
   rw[e1];have r2':(lg x b).e.styl=x.snm.map λn=>⟨n,[],[]⟩:=r2;have EC:(((gH (lg x b).e.styl).reverse.reverse).map λn=>(⟨n,[],[]⟩:aj))=(lg x b).e.styl:=by
    rw[r2',aat,Af]
   show(⟨(lg x b).e.title,(lg x b).e.dots,(lg x b).e.blank,(lg x b).e.marked,(lg x b).e.prec,(lg x b).e.cont.reverse.reverse,((gH (lg x b).e.styl).reverse.reverse).map λn=>⟨n,[],[]⟩,(lg x b).e.scan,(lg x b).e.batch,(lg x b).e.risk,(lg x b).e.cell,(lg x b).e.seed⟩:aa)=_;rw[EC,aat]
  rw[e2];exact mM (x.note (jq x.r b.kind b.name) b.line) _ _ r1 r2
 rw[hX];have hn:x.seen.length<=1099511627776:=by show x.rn.reverse.length<=_;rw[aaP];exact h4
 have hc:(lg x b).e.cont.length<=1099511627776:=by rw[r1];show x.rc.reverse.length<=_;rw[aaP];exact h5
 have hs:(lg x b).e.styl.length<=1099511627776:=by rw[r2];show(x.rs.reverse.map _).length<=_;rw[acf,aaP];exact h6
 have hm:x.names.length<=1099511627776:=by show x.rm.reverse.length<=_;rw[aaP];exact h7
 have hl:x.lines.length<=1099511627776:=by show x.rl.reverse.length<=_;rw[aaP];exact h8
 clear hX r1 r2 h3 rh;have afn:x.r.seen=x.seen:=rfl;have Mt:x.r.names=x.names:=rfl;have hln:x.r.lines=x.lines:=rfl;generalize lg x b=y at*;unfold sk;simp only;rw[afn,Mt,hln];generalize fx y.known y.c.method b.line (aO b.kind) y.f=f;generalize x.seen=se at*;generalize x.names=na at*;generalize x.lines=li at*;unfold beT;by_cases h0:f.no≠0
 ·rw[if_pos h0];exact aC (by rw[acs];exact beq_eq_false_iff_ne.2 h0) (qR (t:=⟨y.e,se,li,na,f⟩) hn)
 rw[if_neg h0];refine aK (by rw[Bool.not_eq_false'];exact beq_iff_eq.2 (Decidable.not_not.1 h0)) ?_;have ZX:∀k,is k (XZ b)=true↔b.kind=k:=λk=>zw;by_cases h1:b.kind=ar
 ·rw[if_pos h1];refine aC ((ZX _).2 h1) ?_;unfold beC;rw[aat];refine oS (F:=λno=>Jz (.tup []) (.ofR { e:={ y.e with cont:=y.e.cont++[{ y.c with name:=b.name }] },seen:=se++[b.kind],lines:=li,names:=na,f:=(f.note no y.digits).note (if y.c.method=1/\1<y.c.seats then 4 else 0) y.seats })) (by show dc y.known aH=true/\y.c.method≠2↔dc y.known aH=true/\(!(y.c.method==2))=true;simp) ⟨by decide,?_⟩ ?_
  ·rw[vj];exact Jv (t:=(⟨y.e,se,li,na,f⟩:eD).note 5 y.digits) hn hc y.c y.seats
  ·have:f.note 0 y.digits=f:=if_neg λq=>q.2 rfl;rw[this];exact Jv (t:=⟨y.e,se,li,na,f⟩) hn hc y.c y.seats
 rw[if_neg h1];refine aK (by rw[acI];exact λe=>h1 ((ZX _).1 e)) ?_;by_cases h2:b.kind=aG
 ·rw[if_pos h2];refine aC ((ZX _).2 h2) ⟨?_,?_,?_,?_⟩
  ·show((gH y.e.styl).reverse.length+1)*65<=_;unfold gH;rw[aaP,acf];omega
  ·show(na.reverse.length+1)*49<=_;rw[aaP];omega
  ·show(li.reverse.length+1)*17<=_;rw[aaP];omega
  ·rw[show(XZ b).nm=(⟨b.name,[],[]⟩:aj).name from rfl,aew,Zi];exact qR (t:={ e:={ y.e with styl:=y.e.styl++[⟨b.name,[],[]⟩] },seen:=se,lines:=li++[(y.l0,y.l1)],names:=na++[(y.n0,y.n1)],f:=f }) hn
 rw[if_neg h2];refine aK (by rw[acI];exact λe=>h2 ((ZX _).1 e)) ?_;unfold beN;by_cases h3:b.kind=bZ/\y.e.marked<y.e.blank
 ·rw[if_pos h3];refine aC ((ZX _).2 h3.1) (aC (decide_eq_true h3.2) ⟨by decide,?_⟩);rw[vj];exact qR (t:=(⟨y.e,se,li,na,f⟩:eD).note 4 b.line) hn
 ·rw[if_neg h3];have dS:=qR (b:=b) (t:=⟨y.e,se,li,na,f⟩) hn;by_cases h4:b.kind=bZ
  ·exact aC ((ZX _).2 h4) (aK (decide_eq_false λq=>h3 ⟨h4,q⟩) dS)
  ·exact aK (by rw[acI];exact λe=>h4 ((ZX _).1 e)) dS
end Go.Proofs.YtdbpbfglhbiadaaGreatDoor
