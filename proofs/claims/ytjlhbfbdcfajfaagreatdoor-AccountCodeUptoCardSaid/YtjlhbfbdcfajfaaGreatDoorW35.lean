/- Tm6 Tm7 Tm8 Tm12 -/
import Derived.Test.YtjlhbfbdcfajfaaGreatDoorW00
import Derived.Test.YtjlhbfbdcfajfaaGreatDoorW34
set_option maxHeartbeats 8000000
set_option maxRecDepth 100000
namespace Go.Proofs.YtjlhbfbdcfajfaaGreatDoor
open Go Go.RowKit
theorem GP (c:UInt8):digitB c=true↔48≤c.toNat∧c.toNat≤57:=by unfold digitB;simp
theorem wF:∀(l:List UInt8) (n:Int),(∀x∈l,digitB x=true)→0≤n→0≤l.foldl dA n∧l.foldl dA n≤(n+1)*10^l.length-1
 | [],n,_,hn=>⟨hn,by simp⟩
 | x::l,n,h,hn=>by
  have hx:=(GP x).1 (h x (by simp));have h1:0≤dA n x∧dA n x≤10*n+9:=by unfold dA;omega
  have ih:=wF l (dA n x) (fun y hy=>h y (by simp[hy])) h1.1;rw[adI,abp];refine⟨ih.1,Int.le_trans ih.2 ?_⟩;obtain⟨P,hP⟩:∃P:Int,(10:Int)^l.length=P:=⟨_,rfl⟩;have hP0:0≤P:=by rw[←hP];exact Int.pow_nonneg (by omega)
  rw[Int.pow_succ,hP];have h2:(dA n x+1)*P≤(10*n+10)*P:=Int.mul_le_mul_of_nonneg_right (by omega) hP0;have h3:(n+1)*(P*10)=(10*n+10)*P:=by rw[Int.mul_comm P 10,←Int.mul_assoc];congr 1;omega
  omega
theorem wH {l:List UInt8} (h:(dF l).2=true):0≤(dF l).1∧(dF l).1≤999999:=by
 have h':kF l=true:=h;unfold kF at h';simp only[aba,decide_eq_true_eq] at h';obtain⟨h1,h2,h3,_⟩:=h';have h4:=wF (l.take 6) 0 (fun x hx=>abv.1 h1 x (List.mem_of_mem_take hx)) (by omega);have h5:(10:Int)^(l.take 6).length≤1000000:=by
  have e:(10:Int)^(l.take 6).length=((10^(l.take 6).length:Nat):Int):=by simp
  rw[e];have:10^(l.take 6).length≤10^6:=acv (by omega) (by rw[abH];omega);omega
 show 0≤(l.take 6).foldl dA 0∧(l.take 6).foldl dA 0≤999999;omega
theorem IK (a:Nat):ez false a 1=⟨false,a,1⟩:=by
 unfold ez;split
 ·rename_i h;rcases h with h|h
  ·rw[h]
  ·omega
 ·rw[Nat.gcd_one_right,Nat.div_one]
theorem OA (neg:Bool) (a b:Nat):(ez neg a b).n≤a∧(ez neg a b).d≤max b 1:=by
 unfold ez;split
 ·exact⟨abK _,by show 1≤_;omega⟩
 ·exact⟨Nat.div_le_self _ _,abk (Nat.div_le_self _ _) (by omega)⟩
theorem aaI {l:List UInt8} {i:Nat} (hx:l[i]?=some 47) (h:∀j x,j<i→l[j]?=some x→x≠47):jp l=true∧ed l=l.take i∧dO l=l.drop (i+1):=by
 refine⟨?_,?_,?_⟩
 ·unfold jp;rw[List.contains_eq_mem];simpa using ab9 hx
 ·unfold ed;induction l generalizing i with
  | nil=>cases hx
  | cons y l ih=>
   cases i with
   | zero=>simp at hx;subst hx;simp
   | succ i=>
    have hy:=h 0 y (by omega) rfl;rw[List.takeWhile_cons,if_pos (by simpa using hy),List.take_succ_cons];congr 1
    exact ih (i:=i) (by simpa using hx) (fun j x hj hx=>h (j+1) x (by omega) (by simpa using hx))
 ·unfold dO;induction l generalizing i with
  | nil=>cases hx
  | cons y l ih=>
   cases i with
   | zero=>simp at hx;subst hx;simp
   | succ i=>
    have hy:=h 0 y (by omega) rfl;rw[List.dropWhile_cons,if_pos (by simpa using hy),List.drop_succ_cons];exact ih (i:=i) (by simpa using hx) (fun j x hj hx=>h (j+1) x (by omega) (by simpa using hx))
theorem aaH {l:List UInt8} (h:∀(j:Nat) (x:UInt8),l[j]?=some x→x≠47):jp l=false:=by
 unfold jp;rw[List.contains_eq_mem,decide_eq_false_iff_not];intro hm;obtain⟨j,hj,e⟩:=List.getElem_of_mem hm;exact h j _ (aac hj) e
noncomputable def C5:hZ Tryz.prog:=dj uC [⟨_,_,_,oX⟩,⟨_,_,_,YC⟩,⟨_,_,_,Vm⟩,⟨_,_,_,XI⟩] [⟨_,_,_,_,_,kI⟩,⟨_,_,_,_,_,sW⟩]
abbrev sRb:SS:=.box 28 [.d .bool,.d (.list .limb),.d (.list .limb)]
abbrev V2:=eY [.d .bool,.d (.list .limb),.d (.list .limb)]
abbrev rkL:List (Nat×SS):=[(0,sN),(3,Mj),(4,sRb),(5,sS),(6,sI)]
abbrev rkO:List (Nat×SS):=[(0,sN),(3,Mj),(4,sRb)]
abbrev VZ:=LE rkL rkO [(0,sN)]
def X6 (x:gT) (f:AH) (r:V2) (s:ByteArray) (i:Int):VZ:=.back (x,f,r,s,i,())
def wu (x:gT) (f:AH) (r:V2):VZ:=.out (x,f,r,())
def wt (a:XV) (x:gT):VZ:=.ret a (x,())
def rZ:XV:=.agg [.val (.bool false),.val (.slice none 0 0),.val (.slice none 0 0)]
def rk4 (x:gT) (f:AH):T VZ:=.nd ((0:Int)≠4) (.lf (wt rZ (x.note 4 f.ln)))
def Mk (n:Int):mK:=QT (ez false n.toNat 1)
def rkD (x:gT) (a b:Int):T VZ:=.nd (0≤a∧a<9223372036854775808) (.nd (0≤b∧b<9223372036854775808) (.nd (F8 (2^100) (Mk a)∧F8 (2^100) (Mk b)) (.nd (F8 4294967296 (QT (LG (vR (Mk a)) (vR (Mk b))))) (.lf (wt (aR (vR (QT (LG (vR (Mk a)) (vR (Mk b))))).raw) x)))))
def rkC (x:gT) (f:AH) (r:V2) (p q:Int×Bool):T VZ:=.br (!p.2) (.lf (wu x f r)) (.br (!q.2) (.lf (wu x f r)) (.br (q.1==0) (rk4 x f) (.nd (cN (1000*p.1)) (.br (decide (1000*p.1<q.1)) (rk4 x f) (.nd (cN (2*p.1)) (.br (decide (2*p.1>q.1)) (rk4 x f) (rkD x p.1 q.1)))))))
def rkB (x:gT) (f:AH) (r:V2) (s:ByteArray) (i:Int):T VZ:=.br (decide (i<s.size)) (.nd (0≤i∧i<s.size) (.br (!(((s.data.toList.getD i.toNat 0).toNat:Int)==47)) (.nd (cN (i+1)) (.lf (X6 x f r s (i+1))))
 (.nd ((0:Int)≤0∧0≤i∧i≤s.size) (.nd ((s.extract (Int.toNat 0) i.toNat).size≤9223372036854775807) (.nd (cN (i+1)) (.nd (0≤i+1∧i+1≤s.size∧(s.size:Int)≤s.size) (.nd ((s.extract (i+1).toNat (s.size:Int).toNat).size≤9223372036854775807) (rkC x f r (dF (s.extract (Int.toNat 0) i.toNat).data.toList) (dF (s.extract (i+1).toNat (s.size:Int).toNat).data.toList)))))))))
 (.lf (wu x f r))
def X5 (x:gT) (f:AH) (r:V2) (l:List UInt8):T VZ:=.br (decide ((dW l).1=5)) (.lf (wu x f r)) (.br (decide ((dW l).1=4)) (.lf (wt rZ (x.note 4 f.ln))) (.lf (wt (aR (dW l).2) x)))
def rkN (l:List UInt8) (i:Int):Prop:=0≤i∧i≤l.length∧l.length≤9223372036854775807∧∀(j:Nat) (x:UInt8),j<i.toNat→l[j]?=some x→x≠47
theorem Tf {x:gT} {f:AH} {r:V2} {l p q:List UInt8} (hF:jp l=true) (hA:ed l=p) (hB:dO l=q) {z:VZ} (h:(X5 x f r l).hit z):(rkC x f r (dF p) (dF q)).hit z:=by
 have hr:dW l=if((dF p).2&&(dF q).2)=false then(5,⟨false,[],[]⟩) else if(dF q).1=0∨1000*(dF p).1<(dF q).1∨(dF q).1<2*(dF p).1 then(4,⟨false,[],[]⟩) else(0,(ez false (dF p).1.toNat (dF q).1.toNat).raw):=by
  unfold dW;rw[hF,hA,hB];simp
 unfold X5 at h;rw[hr] at h;have out:((dF p).2&&(dF q).2)=false→wu x f r=z:=fun e=>by rw[if_pos e] at h;exact h.1 rfl
 have four:((dF p).2&&(dF q).2)=true→((dF q).1=0∨1000*(dF p).1<(dF q).1∨(dF q).1<2*(dF p).1)→(rk4 x f).hit z:=fun e e2=>by
  rw[if_neg (by rw[e];simp),if_pos e2] at h;exact⟨by decide,(h.2 rfl).1 rfl⟩
 unfold rkC;cases hp:(dF p).2 with
 | false=>exact aX rfl (out (by rw[hp];rfl))
 | true=>
  refine bg rfl ?_;cases hq:(dF q).2 with
  | false=>exact aX rfl (out (by rw[hp,hq];rfl))
  | true=>
   have e:((dF p).2&&(dF q).2)=true:=by rw[hp,hq];rfl
   obtain⟨p0,p1⟩:=wH hp;obtain⟨q0,q1⟩:=wH hq;refine bg rfl ⟨fun e0=>four e (.inl (beq_iff_eq.1 e0)),fun e0=>⟨⟨by omega,by omega⟩,⟨fun e1=>four e (.inr (.inl (of_decide_eq_true e1))),fun e1=>⟨⟨by omega,by omega⟩,⟨fun e2=>four e (.inr (.inr (of_decide_eq_true e2))),fun e2=>?_⟩⟩⟩⟩⟩;have e0:=beq_eq_false_iff_ne.1 e0;have e1:=of_decide_eq_false e1;have e2:=of_decide_eq_false e2;rw[if_neg (by rw[e];simp),if_neg (by omega)] at h;have h:=(h.2 rfl).2 rfl;have h:wt (aR (ez false (dF p).1.toNat (dF q).1.toNat).raw) x=z:=h;subst h;have u:∀n:Int,vR (Mk n)=⟨false,n.toNat,1⟩:=fun n=>by unfold Mk;rw[sX,IK]
   have ok:∀(n:Int) (m:Nat),n.toNat<m→1<m→F8 m (Mk n):=fun n m h h1=>by
    unfold F8;rw[u];exact⟨by unfold Mk;rw[IK],h,h1⟩
   have hd:LG (vR (Mk (dF p).1)) (vR (Mk (dF q).1))=ez false (dF p).1.toNat (dF q).1.toNat:=by
    rw[u,u];unfold LG;simp
   have yH:=OA false (dF p).1.toNat (dF q).1.toNat;refine⟨⟨p0,by omega⟩,⟨q0,by omega⟩,⟨ok _ _ (by omega) (by omega),ok _ _ (by omega) (by omega)⟩,?_,?_⟩
   ·rw[hd];unfold F8;rw[sX];exact⟨rfl,by omega,by omega⟩
   ·rw[hd,sX];rfl
theorem Tg:eD (LB C5 Tryz.f111 pN) 0 0 rkL rkO [(0,sN)] fun((x:gT),(f:AH),(r:V2),(s:ByteArray),(i:Int),_)=>.nd (rkN s.data.toList i) (X5 x f r s.data.toList):=by
 refine eG _ (nL _ _) 99 0 0 rkL rkO [(0,sN)] (fun((x:gT),(f:AH),(r:V2),(s:ByteArray),(i:Int),_)=>rkB x f r s i) (fun(_,_,_,(s:ByteArray),(i:Int),_)=>s.size-i.toNat) ?_;rintro⟨(x:gT),(f:AH),(r:V2),(s:ByteArray),(i:Int),_⟩ z _ ⟨⟨h0,h1,h2,h3⟩,h⟩;have bO:s.data.toList.length=s.size:=abC;obtain⟨k,rfl⟩:∃k:Nat,i=k:=⟨i.toNat,by omega⟩;show∃q,(rkB x f r s k).hit q∧_;unfold rkB;by_cases hk:k<s.size
 ·have hx:s.data.toList[k]?=some (s.data.toList.getD k 0):=by rw[aaQ,aac (by omega)];rfl
  by_cases hc:s.data.toList.getD k 0=47
  ·obtain⟨c1,c2,c3⟩:=aaI (l:=s.data.toList) (i:=k) (by rw[hx,hc]) h3;have e1:(s.extract (Int.toNat 0) (k:Int).toNat)=⟨(s.data.toList.take k).toArray⟩:=rX s k;have e2:(s.extract ((k:Int)+1).toNat (s.size:Int).toNat)=⟨(s.data.toList.drop (k+1)).toArray⟩:=extract_drop s (k+1);refine⟨z,aX (decide_eq_true (by omega)) ⟨⟨by omega,by omega⟩,bg (by rw[aaR,hc];rfl) ⟨⟨by omega,by omega,by omega⟩,?_,⟨by omega,by omega⟩,⟨by omega,by omega,by omega⟩,?_,Tf c1 ?_ ?_ h⟩⟩,?_⟩
   ·rw[e1];show(List.take k s.data.toList).toArray.size≤_;rw[abM,abH];omega
   ·rw[e2];show(List.drop (k+1) s.data.toList).toArray.size≤_;rw[abM,abW];omega
   ·rw[c2,e1]
   ·rw[c3,e2]
   ·have h:(X5 x f r s.data.toList).hit z:=h;unfold X5 at h;rcases hB h with⟨_,h⟩|⟨_,h⟩
    ·obtain rfl:wu x f r=z:=h;rfl
    ·rcases hB h with⟨_,h⟩|⟨_,h⟩
     ·obtain rfl:wt rZ (x.note 4 f.ln)=z:=h;rfl
     ·obtain rfl:wt (aR (dW s.data.toList).2) x=z:=h;rfl
  ·refine⟨_,aX (decide_eq_true (by omega)) ⟨⟨by omega,by omega⟩,aX ?_ ⟨⟨by omega,by omega⟩,rfl⟩⟩,?_,⟨by omega,by omega,h2,fun j y hj hy=>?_⟩,h⟩
   ·rw[aaR,ab8,beq_eq_false_iff_ne];intro e;exact hc (UInt8.toNat_inj.1 (by have:(47:UInt8).toNat=47:=rfl;omega))
   ·show s.size-(k+1)<s.size-k;omega
   ·by_cases xo:j=k
    ·subst xo;rw[hx] at hy;exact aaZ hy▸hc
    ·exact h3 j y (by omega) hy
 ·refine⟨z,bg (decide_eq_false (by omega)) ?_,?_⟩
  all_goals
   have Fh:jp s.data.toList=false:=aaH fun j y hy=>h3 j y (by have:=(aad.1 hy).1;omega) hy;have h:(X5 x f r s.data.toList).hit z:=h;have h5:(dW s.data.toList).1=5:=by unfold dW;rw[if_pos (.inl Fh)]
   unfold X5 at h;have h:=h.1 (decide_eq_true h5);obtain rfl:wu x f r=z:=h;rfl
theorem ND (l:List UInt8):(dW l).1=5∨(dW l).1=4∨(dW l).1=0:=by
 unfold dW;split
 ·exact .inl rfl
 ·split
  ·exact .inr (.inl rfl)
  ·exact .inr (.inr rfl)
def rZs:XV:=.agg [.sym (.bool false),.val (.slice none 0 0),.val (.slice none 0 0)]
def Fc (f:ao):List UInt8:=(bj f.vals).data.toList
theorem NC:gh Tryz.prog 111 pN [(0,sN),(1,sF)] [(0,sN)] fun((x:gT),(f:ao),_)=>.nd ((bj f.vals).size≤9223372036854775807) (.br (decide ((dW (Fc f)).1=0)) (.lf (an (aR (dW (Fc f)).2) (x.note (jK f.vals) f.line))) (.lf (an rZs (x.note (jK f.vals) f.line)))):=by
 refine kJ (C:=C5) (pb:=pN) ((nL _ _).add 0 _ Tg) 99 [(0,sN),(1,sF)] [(0,sN)] (fun((x:gT),(f:ao),_)=>.nd (rkN (Fc f) 0) (.br (decide ((dW (Fc f)).1=5)) (.nd ((0:Int)≠5) (.lf (an rZs ((x.note (dJ f.vals) f.line).note 5 f.line)))) (.br (decide ((dW (Fc f)).1=4)) (.lf (an rZs ((x.note (dJ f.vals) f.line).note 4 f.line))) (.lf (an (aR (dW (Fc f)).2) (x.note (dJ f.vals) f.line)))))) ?_ Tryz.func111;rintro⟨(x:gT),(f:ao),_⟩ r _ ⟨hs,h⟩;refine⟨⟨by omega,by omega,by have:(Fc f).length=(bj f.vals).size:=abC;omega,fun j y hj=>absurd hj (Nat.not_lt_zero _)⟩,?_⟩;have h0:f.vals.length≠1→(dW (Fc f)).1=5:=fun e=>by unfold Fc bj;rw[if_pos e];rfl
 have hc:∀c,(dW (Fc f)).1=c→(if dJ f.vals=0 then c else dJ f.vals)=jK f.vals:=fun c e=>by
  unfold jK dJ;by_cases hv:f.vals.length≠1
  ·rw[if_pos hv,if_pos hv];rfl
  ·rw[if_neg hv,if_neg hv,if_pos rfl];exact e.symm
 rcases ND (Fc f) with e|e|e
 ·have h:=h.2 (by rw[e];rfl);obtain rfl:an rZs (x.note (jK f.vals) f.line)=r:=h;exact aX (by rw[e];rfl) ⟨by decide,EW (hc 5 e)⟩
 ·have h:=h.2 (by rw[e];rfl);obtain rfl:an rZs (x.note (jK f.vals) f.line)=r:=h;exact bg (by rw[e];rfl) (aX (by rw[e];rfl) (EW (hc 4 e)))
 ·have h:=h.1 (by rw[e];rfl);obtain rfl:an (aR (dW (Fc f)).2) (x.note (jK f.vals) f.line)=r:=h;refine bg (by rw[e];rfl) (bg (by rw[e];rfl) (Ma ?_));have:=hc 0 e;by_cases hv:f.vals.length=1
  ·rw[←this];split
   ·assumption
   ·rfl
  ·have:=h0 hv;omega
noncomputable def C6:hZ Tryz.prog:=dj uC [] [⟨_,_,_,_,_,O8⟩,⟨_,_,_,_,_,wY⟩,⟨_,_,_,_,_,NC⟩,⟨_,_,_,_,_,CU⟩]
abbrev stM:List CS:=[.d .str,.d tI,.d tI,.d tI,.d (.list .str),.any,.any,.d tI,.d tI,.d .bool,.d (.list .limb),.d (.list .limb),.d tI,.d .str,.any,.any,.any,.d tI,.d tI]
abbrev sM:SS:=.box 104 stM
abbrev pM:List Nat:=[0,1,2,3,4,5]
abbrev StM:=eY stM
def StM.f (x:StM):Int×Int:=(x.2.2.2.2.2.2.2.2.2.2.2.2.2.2.2.2.2.1,x.2.2.2.2.2.2.2.2.2.2.2.2.2.2.2.2.2.2.1)
def StM.setF (x:StM) (p:Int×Int):StM:=(x.1,x.2.1,x.2.2.1,x.2.2.2.1,x.2.2.2.2.1,x.2.2.2.2.2.1,x.2.2.2.2.2.2.1,x.2.2.2.2.2.2.2.1,x.2.2.2.2.2.2.2.2.1,x.2.2.2.2.2.2.2.2.2.1,x.2.2.2.2.2.2.2.2.2.2.1,x.2.2.2.2.2.2.2.2.2.2.2.1,x.2.2.2.2.2.2.2.2.2.2.2.2.1,x.2.2.2.2.2.2.2.2.2.2.2.2.2.1,x.2.2.2.2.2.2.2.2.2.2.2.2.2.2.1,x.2.2.2.2.2.2.2.2.2.2.2.2.2.2.2.1,x.2.2.2.2.2.2.2.2.2.2.2.2.2.2.2.2.1,p.1,p.2,())
def StM.note (x:StM) (no line:Int):StM:=x.setF (nt x.f no line)
abbrev EX (r:XV) (x:StM):XV×StM×Unit:=(r,x,())
abbrev SRM:=XV×StM×Unit
namespace StM
def dots (x:StM) (v:Int):StM:=(x.1,v,x.2.2)
def blank (x:StM) (v:Int):StM:=(x.1,x.2.1,v,x.2.2.2)
def marked (x:StM) (v:Int):StM:=(x.1,x.2.1,x.2.2.1,v,x.2.2.2.2)
def prec (x:StM) (v:List ByteArray):StM:=(x.1,x.2.1,x.2.2.1,x.2.2.2.1,v,x.2.2.2.2.2)
def scan (x:StM) (v:Int):StM:=(x.1,x.2.1,x.2.2.1,x.2.2.2.1,x.2.2.2.2.1,x.2.2.2.2.2.1,x.2.2.2.2.2.2.1,v,x.2.2.2.2.2.2.2.2)
def batch (x:StM) (v:Int):StM:=(x.1,x.2.1,x.2.2.1,x.2.2.2.1,x.2.2.2.2.1,x.2.2.2.2.2.1,x.2.2.2.2.2.2.1,x.2.2.2.2.2.2.2.1,v,x.2.2.2.2.2.2.2.2.2)
def risk (x:StM) (v:Raw):StM:=(x.1,x.2.1,x.2.2.1,x.2.2.2.1,x.2.2.2.2.1,x.2.2.2.2.2.1,x.2.2.2.2.2.2.1,x.2.2.2.2.2.2.2.1,x.2.2.2.2.2.2.2.2.1,v.neg,v.num,v.den,x.2.2.2.2.2.2.2.2.2.2.2.2)
def cell (x:StM) (v:Int):StM:=(x.1,x.2.1,x.2.2.1,x.2.2.2.1,x.2.2.2.2.1,x.2.2.2.2.2.1,x.2.2.2.2.2.2.1,x.2.2.2.2.2.2.2.1,x.2.2.2.2.2.2.2.2.1,x.2.2.2.2.2.2.2.2.2.1,x.2.2.2.2.2.2.2.2.2.2.1,x.2.2.2.2.2.2.2.2.2.2.2.1,v,x.2.2.2.2.2.2.2.2.2.2.2.2.2)
def seed (x:StM) (v:ByteArray):StM:=(x.1,x.2.1,x.2.2.1,x.2.2.2.1,x.2.2.2.2.1,x.2.2.2.2.2.1,x.2.2.2.2.2.2.1,x.2.2.2.2.2.2.2.1,x.2.2.2.2.2.2.2.2.1,x.2.2.2.2.2.2.2.2.2.1,x.2.2.2.2.2.2.2.2.2.2.1,x.2.2.2.2.2.2.2.2.2.2.2.1,x.2.2.2.2.2.2.2.2.2.2.2.2.1,v,x.2.2.2.2.2.2.2.2.2.2.2.2.2.2)
end StM
def tN (x:StM) (kind:ByteArray) (f:ao):StM:=
 if aK kind f.key=aK aP dh then(x.note (jA f.vals 2 7) f.line).dots (jj f.vals)
 else if aK kind f.key=aK aP bq then(x.note (jA f.vals 1 100) f.line).blank (jj f.vals)
 else if aK kind f.key=aK aP bb then(x.note (jA f.vals 1 100) f.line).marked (jj f.vals)
 else if aK kind f.key=aK au bZ then(x.note (jA f.vals 1 6) f.line).scan (jj f.vals)
 else if aK kind f.key=aK au cf then(x.note (jA f.vals 1 16) f.line).batch (jj f.vals)
 else if aK kind f.key=aK af bY then(x.note (eO f.vals 12) f.line).prec f.vals
 else if aK kind f.key=aK aO bL then(x.note (jK f.vals) f.line).risk (dW (Fc f)).2
 else if aK kind f.key=aK aO cM then(x.note (kU f.vals) f.line).seed (bj f.vals)
 else if aK kind f.key=aK aY dH then(x.note (jA f.vals 1 400) f.line).cell (jj f.vals)
 else x
def jn (a b:ByteArray):ByteArray:=⟨(aK a b).toArray⟩
def O3 (k key a b:ByteArray):Bool:=(k++⟨#[32]⟩++key).toList==(jn a b).toList
theorem mX {k key a b:ByteArray}:aK k key=aK a b↔O3 k key a b=true:=by
 unfold O3;rw[AK];constructor
 ·intro h;refine ByteArray.ext (Array.ext' ?_);simpa[aK,jn] using h
 ·intro h;have:=congrArg (fun b=>b.data.toList) h;simpa[aK,jn] using this
def fdV (x:StM) (f:ao) (c:Int) (g:StM→StM):T SRM:=.nd ((bj f.vals).size≤9223372036854775807) (.lf (EX (.tup []) (g (x.note c f.line))))
def fdI (x:StM) (f:ao) (lo hi:Int) (g:StM→Int→StM):T SRM:=fdV x f (jA f.vals lo hi) fun y=>g y (jj f.vals)
def fdB (x:StM) (k:ByteArray) (f:ao):T SRM:=.nd (k.size+(⟨#[32]⟩:ByteArray).size≤9223372036854775807) (.nd ((k++⟨#[32]⟩).size+f.key.size≤9223372036854775807)
 (.br (O3 k f.key aP dh) (fdI x f 2 7 .dots) (.br (O3 k f.key aP bq) (fdI x f 1 100 .blank) (.br (O3 k f.key aP bb) (fdI x f 1 100 .marked)
 (.br (O3 k f.key au bZ) (fdI x f 1 6 .scan) (.br (O3 k f.key au cf) (fdI x f 1 16 .batch)
 (.br (O3 k f.key af bY) (.nd (FH f.vals∧(0:Int)≤12∧f.vals.length≤1099511627776) (.lf (EX (.tup []) ((x.note (eO f.vals 12) f.line).prec f.vals))))
 (.br (O3 k f.key aO bL) (.nd ((bj f.vals).size≤9223372036854775807) (.br (decide ((dW (Fc f)).1=0)) (.lf (EX (.tup []) ((x.note (jK f.vals) f.line).risk (dW (Fc f)).2))) (.lf (EX (.tup []) ((x.note (jK f.vals) f.line).risk ⟨false,[],[]⟩)))))
 (.br (O3 k f.key aO cM) (fdV x f (kU f.vals) fun y=>y.seed (bj f.vals))
 (.br (O3 k f.key aY dH) (fdI x f 1 400 .cell) (.lf (EX (.tup []) x))))))))))))
def Lu (k:ByteArray) (f:ao):Prop:=fOk f∧k.size≤1152921504606846976∧f.key.size≤1152921504606846976
theorem Ls:gh Tryz.prog 86 pM [(0,sM),(1,sS),(2,sF)] [(0,sM)] fun((x:StM),(k:ByteArray),(f:ao),_)=>.nd (Lu k f) (.lf (EX (.tup []) (tN x k f))):=by
 refine kJ (C:=C6) (pb:=pM) (nL _ _) 99 [(0,sM),(1,sS),(2,sF)] [(0,sM)] (fun((x:StM),(k:ByteArray),(f:ao),_)=>fdB x k f) ?_ Tryz.func86;rintro⟨(x:StM),(k:ByteArray),(f:ao),_⟩ r _ ⟨⟨⟨h1,h2⟩,h3,h4⟩,hr⟩;obtain rfl:EX (.tup []) (tN x k f)=r:=hr;have hv:=CF h1;have ho:∀c g,(fdV x f c g).hit (EX (.tup []) (g (x.note c f.line))):=fun c g=>⟨hv,rfl⟩;have e1:(⟨#[32]⟩:ByteArray).size=1:=rfl;refine⟨by omega,by rw[ByteArray.size_append];omega,?_⟩;unfold tN;refine j7 (F:=EX (.tup [])) mX (ho _ _) (j7 (F:=EX (.tup [])) mX (ho _ _) (j7 (F:=EX (.tup [])) mX (ho _ _) (j7 (F:=EX (.tup [])) mX (ho _ _) (j7 (F:=EX (.tup [])) mX (ho _ _) (j7 (F:=EX (.tup [])) mX ⟨⟨h1,by decide,h2⟩,rfl⟩ (j7 (F:=EX (.tup [])) mX ⟨hv,?_⟩ (j7 (F:=EX (.tup [])) mX (ho _ fun y=>y.seed (bj f.vals)) (j7 (F:=EX (.tup [])) mX (ho _ _) rfl))))))));refine⟨fun _=>rfl,fun e=>?_⟩;have:(dW (Fc f)).2=⟨false,[],[]⟩:=by
  have e:=of_decide_eq_false e
  revert e
  unfold dW;split
  ·exact fun _=>rfl
  ·split
   ·exact fun _=>rfl
   ·exact fun e=>absurd rfl e
 rw[this];rfl
noncomputable def acK (t:TypeId):Option Ty:=List.lookup t [(9,.str),(3,tI),(95,.st 3),(97,.st 10),(152,.st 7),(151,.st 6)]
noncomputable def C7:hZ Tryz.prog:=dj acK [⟨_,_,_,find_ok⟩,⟨_,_,_,rH⟩] [⟨_,_,_,_,_,kI⟩,⟨_,_,_,_,_,QQ⟩,⟨_,_,_,_,_,Ls⟩,⟨_,_,_,_,_,wY⟩,⟨_,_,_,_,_,PS⟩]
abbrev sNb:SS:=.box 151 [.d (.list .str),.d (.list .str)]
abbrev sLb:SS:=.box 152 [.d tI,.d tI]
abbrev ye:=eY [.d (.list .str),.d (.list .str)]
abbrev yg:=eY [.d tI,.d tI]
abbrev R0:SS:=.c (.own .str 9)
abbrev bkL:List (Nat×SS):=[(0,sT),(3,sBb),(4,R0),(5,XS),(6,sNb),(7,sLb),(8,sI),(9,sI),(10,sI)]
abbrev bkO:List (Nat×SS):=[(0,sT),(3,sBb),(4,R0),(5,XS),(6,sNb),(7,sLb),(8,sI),(9,sI)]
noncomputable abbrev bfn:=Tryz.f47
def bh.m (x:bh):StM:=(x.1,x.2.1,x.2.2.1,x.2.2.2.1,x.2.2.2.2.1,(),(),x.2.2.2.2.2.2.2.1,x.2.2.2.2.2.2.2.2.1,x.2.2.2.2.2.2.2.2.2.1,x.2.2.2.2.2.2.2.2.2.2.1,x.2.2.2.2.2.2.2.2.2.2.2.1,x.2.2.2.2.2.2.2.2.2.2.2.2.1,x.2.2.2.2.2.2.2.2.2.2.2.2.2.1,(),(),(),x.f.1,x.f.2,())
def bh.setM (x:bh) (y:StM):bh:=(y.1,y.2.1,y.2.2.1,y.2.2.2.1,y.2.2.2.2.1,x.2.2.2.2.2.1,x.2.2.2.2.2.2.1,y.2.2.2.2.2.2.2.1,y.2.2.2.2.2.2.2.2.1,y.2.2.2.2.2.2.2.2.2.1,y.2.2.2.2.2.2.2.2.2.2.1,y.2.2.2.2.2.2.2.2.2.2.2.1,y.2.2.2.2.2.2.2.2.2.2.2.2.1,y.2.2.2.2.2.2.2.2.2.2.2.2.2.1,x.2.2.2.2.2.2.2.2.2.2.2.2.2.2.1,x.2.2.2.2.2.2.2.2.2.2.2.2.2.2.2.1,x.2.2.2.2.2.2.2.2.2.2.2.2.2.2.2.2.1,y.f.1,y.f.2,())
def bh.setE (x:bh) (e:aa) (f:eM):bh:=(e.title,e.dots,e.blank,e.marked,e.prec,x.2.2.2.2.2.1,x.2.2.2.2.2.2.1,e.scan,e.batch,e.risk.neg,e.risk.num,e.risk.den,e.cell,e.seed,x.2.2.2.2.2.2.2.2.2.2.2.2.2.2.1,x.2.2.2.2.2.2.2.2.2.2.2.2.2.2.2.1,x.2.2.2.2.2.2.2.2.2.2.2.2.2.2.2.2.1,f.no,f.line,())
def loc (x:bh) (kn:List ByteArray) (c:oT) (nm:ye) (ln:yg) (d s:Int):dd:=⟨x.e,⟨x.f.1,x.f.2⟩,kn.reverse,Mr c,nm.1,nm.2.1,ln.1,ln.2.1,d,s⟩
def ka.kind (b:ka):ByteArray:=b.1
abbrev Ho:=LE bkL bkO [(0,sT)]
def Rc (b:ka) (x:bh) (kn:List ByteArray) (c:oT) (nm:ye) (ln:yg) (d s i:Int):Ho:=.back (x,b,kn,c,nm,ln,d,s,i,())
def EN (b:ka) (x:bh) (kn:List ByteArray) (c:oT) (nm:ye) (ln:yg) (d s:Int):Ho:=.out (x,b,kn,c,nm,ln,d,s,())
def VI (b:ka) (x:bh) (kn:List ByteArray) (c:oT) (nm:ye) (ln:yg) (d s i:Int):T Ho:=.nd (cN (i+1)) (.lf (Rc b x kn c nm ln d s (i+1)))
def afC (x:bh) (f:ao) (k:Int) (t:bh→T Ho):T Ho:=.nd (FH f.vals∧(0:Int)≤k∧f.vals.length≤1099511627776) (t (x.note (eO f.vals k) f.line))
def bkC (b:ka) (x:bh) (kn:List ByteArray) (c:oT) (nm:ye) (ln:yg) (d s i:Int) (f:ao):T Ho:=
 .br (f.key.toList==az.toList) (.br (f.key.toList==bf.toList) (VI b x kn c nm ln f.line f.line i) (VI b x kn c nm ln f.line s i)) (.br (f.key.toList==bf.toList) (VI b x kn c nm ln d f.line i) (VI b x kn c nm ln d s i))
def bkF (b:ka) (x:bh) (kn:List ByteArray) (c:oT) (nm:ye) (ln:yg) (d s i:Int) (f:ao):T Ho:=.nd (Lu b.kind f) (VI b (x.setM (tN x.m b.kind f)) kn c nm ln d s i)
def bk2 (b:ka) (x:bh) (kn:List ByteArray) (c:oT) (nm:ye) (ln:yg) (d s i:Int) (f:ao):T Ho:=
 .br (is aD b) (afC x f 4 fun x=>VI b x kn c (nm.1,f.vals,()) (ln.1,f.line,()) d s i) (bkF b x kn c nm ln d s i f)
def bkR (b:ka) (x:bh) (kn:List ByteArray) (c:oT) (nm:ye) (ln:yg) (d s i:Int) (f:ao):T Ho:=
 .br (!(x.err==0)) (VI b x kn c nm ln d s i)
 (.br (is ah b) (.nd (fOk f) (bkC b (x.note (fE (Mr c) f).2 f.line) kn (Mq (fE (Mr c) f).1) nm ln d s i f))
 (.br (is aD b) (.br (f.key.toList==af.toList) (afC x f 12 fun x=>VI b x kn c (f.vals,nm.2.1,()) (f.line,ln.2.1,()) d s i) (bk2 b x kn c nm ln d s i f)) (bk2 b x kn c nm ln d s i f)))
def aaX (b:ka) (x:bh) (kn:List ByteArray) (c:oT) (nm:ye) (ln:yg) (d s i:Int) (f:ao):T Ho:=.nd ((kn.length+1)*17≤140737488355328) (bkR b x (f.key::kn) c nm ln d s i f)
def bkA (b:ka) (x:bh) (kn:List ByteArray) (c:oT) (nm:ye) (ln:yg) (d s i:Int) (f:ao):T Ho:=
 .br (decide (Lib.idxOfS kn.reverse f.key≥0)) (.nd ((0:Int)≠3) (aaX b (x.note 3 f.line) kn c nm ln d s i f)) (aaX b x kn c nm ln d s i f)
def bkB (b:ka) (x:bh) (kn:List ByteArray) (c:oT) (nm:ye) (ln:yg) (d s i:Int) (f:ao):T Ho:=
 .br (decide (Lib.idxOfS (aM b.kind) f.key<0)) (.nd ((0:Int)≠2) (bkA b (x.note 2 f.line) kn c nm ln d s i f)) (bkA b x kn c nm ln d s i f)
def ao.zero:ao:=⟨⟨#[]⟩,[],0⟩
def ka.fs (b:ka):List ao:=b.2.2.1
def bkT (b:ka) (x:bh) (kn:List ByteArray) (c:oT) (nm:ye) (ln:yg) (d s i:Int):T Ho:=
 .br (decide (i<b.fs.length)) (.br (x.err==0) (.nd (0≤i∧i<b.fs.length) (bkB b x kn c nm ln d s i (b.fs.getD i.toNat ao.zero))) (.lf (EN b x kn c nm ln d s))) (.lf (EN b x kn c nm ln d s))
theorem GD (p:Int×Int) (no line:Int):(⟨p.1,p.2⟩:eM).note no line=⟨(nt p no line).1,(nt p no line).2⟩:=by
 unfold eM.note nt;by_cases h:p.1=0∧no≠0
 ·rw[if_pos h,if_pos h]
 ·rw[if_neg h,if_neg h]
def bh.er (x:bh):eM:=⟨x.f.1,x.f.2⟩
theorem o7 (x:bh) (no line:Int):(x.note no line).er=x.er.note no line:=(GD x.f no line).symm
theorem oY (x:bh) (no line:Int):x.note no line=x.setE x.e (x.er.note no line):=by rw[←o7];rfl
theorem Qs (x:bh) (k:ByteArray) (f:ao):x.setM (tN x.m k f)=x.setE (dp k x.e f).1 (x.er.note (dp k x.e f).2 f.line):=by
 have h:∀c,x.er.note c f.line=⟨(nt x.f c f.line).1,(nt x.f c f.line).2⟩:=fun c=>GD x.f c f.line;rw[h];unfold tN dp;split
 ·rfl
 split
 ·rfl
 split
 ·rfl
 split
 ·rfl
 split
 ·rfl
 split
 ·rfl
 split
 ·rfl
 split
 ·rfl
 split
 ·rfl
 rw[Of];rfl
theorem Eh (k:ByteArray) (e:aa) (f:ao):(dp k e f).1.cont=e.cont∧(dp k e f).1.styl=e.styl:=by
 unfold dp;repeat (split;· exact⟨rfl,rfl⟩)
 exact⟨rfl,rfl⟩
def xW (b:ka) (x:bh) (y:dd) (i:Int):Ho:=Rc b (x.setE y.e y.f) y.known.reverse (Mq y.c) (y.n0,y.n1,()) (y.l0,y.l1,()) y.digits y.seats i
def EO (b:ka) (x:bh) (y:dd):Ho:=EN b (x.setE y.e y.f) y.known.reverse (Mq y.c) (y.n0,y.n1,()) (y.l0,y.l1,()) y.digits y.seats
theorem OE {x:bh} {y:dd} (h1:y.e.cont=x.cont) (h2:y.e.styl=x.styl):loc (x.setE y.e y.f) y.known.reverse (Mq y.c) (y.n0,y.n1,()) (y.l0,y.l1,()) y.digits y.seats=y:=by
 have:(x.setE y.e y.f).e=y.e:=by
  show(⟨y.e.title,y.e.dots,y.e.blank,y.e.marked,y.e.prec,x.cont,x.styl,y.e.scan,y.e.batch,⟨y.e.risk.neg,y.e.risk.num,y.e.risk.den⟩,y.e.cell,y.e.seed⟩:aa)=y.e;rw[←h1,←h2]
 show(⟨(x.setE y.e y.f).e,y.f,y.known.reverse.reverse,y.c,y.n0,y.n1,y.l0,y.l1,y.digits,y.seats⟩:dd)=_;rw[this,aa7]
theorem vX (k:ByteArray) (y:dd) (f:ao):(aW k y f).e.cont=y.e.cont∧(aW k y f).e.styl=y.e.styl:=by
 unfold aW;simp only;generalize (y.f.note (if bH (aM k) f.key=true then 0 else 2) f.line).note (if bH y.known f.key=true then 3 else 0) f.line=f2;repeat (split;· exact⟨rfl,rfl⟩)
 exact Eh k y.e f
theorem isB {k:ByteArray} {b:ka}:is k b=true↔b.kind=k:=AK
theorem VJ (b:ka) (x:bh) (kn:List ByteArray) (c:oT) (nm:ye) (ln:yg) (d s i:Int) (f:ao) (hf:Lu b.kind f) (hk:(kn.length+1)*17≤140737488355328) (hi:cN (i+1)):(bkB b x kn c nm ln d s i f).hit (xW b x (aW b.kind (loc x kn c nm ln d s) f) (i+1)):=by
 obtain⟨⟨f1,f2⟩,_⟩:=hf;have hR:∀z:bh,z.er=((x.er.note (if bH (aM b.kind) f.key=true then 0 else 2) f.line).note (if bH kn.reverse f.key=true then 3 else 0) f.line)→z=x.setE x.e z.er→(bkR b z (f.key::kn) c nm ln d s i f).hit (xW b x (aW b.kind (loc x kn c nm ln d s) f) (i+1)):=by
  intro z he hz;have Po:(kn.reverse++[f.key]).reverse=f.key::kn:=by simp
  have hnt:∀no,z.note no f.line=x.setE x.e (z.er.note no f.line):=fun no=>by
   rw[oY,hz];rfl
  unfold aW bkR;simp only;have hs:(loc x kn c nm ln d s).f=x.er:=rfl;have Ff:(loc x kn c nm ln d s).known=kn.reverse:=rfl;rw[hs,Ff,←he];by_cases h0:z.er.no=0
  ·rw[if_neg (by simpa using h0)];refine bg (by rw[show z.err=0 from h0];rfl) ?_;by_cases h1:b.kind=ah
   ·rw[if_pos h1];refine aX (isB.2 h1) ⟨⟨f1,f2⟩,?_⟩;have rR:∀d' s',(VI b (z.note (fE (Mr c) f).2 f.line) (f.key::kn) (Mq (fE (Mr c) f).1) nm ln d' s' i).hit (xW b x { loc x kn c nm ln d s with f:=z.er.note (fE (Mr c) f).2 f.line,known:=kn.reverse++[f.key],c:=(fE (Mr c) f).1,digits:=d',seats:=s' } (i+1)):=fun d' s'=>⟨hi,by
     unfold xW;simp only;rw[Po,hnt];rfl⟩
    unfold bkC;by_cases hd:f.key=az
    ·refine aX (AK.2 hd) ?_;rw[if_pos hd];by_cases UD:f.key=bf
     ·exact aX (AK.2 UD) (by rw[if_pos UD];exact rR _ _)
     ·exact bg (by rw[eE];exact decide_eq_false UD) (by rw[if_neg UD];exact rR _ _)
    ·refine bg (by rw[eE];exact decide_eq_false hd) ?_;rw[if_neg hd];by_cases UD:f.key=bf
     ·exact aX (AK.2 UD) (by rw[if_pos UD];exact rR _ _)
     ·exact bg (by rw[eE];exact decide_eq_false UD) (by rw[if_neg UD];exact rR _ _)
   ·rw[if_neg h1];refine bg (by rw[acA];exact fun e=>h1 (isB.1 e)) ?_;have h2:(bk2 b z (f.key::kn) c nm ln d s i f).hit (xW b x (if b.kind=aD then { loc x kn c nm ln d s with f:=z.er.note (eO f.vals 4) f.line,known:=kn.reverse++[f.key],n1:=f.vals,l1:=f.line } else { loc x kn c nm ln d s with e:=(dp b.kind x.e f).1,f:=z.er.note (dp b.kind x.e f).2 f.line,known:=kn.reverse++[f.key] }) (i+1)):=by
     unfold bk2;by_cases h2:b.kind=aD
     ·rw[if_pos h2];refine aX (isB.2 h2) ⟨⟨f1,by decide,f2⟩,hi,?_⟩;unfold xW;simp only;rw[Po,hnt];rfl
     ·rw[if_neg h2];refine bg (by rw[acA];exact fun e=>h2 (isB.1 e)) ⟨⟨⟨f1,f2⟩,‹_›⟩,hi,?_⟩;unfold xW;simp only;rw[Po,Qs,hz];rfl
    by_cases h3:b.kind=aD
    ·refine aX (isB.2 h3) ?_;by_cases h4:f.key=af
     ·rw[if_pos ⟨h3,h4⟩];refine aX (AK.2 h4) ⟨⟨f1,by decide,f2⟩,hi,?_⟩;unfold xW;simp only;rw[Po,hnt];rfl
     ·rw[if_neg fun q=>h4 q.2];exact bg (by rw[eE];exact decide_eq_false h4) h2
    ·rw[if_neg fun q=>h3 q.1];exact bg (by rw[acA];exact fun e=>h3 (isB.1 e)) h2
  ·rw[if_pos h0];refine aX (by rw[ab8];exact beq_eq_false_iff_ne.2 h0) ⟨hi,?_⟩;unfold xW;simp only;rw[Po,hz];rfl
 have hP:∀z:bh,z.er=((x.er.note (if bH (aM b.kind) f.key=true then 0 else 2) f.line).note (if bH kn.reverse f.key=true then 3 else 0) f.line)→z=x.setE x.e z.er→(aaX b z kn c nm ln d s i f).hit (xW b x (aW b.kind (loc x kn c nm ln d s) f) (i+1)):=fun z h1 h2=>⟨hk,hR z h1 h2⟩;have hA:∀z:bh,z.er=x.er.note (if bH (aM b.kind) f.key=true then 0 else 2) f.line→z=x.setE x.e z.er→(bkA b z kn c nm ln d s i f).hit (xW b x (aW b.kind (loc x kn c nm ln d s) f) (i+1)):=by
  intro z h1 h2;unfold bkA;by_cases h:bH kn.reverse f.key=true
  ·refine aX h ⟨by decide,hP _ ?_ ?_⟩
   ·rw[o7,h1,if_pos h]
   ·rw[oY,h2];rfl
  ·refine bg (by unfold bH at h;simpa using h) (hP _ ?_ h2);rw[h1,if_neg h];have:∀e:eM,e.note 0 f.line=e:=fun e=>if_neg fun q=>q.2 rfl;rw[this]
 unfold bkB;by_cases h:bH (aM b.kind) f.key=true
 ·refine bg (by unfold bH at h;simpa using h) (hA _ ?_ rfl);rw[if_pos h];have:∀e:eM,e.note 0 f.line=e:=fun e=>if_neg fun q=>q.2 rfl;rw[this]
 ·refine aX (by unfold bH at h;simpa using h) ⟨by decide,hA _ ?_ ?_⟩
  ·rw[o7,if_neg h]
  ·rw[oY];rfl
def Xo (b:ka) (kn:List ByteArray) (i:Int):Prop:=0≤i∧i≤b.fs.length∧(kn.length:Int)=i∧b.fs.length≤1099511627776∧∀f∈b.fs,Lu b.kind f
theorem CK {k:ByteArray} {l:List ao} {y:dd} {i:Nat} (hi:i<l.length) (h:y.f.no=0):dQ k (l.drop i) y=dQ k (l.drop (i+1)) (aW k y (l.getD i ao.zero)):=by
 rw[getD_drop ao.zero hi,dQ,if_neg (by simpa using h)]
theorem FK {k:ByteArray} {l:List ao} {y:dd} (h:y.f.no≠0):dQ k l y=y:=by
 cases l with
 | nil=>rfl
 | cons f l=>rw[dQ,if_pos h]
theorem AB (b:ka) (x:bh) (kn:List ByteArray) (c:oT) (nm:ye) (ln:yg) (d s:Int):EN b x kn c nm ln d s=EO b x (loc x kn c nm ln d s):=by
 show _=EN b x kn.reverse.reverse c nm ln d s;rw[aa7]
theorem CL (k:ByteArray) (y:dd) (f:ao):(aW k y f).known=y.known++[f.key]:=by
 unfold aW;simp only;generalize (y.f.note (if bH (aM k) f.key=true then 0 else 2) f.line).note (if bH y.known f.key=true then 3 else 0) f.line=f2;repeat (split;· rfl)
 rfl
theorem LX:eD (LB C7 bfn [0]) 0 0 bkL bkO [(0,sT)] fun((x:bh),(b:ka),(kn:List ByteArray),(c:oT),(nm:ye),(ln:yg),(d:Int),(s:Int),(i:Int),_)=>.nd (Xo b kn i) (.lf (EO b x (dQ b.kind (b.fs.drop i.toNat) (loc x kn c nm ln d s)))):=by
 refine eG _ (nL _ _) 99 0 0 bkL bkO [(0,sT)] (fun((x:bh),(b:ka),(kn:List ByteArray),(c:oT),(nm:ye),(ln:yg),(d:Int),(s:Int),(i:Int),_)=>bkT b x kn c nm ln d s i)
  (fun(_,(b:ka),_,_,_,_,_,_,(i:Int),_)=>b.fs.length-i.toNat) ?_
 rintro⟨(x:bh),(b:ka),(kn:List ByteArray),(c:oT),(nm:ye),(ln:yg),(d:Int),(s:Int),(i:Int),_⟩ r _ ⟨⟨h0,h1,h2,h3,h4⟩,hr⟩;obtain rfl:EO b x (dQ b.kind (b.fs.drop i.toNat) (loc x kn c nm ln d s))=r:=hr;obtain⟨k,rfl⟩:∃k:Nat,i=k:=⟨i.toNat,by omega⟩;rw[aaR];show∃q,(bkT b x kn c nm ln d s k).hit q∧_;unfold bkT;by_cases hk:k<b.fs.length
 ·by_cases he:x.err=0
  ·have hy:(loc x kn c nm ln d s).f.no=0:=he;have hf:=h4 (b.fs.getD k ao.zero) (by rw[aaQ,aac hk];exact abI hk);refine⟨_,aX (decide_eq_true (by omega)) (aX (beq_iff_eq.2 he) ⟨⟨by omega,by omega⟩,VJ b x kn c nm ln d s k _ (by rw[aaR];exact hf) (by omega) ⟨by omega,by omega⟩⟩),?_,?_⟩
   ·show b.fs.length-(k+1)<b.fs.length-k;omega
   ·rw[aaR,CK hk hy];obtain⟨r1,r2⟩:=vX b.kind (loc x kn c nm ln d s) (b.fs.getD k ao.zero);have gV:=CL b.kind (loc x kn c nm ln d s) (b.fs.getD k ao.zero);generalize aW b.kind (loc x kn c nm ln d s) (b.fs.getD k ao.zero)=y at*;refine⟨⟨by omega,by omega,?_,h3,h4⟩,?_⟩
    ·rw[gV,aa9,abm];show((kn.reverse.length+1:Nat):Int)=(k:Int)+1;rw[aa9];omega
    ·show EO b (x.setE y.e y.f) _=_;exact congrArg (fun z=>EO b (x.setE y.e y.f) (dQ b.kind (b.fs.drop (k+1)) z)) (OE r1 r2)
  ·refine⟨_,aX (decide_eq_true (by omega)) (bg (beq_eq_false_iff_ne.2 he) rfl),?_⟩;rw[FK (by exact he)];exact AB b x kn c nm ln d s
 ·refine⟨_,bg (decide_eq_false (by omega)) rfl,?_⟩;rw[abg (by omega)];exact AB b x kn c nm ln d s
abbrev bmL:List (Nat×SS):=[(0,sT),(3,sBb),(4,R0),(5,XS),(6,sNb),(7,sLb),(8,sI),(9,sI),(12,sL),(13,sI)]
abbrev BmE:=LE bmL bkO [(0,sT)]
def ka.ln (b:ka):Int:=b.2.2.2.1
def ka.nm (b:ka):ByteArray:=b.2.1
def oT.me (c:oT):Int:=c.2.2.1
section
variable (b:ka) (kn:List ByteArray) (c:oT) (nm:ye) (ln:yg) (d s:Int) (l:List ByteArray) (i:Int)
def aaV (x:bh):BmE:=.back (x,b,kn,c,nm,ln,d,s,l,i+1,())
def Az (x:bh):BmE:=.out (x,b,kn,c,nm,ln,d,s,())
def bmN (x:bh):T BmE:=.nd (cN (i+1)) (.lf (aaV b kn c nm ln d s l i x))
def bmF (x:bh):T BmE:=.nd ((0:Int)≠6) (bmN b kn c nm ln d s l i (x.note 6 b.ln))
def bmT (x:bh):T BmE:=
 .br (decide (i<l.length)) (.br (x.err==0) (.nd (0≤i∧i<l.length) (.br (decide (Lib.idxOfS kn.reverse (l.getD i.toNat ⟨#[]⟩)<0)) (.nd (0≤i∧i<l.length)
  (.br (!((l.getD i.toNat ⟨#[]⟩).toList==az.toList)) (bmF b kn c nm ln d s l i x) (.br (c.me==2) (bmF b kn c nm ln d s l i x) (bmN b kn c nm ln d s l i x)))) (bmN b kn c nm ln d s l i x))) (.lf (Az b kn c nm ln d s x))) (.lf (Az b kn c nm ln d s x))
end
theorem LW:eD (LB C7 bfn [0]) 1 3 bmL bkO [(0,sT)] fun((x:bh),(b:ka),(kn:List ByteArray),(c:oT),(nm:ye),(ln:yg),(d:Int),(s:Int),(l:List ByteArray),(i:Int),_)=>.nd (0≤i∧i≤l.length) (.lf (Az b kn c nm ln d s (x.setE x.e (gd kn.reverse c.me b.ln (l.drop i.toNat) x.er)))):=by
 refine eG _ (nL _ _) 99 1 3 bmL bkO [(0,sT)] (fun((x:bh),(b:ka),(kn:List ByteArray),(c:oT),(nm:ye),(ln:yg),(d:Int),(s:Int),(l:List ByteArray),(i:Int),_)=>bmT b kn c nm ln d s l i x)
  (fun(_,_,_,_,_,_,_,_,(l:List ByteArray),(i:Int),_)=>l.length-i.toNat) ?_
 rintro⟨(x:bh),(b:ka),(kn:List ByteArray),(c:oT),(nm:ye),(ln:yg),(d:Int),(s:Int),(l:List ByteArray),(i:Int),_⟩ r sJ ⟨⟨h0,h1⟩,hr⟩;have hl:l.length≤9223372036854775807:=sJ.2.2.2.2.2.2.2.2.1;obtain rfl:Az b kn c nm ln d s (x.setE x.e (gd kn.reverse c.me b.ln (l.drop i.toNat) x.er))=r:=hr;obtain⟨k,rfl⟩:∃k:Nat,i=k:=⟨i.toNat,by omega⟩;rw[aaR];show∃q,(bmT b kn c nm ln d s l k x).hit q∧_;unfold bmT;by_cases hk:k<l.length
 ·have hx:=getD_drop (⟨#[]⟩:ByteArray) hk;by_cases he:x.err=0
  ·have dec:l.length-(k+1)<l.length-k:=by omega
   have di:cN ((k:Int)+1):=⟨by omega,by omega⟩;rw[hx,gd,if_neg (by simpa using(show x.er.no=0 from he))];rw[aaR];have key:∀no,(if bH kn.reverse (l.getD k ⟨#[]⟩)=true∨(l.getD k ⟨#[]⟩=az∧c.me≠2) then(0:Int) else 6)=no→Az b kn c nm ln d s ((x.note no b.ln).setE (x.note no b.ln).e (gd kn.reverse c.me b.ln (l.drop (k+1)) (x.note no b.ln).er))=Az b kn c nm ln d s (x.setE x.e (gd kn.reverse c.me b.ln (l.drop (k+1)) (x.er.note (if bH kn.reverse (l.getD k ⟨#[]⟩)=true∨(l.getD k ⟨#[]⟩=az∧c.me≠2) then 0 else 6) b.ln))):=by
    rintro no rfl;rw[o7];rfl
   have no0:(x.note 0 b.ln)=x:=vj _;by_cases hh:bH kn.reverse (l.getD k ⟨#[]⟩)=true
   ·refine⟨_,aX (decide_eq_true (by omega)) (aX (beq_iff_eq.2 he) ⟨⟨by omega,by omega⟩,bg (by unfold bH at hh;simpa using hh) ⟨di,rfl⟩⟩),dec,⟨by omega,by omega⟩,?_⟩;have:=key 0 (if_pos (.inl hh));rw[no0] at this;exact this
   ·have hlt:decide (Lib.idxOfS kn.reverse (l.getD k ⟨#[]⟩)<0)=true:=by unfold bH at hh;simpa using hh
    by_cases hd:l.getD k ⟨#[]⟩=az
    ·by_cases hm:c.me=2
     ·refine⟨_,aX (decide_eq_true (by omega)) (aX (beq_iff_eq.2 he) ⟨⟨by omega,by omega⟩,aX hlt ⟨⟨by omega,by omega⟩,bg (by rw[Bool.not_eq_false'];exact AK.2 hd) (aX (beq_iff_eq.2 hm) ⟨by decide,di,rfl⟩)⟩⟩),dec,⟨by omega,by omega⟩,key 6 (if_neg fun q=>q.elim hh fun q=>q.2 hm)⟩
     ·refine⟨_,aX (decide_eq_true (by omega)) (aX (beq_iff_eq.2 he) ⟨⟨by omega,by omega⟩,aX hlt ⟨⟨by omega,by omega⟩,bg (by rw[Bool.not_eq_false'];exact AK.2 hd) (bg (beq_eq_false_iff_ne.2 hm) ⟨di,rfl⟩)⟩⟩),dec,⟨by omega,by omega⟩,?_⟩;have:=key 0 (if_pos (.inr ⟨hd,hm⟩));rw[no0] at this;exact this
    ·refine⟨_,aX (decide_eq_true (by omega)) (aX (beq_iff_eq.2 he) ⟨⟨by omega,by omega⟩,aX hlt ⟨⟨by omega,by omega⟩,aX (by rw[ab8,eE];exact decide_eq_false hd) ⟨by decide,di,rfl⟩⟩⟩),dec,⟨by omega,by omega⟩,key 6 (if_neg fun q=>q.elim hh fun q=>hd q.1)⟩
  ·refine⟨_,aX (decide_eq_true (by omega)) (bg (beq_eq_false_iff_ne.2 he) rfl),?_⟩;rw[hx,gd,if_pos (by exact he)];rfl
 ·refine⟨_,bg (decide_eq_false (by omega)) rfl,?_⟩;rw[abg (by omega),gd];rfl
def bh.rc (x:bh):List (ai):=x.2.2.2.2.2.1
def bh.ac (x:bh) (v:ai):bh:=(x.1,x.2.1,x.2.2.1,x.2.2.2.1,x.2.2.2.2.1,(List.cons (α:=ai) v x.rc),x.2.2.2.2.2.2.1,x.2.2.2.2.2.2.2.1,x.2.2.2.2.2.2.2.2.1,x.2.2.2.2.2.2.2.2.2.1,x.2.2.2.2.2.2.2.2.2.2.1,x.2.2.2.2.2.2.2.2.2.2.2.1,x.2.2.2.2.2.2.2.2.2.2.2.2.1,x.2.2.2.2.2.2.2.2.2.2.2.2.2.1,x.2.2.2.2.2.2.2.2.2.2.2.2.2.2.1,x.2.2.2.2.2.2.2.2.2.2.2.2.2.2.2.1,x.2.2.2.2.2.2.2.2.2.2.2.2.2.2.2.2.1,x.2.2.2.2.2.2.2.2.2.2.2.2.2.2.2.2.2.1,x.2.2.2.2.2.2.2.2.2.2.2.2.2.2.2.2.2.2.1,())
def bh.rs (x:bh):List (ByteArray):=x.2.2.2.2.2.2.1
def bh.as (x:bh) (v:ByteArray):bh:=(x.1,x.2.1,x.2.2.1,x.2.2.2.1,x.2.2.2.2.1,x.2.2.2.2.2.1,(List.cons (α:=ByteArray) v x.rs),x.2.2.2.2.2.2.2.1,x.2.2.2.2.2.2.2.2.1,x.2.2.2.2.2.2.2.2.2.1,x.2.2.2.2.2.2.2.2.2.2.1,x.2.2.2.2.2.2.2.2.2.2.2.1,x.2.2.2.2.2.2.2.2.2.2.2.2.1,x.2.2.2.2.2.2.2.2.2.2.2.2.2.1,x.2.2.2.2.2.2.2.2.2.2.2.2.2.2.1,x.2.2.2.2.2.2.2.2.2.2.2.2.2.2.2.1,x.2.2.2.2.2.2.2.2.2.2.2.2.2.2.2.2.1,x.2.2.2.2.2.2.2.2.2.2.2.2.2.2.2.2.2.1,x.2.2.2.2.2.2.2.2.2.2.2.2.2.2.2.2.2.2.1,())
def bh.rn (x:bh):List (ByteArray):=x.2.2.2.2.2.2.2.2.2.2.2.2.2.2.1
def bh.an (x:bh) (v:ByteArray):bh:=(x.1,x.2.1,x.2.2.1,x.2.2.2.1,x.2.2.2.2.1,x.2.2.2.2.2.1,x.2.2.2.2.2.2.1,x.2.2.2.2.2.2.2.1,x.2.2.2.2.2.2.2.2.1,x.2.2.2.2.2.2.2.2.2.1,x.2.2.2.2.2.2.2.2.2.2.1,x.2.2.2.2.2.2.2.2.2.2.2.1,x.2.2.2.2.2.2.2.2.2.2.2.2.1,x.2.2.2.2.2.2.2.2.2.2.2.2.2.1,(List.cons (α:=ByteArray) v x.rn),x.2.2.2.2.2.2.2.2.2.2.2.2.2.2.2.1,x.2.2.2.2.2.2.2.2.2.2.2.2.2.2.2.2.1,x.2.2.2.2.2.2.2.2.2.2.2.2.2.2.2.2.2.1,x.2.2.2.2.2.2.2.2.2.2.2.2.2.2.2.2.2.2.1,())
def bh.rl (x:bh):List (Int×Int):=x.2.2.2.2.2.2.2.2.2.2.2.2.2.2.2.1
def bh.al (x:bh) (v:Int×Int):bh:=(x.1,x.2.1,x.2.2.1,x.2.2.2.1,x.2.2.2.2.1,x.2.2.2.2.2.1,x.2.2.2.2.2.2.1,x.2.2.2.2.2.2.2.1,x.2.2.2.2.2.2.2.2.1,x.2.2.2.2.2.2.2.2.2.1,x.2.2.2.2.2.2.2.2.2.2.1,x.2.2.2.2.2.2.2.2.2.2.2.1,x.2.2.2.2.2.2.2.2.2.2.2.2.1,x.2.2.2.2.2.2.2.2.2.2.2.2.2.1,x.2.2.2.2.2.2.2.2.2.2.2.2.2.2.1,(List.cons (α:=Int×Int) v x.rl),x.2.2.2.2.2.2.2.2.2.2.2.2.2.2.2.2.1,x.2.2.2.2.2.2.2.2.2.2.2.2.2.2.2.2.2.1,x.2.2.2.2.2.2.2.2.2.2.2.2.2.2.2.2.2.2.1,())
def bh.rm (x:bh):List (List ByteArray×List ByteArray):=x.2.2.2.2.2.2.2.2.2.2.2.2.2.2.2.2.1
def bh.am (x:bh) (v:List ByteArray×List ByteArray):bh:=(x.1,x.2.1,x.2.2.1,x.2.2.2.1,x.2.2.2.2.1,x.2.2.2.2.2.1,x.2.2.2.2.2.2.1,x.2.2.2.2.2.2.2.1,x.2.2.2.2.2.2.2.2.1,x.2.2.2.2.2.2.2.2.2.1,x.2.2.2.2.2.2.2.2.2.2.1,x.2.2.2.2.2.2.2.2.2.2.2.1,x.2.2.2.2.2.2.2.2.2.2.2.2.1,x.2.2.2.2.2.2.2.2.2.2.2.2.2.1,x.2.2.2.2.2.2.2.2.2.2.2.2.2.2.1,x.2.2.2.2.2.2.2.2.2.2.2.2.2.2.2.1,(List.cons (α:=List ByteArray×List ByteArray) v x.rm),x.2.2.2.2.2.2.2.2.2.2.2.2.2.2.2.2.2.1,x.2.2.2.2.2.2.2.2.2.2.2.2.2.2.2.2.2.2.1,())
def bh.ofN (t:fc) (z:List ByteArray):bh:=(t.e.title,t.e.dots,t.e.blank,t.e.marked,t.e.prec,t.e.cont.reverse,z,t.e.scan,t.e.batch,t.e.risk.neg,t.e.risk.num,t.e.risk.den,t.e.cell,t.e.seed,t.seen.reverse,t.lines.reverse,t.names.reverse,t.f.no,t.f.line,())
def ic (l:List ax):List ByteArray:=l.map (·.name)
def bh.ofR (t:fc):bh:=.ofN t (ic t.e.styl).reverse
theorem Bj (l:List ByteArray):ic (l.map fun n=>⟨n,[],[]⟩)=l:=by
 unfold ic;rw[List.map_map];exact List.map_id l
theorem oc (x:bh) (e:aa) (f:eM) (h1:e.cont=x.cont) (h2:e.styl=x.styl):x.setE e f=.ofR ⟨e,x.seen,x.lines,x.names,f⟩:=by
 have r1:x.rc=e.cont.reverse:=by rw[h1];exact(aa7 _).symm
 have r2:x.rs=(ic e.styl).reverse:=by
  rw[h2];show x.rs=(ic (x.snm.map fun n=>⟨n,[],[]⟩)).reverse;rw[Bj];exact(aa7 _).symm
 have r3:x.rn=x.seen.reverse:=(aa7 _).symm;have r4:x.rl=x.lines.reverse:=(aa7 _).symm;have r5:x.rm=x.names.reverse:=(aa7 _).symm;show(e.title,e.dots,e.blank,e.marked,e.prec,x.rc,x.rs,e.scan,e.batch,e.risk.neg,e.risk.num,e.risk.den,e.cell,e.seed,x.rn,x.rl,x.rm,f.no,f.line,())=_;rw[r1,r2,r3,r4,r5];rfl
theorem wD (t:fc) (no line:Int):(bh.ofR t).note no line=.ofR (t.note no line):=by
 show(bh.ofR t).setF (nt (bh.ofR t).f no line)=.ofN { t with f:=t.f.note no line } (ic t.e.styl).reverse;have:=GD (t.f.no,t.f.line) no line;have h2:t.f.note no line=⟨(nt (t.f.no,t.f.line) no line).1,(nt (t.f.no,t.f.line) no line).2⟩:=this;rw[h2];rfl
theorem qW {α:Type} (l:List α) (v:α):(l++[v]).reverse=v::l.reverse:=by simp
theorem adt (t:fc) (v:ai):(bh.ofR t).ac v=.ofR { t with e:={ t.e with cont:=t.e.cont++[v] } }:=by
 have:=qW t.e.cont v;unfold bh.ofR bh.ofN;rw[this];rfl
theorem adr (t:fc) (v:ax):(bh.ofR t).as v.name=.ofR { t with e:={ t.e with styl:=t.e.styl++[v] } }:=by
 have:(ic (t.e.styl++[v])).reverse=v.name::(ic t.e.styl).reverse:=by unfold ic;simp
 show _=bh.ofN t (ic (t.e.styl++[v])).reverse;rw[this];rfl
theorem ads (t:fc) (v:ByteArray):(bh.ofR t).an v=.ofR { t with seen:=t.seen++[v] }:=by
 have:=qW t.seen v;unfold bh.ofR bh.ofN;rw[this];rfl
theorem YD (t:fc) (v:Int×Int) (u:List ByteArray×List ByteArray):((bh.ofR t).am u).al v=.ofR { t with lines:=t.lines++[v],names:=t.names++[u] }:=by
 have h1:=qW t.lines v;have h2:=qW t.names u;unfold bh.ofR bh.ofN;rw[h1,h2];rfl
def beS (b:ka) (x:bh):T SR:=.nd ((x.rn.length+1)*17≤140737488355328) (.lf (JM (.tup []) (x.an b.kind)))
def be3 (b:ka) (c:oT) (x:bh):T SR:=.nd ((x.rc.length+1)*97≤140737488355328) (beS b (x.ac { Mr c with name:=b.nm }))
def oT.se (c:oT):Int:=c.2.2.2.1
def be2 (b:ka) (c:oT) (s:Int) (x:bh):T SR:=.br (c.me==1) (.br (decide (c.se>1)) (.nd ((0:Int)≠4) (be3 b c (x.note 4 s))) (be3 b c x)) (be3 b c x)
def beC (b:ka) (kn:List ByteArray) (c:oT) (d s:Int) (x:bh):T SR:=.br (decide (Lib.idxOfS kn.reverse az≥0)) (.br (!(c.me==2)) (.nd ((0:Int)≠5) (be2 b c s (x.note 5 d))) (be2 b c s x)) (be2 b c s x)
def beY (b:ka) (nm:ye) (ln:yg) (x:bh):T SR:=.nd ((x.rs.length+1)*65≤140737488355328) (.nd ((x.rm.length+1)*49≤140737488355328) (.nd ((x.rl.length+1)*17≤140737488355328) (beS b (((x.as b.nm).am (nm.1,nm.2.1)).al (ln.1,ln.2.1)))))
def bh.bl (x:bh):Int:=x.2.2.1
def bh.mk' (x:bh):Int:=x.2.2.2.1
def beN (b:ka) (x:bh):T SR:=.br (is aP b) (.br (decide (x.bl>x.mk')) (.nd ((0:Int)≠4) (beS b (x.note 4 b.ln))) (beS b x)) (beS b x)
def beT (b:ka) (kn:List ByteArray) (c:oT) (nm:ye) (ln:yg) (d s:Int) (x:bh):T SR:=
 .br (!(x.err==0)) (beS b x) (.br (is ah b) (beC b kn c d s x) (.br (is aD b) (beY b nm ln x) (beN b x)))
def Xr (b:aw):ka:=(b.kind,b.name,b.fields,b.line,())
def mE (x:bh) (b:aw):dd:=dQ b.kind b.fields (loc (x.note (j5 x.r b.kind b.name) b.line) [] (Mq ai.zero) ([],[],()) ((0:Int),(0:Int),()) 0 0)
def Xq (x:bh) (b:aw):bh:=(x.note (j5 x.r b.kind b.name) b.line).setE (mE x b).e (mE x b).f
def beB (x:bh) (b:aw):T SR:=.nd (b.name.size≤9223372036854775807) (.nd (Xo (Xr b) [] 0) (.nd ((0:Int)≤0∧(0:Int)≤(aM b.kind).length)
 (beT (Xr b) (mE x b).known.reverse (Mq (mE x b).c) ((mE x b).n0,(mE x b).n1,()) ((mE x b).l0,(mE x b).l1,()) (mE x b).digits (mE x b).seats ((Xq x b).setE (Xq x b).e (gd (mE x b).known.reverse.reverse (Mq (mE x b).c).me b.line (aM b.kind) (Xq x b).er)))))
def G9 (x:bh) (b:aw):Prop:=b.name.size≤9223372036854775807∧b.fields.length≤1099511627776∧(∀f∈b.fields,Lu b.kind f)∧x.rn.length≤1099511627776∧x.rc.length≤1099511627776∧x.rs.length≤1099511627776∧x.rm.length≤1099511627776∧x.rl.length≤1099511627776
theorem nX (k:ByteArray):∀(l:List ao) (y:dd),(dQ k l y).e.cont=y.e.cont∧(dQ k l y).e.styl=y.e.styl
 | [],_=>⟨rfl,rfl⟩
 | f::l,y=>by
  unfold dQ;split
  ·exact⟨rfl,rfl⟩
  ·obtain⟨h1,h2⟩:=nX k l (aW k y f);obtain⟨h3,h4⟩:=vX k y f;exact⟨h1.trans h3,h2.trans h4⟩
theorem aa0 (x:bh) (b:aw):mE x b=dQ b.kind b.fields (dd.start x.r b):=by
 unfold mE dd.start loc;have:=o7 x (j5 x.r b.kind b.name) b.line;show dQ b.kind b.fields ⟨x.e,(x.note (j5 x.r b.kind b.name) b.line).er,[],ai.zero,[],[],0,0,0,0⟩=_;rw[this];rfl
section
variable {b:aw} {t:fc} (hn:t.seen.length≤1099511627776) (hc:t.e.cont.length≤1099511627776) (hs:t.e.styl.length≤1099511627776) (hm:t.names.length≤1099511627776) (hl:t.lines.length≤1099511627776)
include hn in
theorem sr:(beS (Xr b) (.ofR t)).hit (JM (.tup []) (.ofR { t with seen:=t.seen++[b.kind] })):=by
 refine⟨?_,?_⟩
 ·show(t.seen.reverse.length+1)*17≤_;rw[aa9];omega
 ·rw[show(Xr b).kind=b.kind from rfl,ads];rfl
include hn hc in
theorem JF (c:ai):(be3 (Xr b) (Mq c) (.ofR t)).hit (JM (.tup []) (.ofR { t with e:={ t.e with cont:=t.e.cont++[{ c with name:=b.name }] },seen:=t.seen++[b.kind] })):=by
 refine⟨?_,?_⟩
 ·show(t.e.cont.reverse.length+1)*97≤_;rw[aa9];omega
 ·rw[adt];exact sr (t:={ t with e:={ t.e with cont:=t.e.cont++[{ c with name:=b.name }] } }) hn
include hn hc in
theorem JG (c:ai) (s:Int):(be2 (Xr b) (Mq c) s (.ofR t)).hit (JM (.tup []) (.ofR { t with e:={ t.e with cont:=t.e.cont++[{ c with name:=b.name }] },seen:=t.seen++[b.kind],f:=t.f.note (if c.method=1∧1<c.seats then 4 else 0) s })):=by
 unfold be2;refine qg (F:=fun no=>JM (.tup []) (.ofR { t with e:={ t.e with cont:=t.e.cont++[{ c with name:=b.name }] },seen:=t.seen++[b.kind],f:=t.f.note no s })) (by show c.method=1∧1<c.seats↔(c.method==1)=true∧decide (c.seats>1)=true;simp) ⟨by decide,?_⟩ ?_
 ·rw[wD];exact JF (t:=t.note 4 s) hn hc c
 ·have:t.f.note 0 s=t.f:=if_neg fun q=>q.2 rfl;simp only[this];exact JF (t:=t) hn hc c
end
theorem L0:gh Tryz.prog 47 [0] [(0,sT),(1,sBk)] [(0,sT)] fun((x:bh),(b:aw),_)=>.nd (G9 x b) (.lf (JM (.tup []) (.ofR (gm x.r b)))):=by
 refine kJ (C:=C7) (pb:=[0]) (((nL _ _).add 0 _ LX).add 1 _ LW) 99 [(0,sT),(1,sBk)] [(0,sT)] (fun((x:bh),(b:aw),_)=>beB x b) ?_ Tryz.func47;rintro⟨(x:bh),(b:aw),_⟩ r sJ ⟨⟨h1,h2,h3,h4,h5,h6,h7,h8⟩,hr⟩;obtain rfl:JM (.tup []) (.ofR (gm x.r b))=r:=hr;refine⟨h1,⟨by omega,by omega,rfl,h2,h3⟩,⟨by omega,by omega⟩,?_⟩;obtain⟨r1,r2⟩:=nX b.kind b.fields (dd.start x.r b);unfold gm;rw[←aa0] at r1 r2 ⊢;have hX:(Xq x b).setE (Xq x b).e (gd (mE x b).known.reverse.reverse (Mq (mE x b).c).me b.line (aM b.kind) (Xq x b).er)=.ofR ⟨(mE x b).e,x.seen,x.lines,x.names,gd (mE x b).known (mE x b).c.method b.line (aM b.kind) (mE x b).f⟩:=by
  rw[aa7];have e1:Xq x b=.ofR ⟨(mE x b).e,x.seen,x.lines,x.names,(mE x b).f⟩:=oc (x.note (j5 x.r b.kind b.name) b.line) _ _ r1 r2;have e2:(Xq x b).e=(mE x b).e:=by
   rw[e1];have r2':(mE x b).e.styl=x.snm.map fun n=>⟨n,[],[]⟩:=r2;have Ff:(((ic (mE x b).e.styl).reverse.reverse).map fun n=>(⟨n,[],[]⟩:ax))=(mE x b).e.styl:=by
    rw[r2',aa7,Bj]
   show(⟨(mE x b).e.title,(mE x b).e.dots,(mE x b).e.blank,(mE x b).e.marked,(mE x b).e.prec,(mE x b).e.cont.reverse.reverse,((ic (mE x b).e.styl).reverse.reverse).map fun n=>⟨n,[],[]⟩,(mE x b).e.scan,(mE x b).e.batch,(mE x b).e.risk,(mE x b).e.cell,(mE x b).e.seed⟩:aa)=_;rw[Ff,aa7]
  rw[e2];exact oc (x.note (j5 x.r b.kind b.name) b.line) _ _ r1 r2
 rw[hX];have hn:x.seen.length≤1099511627776:=by show x.rn.reverse.length≤_;rw[aa9];exact h4
 have hc:(mE x b).e.cont.length≤1099511627776:=by rw[r1];show x.rc.reverse.length≤_;rw[aa9];exact h5
 have hs:(mE x b).e.styl.length≤1099511627776:=by rw[r2];show(x.rs.reverse.map _).length≤_;rw[abU,aa9];exact h6
 have hm:x.names.length≤1099511627776:=by show x.rm.reverse.length≤_;rw[aa9];exact h7
 have hl:x.lines.length≤1099511627776:=by show x.rl.reverse.length≤_;rw[aa9];exact h8
 clear hX r1 r2 h3 sJ;have aeb:x.r.seen=x.seen:=rfl;have Mn:x.r.names=x.names:=rfl;have Fi:x.r.lines=x.lines:=rfl;generalize mE x b=y at*;unfold tQ;simp only;rw[aeb,Mn,Fi];generalize gd y.known y.c.method b.line (aM b.kind) y.f=f;generalize x.seen=se at*;generalize x.names=na at*;generalize x.lines=li at*;unfold beT;by_cases h0:f.no≠0
 ·rw[if_pos h0];exact aX (by rw[ab8];exact beq_eq_false_iff_ne.2 h0) (sr (t:=⟨y.e,se,li,na,f⟩) hn)
 rw[if_neg h0];refine bg (by rw[Bool.not_eq_false'];exact beq_iff_eq.2 (Decidable.not_not.1 h0)) ?_;have Zc:∀k,is k (Xr b)=true↔b.kind=k:=fun k=>AK;by_cases h1:b.kind=ah
 ·rw[if_pos h1];refine aX ((Zc _).2 h1) ?_;unfold beC;rw[aa7];refine qg (F:=fun no=>JM (.tup []) (.ofR { e:={ y.e with cont:=y.e.cont++[{ y.c with name:=b.name }] },seen:=se++[b.kind],lines:=li,names:=na,f:=(f.note no y.digits).note (if y.c.method=1∧1<y.c.seats then 4 else 0) y.seats })) (by show bH y.known az=true∧y.c.method≠2↔bH y.known az=true∧(!(y.c.method==2))=true;simp) ⟨by decide,?_⟩ ?_
  ·rw[wD];exact JG (t:=(⟨y.e,se,li,na,f⟩:fc).note 5 y.digits) hn hc y.c y.seats
  ·have:f.note 0 y.digits=f:=if_neg fun q=>q.2 rfl;rw[this];exact JG (t:=⟨y.e,se,li,na,f⟩) hn hc y.c y.seats
 rw[if_neg h1];refine bg (by rw[acA];exact fun e=>h1 ((Zc _).1 e)) ?_;by_cases h2:b.kind=aD
 ·rw[if_pos h2];refine aX ((Zc _).2 h2) ⟨?_,?_,?_,?_⟩
  ·show((ic y.e.styl).reverse.length+1)*65≤_;unfold ic;rw[aa9,abU];omega
  ·show(na.reverse.length+1)*49≤_;rw[aa9];omega
  ·show(li.reverse.length+1)*17≤_;rw[aa9];omega
  ·rw[show(Xr b).nm=(⟨b.name,[],[]⟩:ax).name from rfl,adr,YD];exact sr (t:={ e:={ y.e with styl:=y.e.styl++[⟨b.name,[],[]⟩] },seen:=se,lines:=li++[(y.l0,y.l1)],names:=na++[(y.n0,y.n1)],f:=f }) hn
 rw[if_neg h2];refine bg (by rw[acA];exact fun e=>h2 ((Zc _).1 e)) ?_;unfold beN;by_cases h3:b.kind=aP∧y.e.marked<y.e.blank
 ·rw[if_pos h3];refine aX ((Zc _).2 h3.1) (aX (decide_eq_true h3.2) ⟨by decide,?_⟩);rw[wD];exact sr (t:=(⟨y.e,se,li,na,f⟩:fc).note 4 b.line) hn
 ·rw[if_neg h3];have eB:=sr (b:=b) (t:=⟨y.e,se,li,na,f⟩) hn;by_cases h4:b.kind=aP
  ·exact aX ((Zc _).2 h4) (bg (decide_eq_false fun q=>h3 ⟨h4,q⟩) eB)
  ·exact bg (by rw[acA];exact fun e=>h4 ((Zc _).1 e)) eB
end Go.Proofs.YtjlhbfbdcfajfaaGreatDoor
