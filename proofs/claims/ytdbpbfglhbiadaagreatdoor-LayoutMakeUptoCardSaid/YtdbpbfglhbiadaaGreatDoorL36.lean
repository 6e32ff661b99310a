/- Tm6 Tm7 Tm8 Tm12 -/
import Derived.Test.YtdbpbfglhbiadaaGreatDoorL00
import Derived.Test.YtdbpbfglhbiadaaGreatDoorL35
set_option maxHeartbeats 8000000
set_option maxRecDepth 100000
namespace Go.Proofs.YtdbpbfglhbiadaaGreatDoor
open Go Go.RowKit
theorem G1 (c:UInt8):digitB c=true↔48≤c.toNat∧c.toNat≤57:=by unfold digitB;simp
theorem wW:∀(l:List UInt8) (n:Int),(∀x∈l,digitB x=true)→0≤n→0≤l.foldl dD n∧l.foldl dD n≤(n+1)*10^l.length-1
 | [],n,_,hn=>⟨hn,by simp⟩
 | x::l,n,h,hn=>by
  have hx:=(G1 x).1 (h x (by simp));have h1:0≤dD n x∧dD n x≤10*n+9:=by unfold dD;omega
  have ih:=wW l (dD n x) (fun y hy=>h y (by simp[hy])) h1.1;rw[ac4,aaO];refine⟨ih.1,Int.le_trans ih.2 ?_⟩;obtain⟨P,hP⟩:∃P:Int,(10:Int)^l.length=P:=⟨_,rfl⟩;have hP0:0≤P:=by rw[←hP];exact Int.pow_nonneg (by omega)
  rw[Int.pow_succ,hP];have h2:(dD n x+1)*P≤(10*n+10)*P:=Int.mul_le_mul_of_nonneg_right (by omega) hP0;have h3:(n+1)*(P*10)=(10*n+10)*P:=by rw[Int.mul_comm P 10,←Int.mul_assoc];congr 1;omega
  omega
theorem wY {l:List UInt8} (h:(dJ l).2=true):0≤(dJ l).1∧(dJ l).1≤999999:=by
 have h':kH l=true:=h;unfold kH at h';simp only[aaI,decide_eq_true_eq] at h';obtain⟨h1,h2,h3,_⟩:=h';have h4:=wW (l.take 6) 0 (fun x hx=>aaR.1 h1 x (List.mem_of_mem_take hx)) (by omega);have h5:(10:Int)^(l.take 6).length≤1000000:=by
  have e:(10:Int)^(l.take 6).length=((10^(l.take 6).length:Nat):Int):=by simp
  rw[e];have:10^(l.take 6).length≤10^6:=acE (by omega) (by rw[acb];omega);omega
 show 0≤(l.take 6).foldl dD 0∧(l.take 6).foldl dD 0≤999999;omega
theorem IU (a:Nat):eB false a 1=⟨false,a,1⟩:=by
 unfold eB;split
 ·rename_i h;rcases h with h|h
  ·rw[h]
  ·omega
 ·rw[Nat.gcd_one_right,Nat.div_one]
theorem OQ (neg:Bool) (a b:Nat):(eB neg a b).n≤a∧(eB neg a b).d≤max b 1:=by
 unfold eB;split
 ·exact⟨ab0 _,by show 1≤_;omega⟩
 ·exact⟨Nat.div_le_self _ _,aaM (Nat.div_le_self _ _) (by omega)⟩
theorem abj {l:List UInt8} {i:Nat} (hx:l[i]?=some 47) (h:∀j x,j<i→l[j]?=some x→x≠47):jo l=true∧ek l=l.take i∧dQ l=l.drop (i+1):=by
 refine⟨?_,?_,?_⟩
 ·unfold jo;rw[List.contains_eq_mem];simpa using ack hx
 ·unfold ek;induction l generalizing i with
  | nil=>cases hx
  | cons y l ih=>
   cases i with
   | zero=>simp at hx;subst hx;simp
   | succ i=>
    have hy:=h 0 y (by omega) rfl;rw[List.takeWhile_cons,if_pos (by simpa using hy),List.take_succ_cons];congr 1
    exact ih (i:=i) (by simpa using hx) (fun j x hj hx=>h (j+1) x (by omega) (by simpa using hx))
 ·unfold dQ;induction l generalizing i with
  | nil=>cases hx
  | cons y l ih=>
   cases i with
   | zero=>simp at hx;subst hx;simp
   | succ i=>
    have hy:=h 0 y (by omega) rfl;rw[List.dropWhile_cons,if_pos (by simpa using hy),List.drop_succ_cons];exact ih (i:=i) (by simpa using hx) (fun j x hj hx=>h (j+1) x (by omega) (by simpa using hx))
theorem abi {l:List UInt8} (h:∀(j:Nat) (x:UInt8),l[j]?=some x→x≠47):jo l=false:=by
 unfold jo;rw[List.contains_eq_mem,decide_eq_false_iff_not];intro hm;obtain⟨j,hj,e⟩:=List.getElem_of_mem hm;exact h j _ (aae hj) e
noncomputable def C5:ik Tryz.prog:=dE uT [⟨_,_,_,oZ⟩,⟨_,_,_,YW⟩,⟨_,_,_,Vp⟩,⟨_,_,_,XM⟩] [⟨_,_,_,_,_,kK⟩,⟨_,_,_,_,_,tq⟩]
abbrev sRb:SS:=.box 28 [.d .bool,.d (.list .limb),.d (.list .limb)]
abbrev V7:=eT [.d .bool,.d (.list .limb),.d (.list .limb)]
abbrev rkL:List (Nat×SS):=[(0,sN),(3,My),(4,sRb),(5,sS),(6,sI)]
abbrev rkO:List (Nat×SS):=[(0,sN),(3,My),(4,sRb)]
abbrev V4:=LE rkL rkO [(0,sN)]
def YB (x:gV) (f:AO) (r:V7) (s:ByteArray) (i:Int):V4:=.back (x,f,r,s,i,())
def wL (x:gV) (f:AO) (r:V7):V4:=.out (x,f,r,())
def wK (a:XV) (x:gV):V4:=.ret a (x,())
def rZ:XV:=.agg [.val (.bool false),.val (.slice none 0 0),.val (.slice none 0 0)]
def rk4 (x:gV) (f:AO):T V4:=.nd ((0:Int)≠4) (.lf (wK rZ (x.note 4 f.ln)))
def Mz (n:Int):mO:=QT (eB false n.toNat 1)
def rkD (x:gV) (a b:Int):T V4:=.nd (0≤a∧a<9223372036854775808) (.nd (0≤b∧b<9223372036854775808) (.nd (Gi (2^100) (Mz a)∧Gi (2^100) (Mz b)) (.nd (Gi 4294967296 (QT (LY (wt (Mz a)) (wt (Mz b))))) (.lf (wK (aR (wt (QT (LY (wt (Mz a)) (wt (Mz b))))).raw) x)))))
def rkC (x:gV) (f:AO) (r:V7) (p q:Int×Bool):T V4:=.br (!p.2) (.lf (wL x f r)) (.br (!q.2) (.lf (wL x f r)) (.br (q.1==0) (rk4 x f) (.nd (cf (1000*p.1)) (.br (decide (1000*p.1<q.1)) (rk4 x f) (.nd (cf (2*p.1)) (.br (decide (2*p.1>q.1)) (rk4 x f) (rkD x p.1 q.1)))))))
def rkB (x:gV) (f:AO) (r:V7) (s:ByteArray) (i:Int):T V4:=.br (decide (i<s.size)) (.nd (0≤i∧i<s.size) (.br (!(((s.data.toList.getD i.toNat 0).toNat:Int)==47)) (.nd (cf (i+1)) (.lf (YB x f r s (i+1))))
 (.nd ((0:Int)≤0∧0≤i∧i≤s.size) (.nd ((s.extract (Int.toNat 0) i.toNat).size≤9223372036854775807) (.nd (cf (i+1)) (.nd (0≤i+1∧i+1≤s.size∧(s.size:Int)≤s.size) (.nd ((s.extract (i+1).toNat (s.size:Int).toNat).size≤9223372036854775807) (rkC x f r (dJ (s.extract (Int.toNat 0) i.toNat).data.toList) (dJ (s.extract (i+1).toNat (s.size:Int).toNat).data.toList)))))))))
 (.lf (wL x f r))
def YA (x:gV) (f:AO) (r:V7) (l:List UInt8):T V4:=.br (decide ((d9 l).1=5)) (.lf (wL x f r)) (.br (decide ((d9 l).1=4)) (.lf (wK rZ (x.note 4 f.ln))) (.lf (wK (aR (d9 l).2) x)))
def rkN (l:List UInt8) (i:Int):Prop:=0≤i∧i≤l.length∧l.length≤9223372036854775807∧∀(j:Nat) (x:UInt8),j<i.toNat→l[j]?=some x→x≠47
theorem Tm {x:gV} {f:AO} {r:V7} {l p q:List UInt8} (hF:jo l=true) (hA:ek l=p) (hB:dQ l=q) {z:V4} (h:(YA x f r l).hit z):(rkC x f r (dJ p) (dJ q)).hit z:=by
 have hr:d9 l=if((dJ p).2&&(dJ q).2)=false then(5,⟨false,[],[]⟩) else if(dJ q).1=0∨1000*(dJ p).1<(dJ q).1∨(dJ q).1<2*(dJ p).1 then(4,⟨false,[],[]⟩) else(0,(eB false (dJ p).1.toNat (dJ q).1.toNat).raw):=by
  unfold d9;rw[hF,hA,hB];simp
 unfold YA at h;rw[hr] at h;have out:((dJ p).2&&(dJ q).2)=false→wL x f r=z:=fun e=>by rw[if_pos e] at h;exact h.1 rfl
 have four:((dJ p).2&&(dJ q).2)=true→((dJ q).1=0∨1000*(dJ p).1<(dJ q).1∨(dJ q).1<2*(dJ p).1)→(rk4 x f).hit z:=fun e e2=>by
  rw[if_neg (by rw[e];simp),if_pos e2] at h;exact⟨by decide,(h.2 rfl).1 rfl⟩
 unfold rkC;cases hp:(dJ p).2 with
 | false=>exact aZ rfl (out (by rw[hp];rfl))
 | true=>
  refine bh rfl ?_;cases hq:(dJ q).2 with
  | false=>exact aZ rfl (out (by rw[hp,hq];rfl))
  | true=>
   have e:((dJ p).2&&(dJ q).2)=true:=by rw[hp,hq];rfl
   obtain⟨p0,p1⟩:=wY hp;obtain⟨q0,q1⟩:=wY hq;refine bh rfl ⟨fun e0=>four e (.inl (beq_iff_eq.1 e0)),fun e0=>⟨⟨by omega,by omega⟩,⟨fun e1=>four e (.inr (.inl (of_decide_eq_true e1))),fun e1=>⟨⟨by omega,by omega⟩,⟨fun e2=>four e (.inr (.inr (of_decide_eq_true e2))),fun e2=>?_⟩⟩⟩⟩⟩;have e0:=beq_eq_false_iff_ne.1 e0;have e1:=of_decide_eq_false e1;have e2:=of_decide_eq_false e2;rw[if_neg (by rw[e];simp),if_neg (by omega)] at h;have h:=(h.2 rfl).2 rfl;have h:wK (aR (eB false (dJ p).1.toNat (dJ q).1.toNat).raw) x=z:=h;subst h;have u:∀n:Int,wt (Mz n)=⟨false,n.toNat,1⟩:=fun n=>by unfold Mz;rw[tr,IU]
   have ok:∀(n:Int) (m:Nat),n.toNat<m→1<m→Gi m (Mz n):=fun n m h h1=>by
    unfold Gi;rw[u];exact⟨by unfold Mz;rw[IU],h,h1⟩
   have hd:LY (wt (Mz (dJ p).1)) (wt (Mz (dJ q).1))=eB false (dJ p).1.toNat (dJ q).1.toNat:=by
    rw[u,u];unfold LY;simp
   have yV:=OQ false (dJ p).1.toNat (dJ q).1.toNat;refine⟨⟨p0,by omega⟩,⟨q0,by omega⟩,⟨ok _ _ (by omega) (by omega),ok _ _ (by omega) (by omega)⟩,?_,?_⟩
   ·rw[hd];unfold Gi;rw[tr];exact⟨rfl,by omega,by omega⟩
   ·rw[hd,tr];rfl
theorem Tn:eS (LU C5 Tryz.f154 pN) 0 0 rkL rkO [(0,sN)] fun((x:gV),(f:AO),(r:V7),(s:ByteArray),(i:Int),_)=>.nd (rkN s.data.toList i) (YA x f r s.data.toList):=by
 refine eY _ (nL _ _) 99 0 0 rkL rkO [(0,sN)] (fun((x:gV),(f:AO),(r:V7),(s:ByteArray),(i:Int),_)=>rkB x f r s i) (fun(_,_,_,(s:ByteArray),(i:Int),_)=>s.size-i.toNat) ?_;rintro⟨(x:gV),(f:AO),(r:V7),(s:ByteArray),(i:Int),_⟩ z _ ⟨⟨h0,h1,h2,h3⟩,h⟩;have bG:s.data.toList.length=s.size:=abM;obtain⟨k,rfl⟩:∃k:Nat,i=k:=⟨i.toNat,by omega⟩;show∃q,(rkB x f r s k).hit q∧_;unfold rkB;by_cases hk:k<s.size
 ·have hx:s.data.toList[k]?=some (s.data.toList.getD k 0):=by rw[aai,aae (by omega)];rfl
  by_cases hc:s.data.toList.getD k 0=47
  ·obtain⟨c1,c2,c3⟩:=abj (l:=s.data.toList) (i:=k) (by rw[hx,hc]) h3;have e1:(s.extract (Int.toNat 0) (k:Int).toNat)=⟨(s.data.toList.take k).toArray⟩:=sp s k;have e2:(s.extract ((k:Int)+1).toNat (s.size:Int).toNat)=⟨(s.data.toList.drop (k+1)).toArray⟩:=extract_drop s (k+1);refine⟨z,aZ (decide_eq_true (by omega)) ⟨⟨by omega,by omega⟩,bh (by rw[aak,hc];rfl) ⟨⟨by omega,by omega,by omega⟩,?_,⟨by omega,by omega⟩,⟨by omega,by omega,by omega⟩,?_,Tm c1 ?_ ?_ h⟩⟩,?_⟩
   ·rw[e1];show(List.take k s.data.toList).toArray.size≤_;rw[ab6,acb];omega
   ·rw[e2];show(List.drop (k+1) s.data.toList).toArray.size≤_;rw[ab6,acv];omega
   ·rw[c2,e1]
   ·rw[c3,e2]
   ·have h:(YA x f r s.data.toList).hit z:=h;unfold YA at h;rcases hB h with⟨_,h⟩|⟨_,h⟩
    ·obtain rfl:wL x f r=z:=h;rfl
    ·rcases hB h with⟨_,h⟩|⟨_,h⟩
     ·obtain rfl:wK rZ (x.note 4 f.ln)=z:=h;rfl
     ·obtain rfl:wK (aR (d9 s.data.toList).2) x=z:=h;rfl
  ·refine⟨_,aZ (decide_eq_true (by omega)) ⟨⟨by omega,by omega⟩,aZ ?_ ⟨⟨by omega,by omega⟩,rfl⟩⟩,?_,⟨by omega,by omega,h2,fun j y hj hy=>?_⟩,h⟩
   ·rw[aak,aco,beq_eq_false_iff_ne];intro e;exact hc (UInt8.toNat_inj.1 (by have:(47:UInt8).toNat=47:=rfl;omega))
   ·show s.size-(k+1)<s.size-k;omega
   ·by_cases xG:j=k
    ·subst xG;rw[hx] at hy;exact aal hy▸hc
    ·exact h3 j y (by omega) hy
 ·refine⟨z,bh (decide_eq_false (by omega)) ?_,?_⟩
  all_goals
   have Lw:jo s.data.toList=false:=abi fun j y hy=>h3 j y (by have:=(aag.1 hy).1;omega) hy;have h:(YA x f r s.data.toList).hit z:=h;have h5:(d9 s.data.toList).1=5:=by unfold d9;rw[if_pos (.inl Lw)]
   unfold YA at h;have h:=h.1 (decide_eq_true h5);obtain rfl:wL x f r=z:=h;rfl
theorem NZ (l:List UInt8):(d9 l).1=5∨(d9 l).1=4∨(d9 l).1=0:=by
 unfold d9;split
 ·exact .inl rfl
 ·split
  ·exact .inr (.inl rfl)
  ·exact .inr (.inr rfl)
def rZs:XV:=.agg [.sym (.bool false),.val (.slice none 0 0),.val (.slice none 0 0)]
def Fu (f:ar):List UInt8:=(bj f.vals).data.toList
theorem NY:gi Tryz.prog 154 pN [(0,sN),(1,sF)] [(0,sN)] fun((x:gV),(f:ar),_)=>.nd ((bj f.vals).size≤9223372036854775807) (.br (decide ((d9 (Fu f)).1=0)) (.lf (an (aR (d9 (Fu f)).2) (x.note (jI f.vals) f.line))) (.lf (an rZs (x.note (jI f.vals) f.line)))):=by
 refine kM (C:=C5) (pb:=pN) ((nL _ _).add 0 _ Tn) 99 [(0,sN),(1,sF)] [(0,sN)] (fun((x:gV),(f:ar),_)=>.nd (rkN (Fu f) 0) (.br (decide ((d9 (Fu f)).1=5)) (.nd ((0:Int)≠5) (.lf (an rZs ((x.note (dM f.vals) f.line).note 5 f.line)))) (.br (decide ((d9 (Fu f)).1=4)) (.lf (an rZs ((x.note (dM f.vals) f.line).note 4 f.line))) (.lf (an (aR (d9 (Fu f)).2) (x.note (dM f.vals) f.line)))))) ?_ Tryz.func154;rintro⟨(x:gV),(f:ar),_⟩ r _ ⟨hs,h⟩;refine⟨⟨by omega,by omega,by have:(Fu f).length=(bj f.vals).size:=abM;omega,fun j y hj=>absurd hj (Nat.not_lt_zero _)⟩,?_⟩;have h0:f.vals.length≠1→(d9 (Fu f)).1=5:=fun e=>by unfold Fu bj;rw[if_pos e];rfl
 have hc:∀c,(d9 (Fu f)).1=c→(if dM f.vals=0 then c else dM f.vals)=jI f.vals:=fun c e=>by
  unfold jI dM;by_cases hv:f.vals.length≠1
  ·rw[if_pos hv,if_pos hv];rfl
  ·rw[if_neg hv,if_neg hv,if_pos rfl];exact e.symm
 rcases NZ (Fu f) with e|e|e
 ·have h:=h.2 (by rw[e];rfl);obtain rfl:an rZs (x.note (jI f.vals) f.line)=r:=h;exact aZ (by rw[e];rfl) ⟨by decide,Fb (hc 5 e)⟩
 ·have h:=h.2 (by rw[e];rfl);obtain rfl:an rZs (x.note (jI f.vals) f.line)=r:=h;exact bh (by rw[e];rfl) (aZ (by rw[e];rfl) (Fb (hc 4 e)))
 ·have h:=h.1 (by rw[e];rfl);obtain rfl:an (aR (d9 (Fu f)).2) (x.note (jI f.vals) f.line)=r:=h;refine bh (by rw[e];rfl) (bh (by rw[e];rfl) (Mq ?_));have:=hc 0 e;by_cases hv:f.vals.length=1
  ·rw[←this];split
   ·assumption
   ·rfl
  ·have:=h0 hv;omega
noncomputable def C6:ik Tryz.prog:=dE uT [] [⟨_,_,_,_,_,Pu⟩,⟨_,_,_,_,_,xn⟩,⟨_,_,_,_,_,NY⟩,⟨_,_,_,_,_,Dd⟩]
abbrev stM:List CS:=[.d .str,.d tI,.d tI,.d tI,.d (.list .str),.any,.any,.d tI,.d tI,.d .bool,.d (.list .limb),.d (.list .limb),.d tI,.d .str,.any,.any,.any,.d tI,.d tI]
abbrev sM:SS:=.box 118 stM
abbrev pM:List Nat:=[0,1,2,3,4,5]
abbrev StM:=eT stM
def StM.f (x:StM):Int×Int:=(x.2.2.2.2.2.2.2.2.2.2.2.2.2.2.2.2.2.1,x.2.2.2.2.2.2.2.2.2.2.2.2.2.2.2.2.2.2.1)
def StM.setF (x:StM) (p:Int×Int):StM:=(x.1,x.2.1,x.2.2.1,x.2.2.2.1,x.2.2.2.2.1,x.2.2.2.2.2.1,x.2.2.2.2.2.2.1,x.2.2.2.2.2.2.2.1,x.2.2.2.2.2.2.2.2.1,x.2.2.2.2.2.2.2.2.2.1,x.2.2.2.2.2.2.2.2.2.2.1,x.2.2.2.2.2.2.2.2.2.2.2.1,x.2.2.2.2.2.2.2.2.2.2.2.2.1,x.2.2.2.2.2.2.2.2.2.2.2.2.2.1,x.2.2.2.2.2.2.2.2.2.2.2.2.2.2.1,x.2.2.2.2.2.2.2.2.2.2.2.2.2.2.2.1,x.2.2.2.2.2.2.2.2.2.2.2.2.2.2.2.2.1,p.1,p.2,())
def StM.note (x:StM) (no line:Int):StM:=x.setF (nt x.f no line)
abbrev Fc (r:XV) (x:StM):XV×StM×Unit:=(r,x,())
abbrev SRM:=XV×StM×Unit
namespace StM
def dots (x:StM) (v:Int):StM:=(x.1,v,x.2.2)
def blank (x:StM) (v:Int):StM:=(x.1,x.2.1,v,x.2.2.2)
def marked (x:StM) (v:Int):StM:=(x.1,x.2.1,x.2.2.1,v,x.2.2.2.2)
def prec (x:StM) (v:List ByteArray):StM:=(x.1,x.2.1,x.2.2.1,x.2.2.2.1,v,x.2.2.2.2.2)
def scan (x:StM) (v:Int):StM:=(x.1,x.2.1,x.2.2.1,x.2.2.2.1,x.2.2.2.2.1,x.2.2.2.2.2.1,x.2.2.2.2.2.2.1,v,x.2.2.2.2.2.2.2.2)
def batch (x:StM) (v:Int):StM:=(x.1,x.2.1,x.2.2.1,x.2.2.2.1,x.2.2.2.2.1,x.2.2.2.2.2.1,x.2.2.2.2.2.2.1,x.2.2.2.2.2.2.2.1,v,x.2.2.2.2.2.2.2.2.2)
def risk (x:StM) (v:Raw):StM:=(x.1,x.2.1,x.2.2.1,x.2.2.2.1,x.2.2.2.2.1,x.2.2.2.2.2.1,x.2.2.2.2.2.2.1,x.2.2.2.2.2.2.2.1,x.2.2.2.2.2.2.2.2.1,v.neg,v.num,v.den,x.2.2.2.2.2.2.2.2.2.2.2.2)
def cell (x:StM) (v:Int):StM:=(x.1,x.2.1,x.2.2.1,x.2.2.2.1,x.2.2.2.2.1,x.2.2.2.2.2.1,x.2.2.2.2.2.2.1,x.2.2.2.2.2.2.2.1,x.2.2.2.2.2.2.2.2.1,x.2.2.2.2.2.2.2.2.2.1,x.2.2.2.2.2.2.2.2.2.2.1,x.2.2.2.2.2.2.2.2.2.2.2.1,v,x.2.2.2.2.2.2.2.2.2.2.2.2.2)
def seed (x:StM) (v:ByteArray):StM:=(x.1,x.2.1,x.2.2.1,x.2.2.2.1,x.2.2.2.2.1,x.2.2.2.2.2.1,x.2.2.2.2.2.2.1,x.2.2.2.2.2.2.2.1,x.2.2.2.2.2.2.2.2.1,x.2.2.2.2.2.2.2.2.2.1,x.2.2.2.2.2.2.2.2.2.2.1,x.2.2.2.2.2.2.2.2.2.2.2.1,x.2.2.2.2.2.2.2.2.2.2.2.2.1,v,x.2.2.2.2.2.2.2.2.2.2.2.2.2.2)
end StM
def uc (x:StM) (kind:ByteArray) (f:ar):StM:=
 if aK kind f.key=aK aH cV then(x.note (jz f.vals 2 7) f.line).dots (jh f.vals)
 else if aK kind f.key=aK aH bi then(x.note (jz f.vals 1 100) f.line).blank (jh f.vals)
 else if aK kind f.key=aK aH aW then(x.note (jz f.vals 1 100) f.line).marked (jh f.vals)
 else if aK kind f.key=aK ak bQ then(x.note (jz f.vals 1 6) f.line).scan (jh f.vals)
 else if aK kind f.key=aK ak bR then(x.note (jz f.vals 1 16) f.line).batch (jh f.vals)
 else if aK kind f.key=aK af bP then(x.note (db f.vals 12) f.line).prec f.vals
 else if aK kind f.key=aK aJ bH then(x.note (jI f.vals) f.line).risk (d9 (Fu f)).2
 else if aK kind f.key=aK aJ cz then(x.note (kX f.vals) f.line).seed (bj f.vals)
 else if aK kind f.key=aK aN dm then(x.note (jz f.vals 1 400) f.line).cell (jh f.vals)
 else x
def jn (a b:ByteArray):ByteArray:=⟨(aK a b).toArray⟩
def Pp (k key a b:ByteArray):Bool:=(k++⟨#[32]⟩++key).toList==(jn a b).toList
theorem mY {k key a b:ByteArray}:aK k key=aK a b↔Pp k key a b=true:=by
 unfold Pp;rw[AT];constructor
 ·intro h;refine ByteArray.ext (Array.ext' ?_);simpa[aK,jn] using h
 ·intro h;have:=congrArg (fun b=>b.data.toList) h;simpa[aK,jn] using this
def fdV (x:StM) (f:ar) (c:Int) (g:StM→StM):T SRM:=.nd ((bj f.vals).size≤9223372036854775807) (.lf (Fc (.tup []) (g (x.note c f.line))))
def fdI (x:StM) (f:ar) (lo hi:Int) (g:StM→Int→StM):T SRM:=fdV x f (jz f.vals lo hi) fun y=>g y (jh f.vals)
def fdB (x:StM) (k:ByteArray) (f:ar):T SRM:=.nd (k.size+(⟨#[32]⟩:ByteArray).size≤9223372036854775807) (.nd ((k++⟨#[32]⟩).size+f.key.size≤9223372036854775807)
 (.br (Pp k f.key aH cV) (fdI x f 2 7 .dots) (.br (Pp k f.key aH bi) (fdI x f 1 100 .blank) (.br (Pp k f.key aH aW) (fdI x f 1 100 .marked)
 (.br (Pp k f.key ak bQ) (fdI x f 1 6 .scan) (.br (Pp k f.key ak bR) (fdI x f 1 16 .batch)
 (.br (Pp k f.key af bP) (.nd (FT f.vals∧(0:Int)≤12∧f.vals.length≤1099511627776) (.lf (Fc (.tup []) ((x.note (db f.vals 12) f.line).prec f.vals))))
 (.br (Pp k f.key aJ bH) (.nd ((bj f.vals).size≤9223372036854775807) (.br (decide ((d9 (Fu f)).1=0)) (.lf (Fc (.tup []) ((x.note (jI f.vals) f.line).risk (d9 (Fu f)).2))) (.lf (Fc (.tup []) ((x.note (jI f.vals) f.line).risk ⟨false,[],[]⟩)))))
 (.br (Pp k f.key aJ cz) (fdV x f (kX f.vals) fun y=>y.seed (bj f.vals))
 (.br (Pp k f.key aN dm) (fdI x f 1 400 .cell) (.lf (Fc (.tup []) x))))))))))))
def LK (k:ByteArray) (f:ar):Prop:=fOk f∧k.size≤1152921504606846976∧f.key.size≤1152921504606846976
theorem LI:gi Tryz.prog 114 pM [(0,sM),(1,sS),(2,sF)] [(0,sM)] fun((x:StM),(k:ByteArray),(f:ar),_)=>.nd (LK k f) (.lf (Fc (.tup []) (uc x k f))):=by
 refine kM (C:=C6) (pb:=pM) (nL _ _) 99 [(0,sM),(1,sS),(2,sF)] [(0,sM)] (fun((x:StM),(k:ByteArray),(f:ar),_)=>fdB x k f) ?_ Tryz.func114;rintro⟨(x:StM),(k:ByteArray),(f:ar),_⟩ r _ ⟨⟨⟨h1,h2⟩,h3,h4⟩,hr⟩;obtain rfl:Fc (.tup []) (uc x k f)=r:=hr;have hv:=CL h1;have ho:∀c g,(fdV x f c g).hit (Fc (.tup []) (g (x.note c f.line))):=fun c g=>⟨hv,rfl⟩;have e1:(⟨#[32]⟩:ByteArray).size=1:=rfl;refine⟨by omega,by rw[ByteArray.size_append];omega,?_⟩;unfold uc;refine j8 (F:=Fc (.tup [])) mY (ho _ _) (j8 (F:=Fc (.tup [])) mY (ho _ _) (j8 (F:=Fc (.tup [])) mY (ho _ _) (j8 (F:=Fc (.tup [])) mY (ho _ _) (j8 (F:=Fc (.tup [])) mY (ho _ _) (j8 (F:=Fc (.tup [])) mY ⟨⟨h1,by decide,h2⟩,rfl⟩ (j8 (F:=Fc (.tup [])) mY ⟨hv,?_⟩ (j8 (F:=Fc (.tup [])) mY (ho _ fun y=>y.seed (bj f.vals)) (j8 (F:=Fc (.tup [])) mY (ho _ _) rfl))))))));refine⟨fun _=>rfl,fun e=>?_⟩;have:(d9 (Fu f)).2=⟨false,[],[]⟩:=by
  have e:=of_decide_eq_false e
  revert e
  unfold d9;split
  ·exact fun _=>rfl
  ·split
   ·exact fun _=>rfl
   ·exact fun e=>absurd rfl e
 rw[this];rfl
noncomputable def adi (t:TypeId):Option Ty:=List.lookup t [(9,.str),(3,tI),(87,.st 3),(42,.st 10),(189,.st 7),(188,.st 6)]
noncomputable def C7:ik Tryz.prog:=dE adi [⟨_,_,_,find_ok⟩,⟨_,_,_,rX⟩] [⟨_,_,_,_,_,kK⟩,⟨_,_,_,_,_,QW⟩,⟨_,_,_,_,_,LI⟩,⟨_,_,_,_,_,xn⟩,⟨_,_,_,_,_,Qc⟩]
abbrev sNb:SS:=.box 188 [.d (.list .str),.d (.list .str)]
abbrev sLb:SS:=.box 189 [.d tI,.d tI]
abbrev yv:=eT [.d (.list .str),.d (.list .str)]
abbrev yx:=eT [.d tI,.d tI]
abbrev R4:SS:=.c (.own .str 9)
abbrev bkL:List (Nat×SS):=[(0,sT),(3,sBb),(4,R4),(5,X9),(6,sNb),(7,sLb),(8,sI),(9,sI),(10,sI)]
abbrev bkO:List (Nat×SS):=[(0,sT),(3,sBb),(4,R4),(5,X9),(6,sNb),(7,sLb),(8,sI),(9,sI)]
noncomputable abbrev bfn:=Tryz.f63
def bf.m (x:bf):StM:=(x.1,x.2.1,x.2.2.1,x.2.2.2.1,x.2.2.2.2.1,(),(),x.2.2.2.2.2.2.2.1,x.2.2.2.2.2.2.2.2.1,x.2.2.2.2.2.2.2.2.2.1,x.2.2.2.2.2.2.2.2.2.2.1,x.2.2.2.2.2.2.2.2.2.2.2.1,x.2.2.2.2.2.2.2.2.2.2.2.2.1,x.2.2.2.2.2.2.2.2.2.2.2.2.2.1,(),(),(),x.f.1,x.f.2,())
def bf.setM (x:bf) (y:StM):bf:=(y.1,y.2.1,y.2.2.1,y.2.2.2.1,y.2.2.2.2.1,x.2.2.2.2.2.1,x.2.2.2.2.2.2.1,y.2.2.2.2.2.2.2.1,y.2.2.2.2.2.2.2.2.1,y.2.2.2.2.2.2.2.2.2.1,y.2.2.2.2.2.2.2.2.2.2.1,y.2.2.2.2.2.2.2.2.2.2.2.1,y.2.2.2.2.2.2.2.2.2.2.2.2.1,y.2.2.2.2.2.2.2.2.2.2.2.2.2.1,x.2.2.2.2.2.2.2.2.2.2.2.2.2.2.1,x.2.2.2.2.2.2.2.2.2.2.2.2.2.2.2.1,x.2.2.2.2.2.2.2.2.2.2.2.2.2.2.2.2.1,y.f.1,y.f.2,())
def bf.setE (x:bf) (e:aa) (f:eE):bf:=(e.title,e.dots,e.blank,e.marked,e.prec,x.2.2.2.2.2.1,x.2.2.2.2.2.2.1,e.scan,e.batch,e.risk.neg,e.risk.num,e.risk.den,e.cell,e.seed,x.2.2.2.2.2.2.2.2.2.2.2.2.2.2.1,x.2.2.2.2.2.2.2.2.2.2.2.2.2.2.2.1,x.2.2.2.2.2.2.2.2.2.2.2.2.2.2.2.2.1,f.no,f.line,())
def loc (x:bf) (kn:List ByteArray) (c:oV) (nm:yv) (ln:yx) (d s:Int):dc:=⟨x.e,⟨x.f.1,x.f.2⟩,kn.reverse,MG c,nm.1,nm.2.1,ln.1,ln.2.1,d,s⟩
def kd.kind (b:kd):ByteArray:=b.1
abbrev H9:=LE bkL bkO [(0,sT)]
def Rk (b:kd) (x:bf) (kn:List ByteArray) (c:oV) (nm:yv) (ln:yx) (d s i:Int):H9:=.back (x,b,kn,c,nm,ln,d,s,i,())
def E5 (b:kd) (x:bf) (kn:List ByteArray) (c:oV) (nm:yv) (ln:yx) (d s:Int):H9:=.out (x,b,kn,c,nm,ln,d,s,())
def VK (b:kd) (x:bf) (kn:List ByteArray) (c:oV) (nm:yv) (ln:yx) (d s i:Int):T H9:=.nd (cf (i+1)) (.lf (Rk b x kn c nm ln d s (i+1)))
def agk (x:bf) (f:ar) (k:Int) (t:bf→T H9):T H9:=.nd (FT f.vals∧(0:Int)≤k∧f.vals.length≤1099511627776) (t (x.note (db f.vals k) f.line))
def bkC (b:kd) (x:bf) (kn:List ByteArray) (c:oV) (nm:yv) (ln:yx) (d s i:Int) (f:ar):T H9:=
 .br (f.key.toList==ay.toList) (.br (f.key.toList==bb.toList) (VK b x kn c nm ln f.line f.line i) (VK b x kn c nm ln f.line s i)) (.br (f.key.toList==bb.toList) (VK b x kn c nm ln d f.line i) (VK b x kn c nm ln d s i))
def bkF (b:kd) (x:bf) (kn:List ByteArray) (c:oV) (nm:yv) (ln:yx) (d s i:Int) (f:ar):T H9:=.nd (LK b.kind f) (VK b (x.setM (uc x.m b.kind f)) kn c nm ln d s i)
def bk2 (b:kd) (x:bf) (kn:List ByteArray) (c:oV) (nm:yv) (ln:yx) (d s i:Int) (f:ar):T H9:=
 .br (is aC b) (agk x f 4 fun x=>VK b x kn c (nm.1,f.vals,()) (ln.1,f.line,()) d s i) (bkF b x kn c nm ln d s i f)
def bkR (b:kd) (x:bf) (kn:List ByteArray) (c:oV) (nm:yv) (ln:yx) (d s i:Int) (f:ar):T H9:=
 .br (!(x.err==0)) (VK b x kn c nm ln d s i)
 (.br (is ah b) (.nd (fOk f) (bkC b (x.note (fA (MG c) f).2 f.line) kn (MF (fA (MG c) f).1) nm ln d s i f))
 (.br (is aC b) (.br (f.key.toList==af.toList) (agk x f 12 fun x=>VK b x kn c (f.vals,nm.2.1,()) (f.line,ln.2.1,()) d s i) (bk2 b x kn c nm ln d s i f)) (bk2 b x kn c nm ln d s i f)))
def abC (b:kd) (x:bf) (kn:List ByteArray) (c:oV) (nm:yv) (ln:yx) (d s i:Int) (f:ar):T H9:=.nd ((kn.length+1)*17≤140737488355328) (bkR b x (f.key::kn) c nm ln d s i f)
def bkA (b:kd) (x:bf) (kn:List ByteArray) (c:oV) (nm:yv) (ln:yx) (d s i:Int) (f:ar):T H9:=
 .br (decide (Lib.idxOfS kn.reverse f.key≥0)) (.nd ((0:Int)≠3) (abC b (x.note 3 f.line) kn c nm ln d s i f)) (abC b x kn c nm ln d s i f)
def bkB (b:kd) (x:bf) (kn:List ByteArray) (c:oV) (nm:yv) (ln:yx) (d s i:Int) (f:ar):T H9:=
 .br (decide (Lib.idxOfS (aD b.kind) f.key<0)) (.nd ((0:Int)≠2) (bkA b (x.note 2 f.line) kn c nm ln d s i f)) (bkA b x kn c nm ln d s i f)
def ar.zero:ar:=⟨⟨#[]⟩,[],0⟩
def kd.fs (b:kd):List ar:=b.2.2.1
def bkT (b:kd) (x:bf) (kn:List ByteArray) (c:oV) (nm:yv) (ln:yx) (d s i:Int):T H9:=
 .br (decide (i<b.fs.length)) (.br (x.err==0) (.nd (0≤i∧i<b.fs.length) (bkB b x kn c nm ln d s i (b.fs.getD i.toNat ar.zero))) (.lf (E5 b x kn c nm ln d s))) (.lf (E5 b x kn c nm ln d s))
theorem GQ (p:Int×Int) (no line:Int):(⟨p.1,p.2⟩:eE).note no line=⟨(nt p no line).1,(nt p no line).2⟩:=by
 unfold eE.note nt;by_cases h:p.1=0∧no≠0
 ·rw[if_pos h,if_pos h]
 ·rw[if_neg h,if_neg h]
def bf.er (x:bf):eE:=⟨x.f.1,x.f.2⟩
theorem o9 (x:bf) (no line:Int):(x.note no line).er=x.er.note no line:=(GQ x.f no line).symm
theorem o0 (x:bf) (no line:Int):x.note no line=x.setE x.e (x.er.note no line):=by rw[←o9];rfl
theorem QA (x:bf) (k:ByteArray) (f:ar):x.setM (uc x.m k f)=x.setE (dw k x.e f).1 (x.er.note (dw k x.e f).2 f.line):=by
 have h:∀c,x.er.note c f.line=⟨(nt x.f c f.line).1,(nt x.f c f.line).2⟩:=fun c=>GQ x.f c f.line;rw[h];unfold uc dw;split
 ·rfl
 split
 ·rfl
 split
 ·rfl
 split
 ·rfl
 split
 ·rfl
 split
 ·rfl
 split
 ·rfl
 split
 ·rfl
 split
 ·rfl
 rw[Ow];rfl
theorem Ev (k:ByteArray) (e:aa) (f:ar):(dw k e f).1.cont=e.cont∧(dw k e f).1.styl=e.styl:=by
 unfold dw;repeat (split;· exact⟨rfl,rfl⟩)
 exact⟨rfl,rfl⟩
def yl (b:kd) (x:bf) (y:dc) (i:Int):H9:=Rk b (x.setE y.e y.f) y.known.reverse (MF y.c) (y.n0,y.n1,()) (y.l0,y.l1,()) y.digits y.seats i
def E6 (b:kd) (x:bf) (y:dc):H9:=E5 b (x.setE y.e y.f) y.known.reverse (MF y.c) (y.n0,y.n1,()) (y.l0,y.l1,()) y.digits y.seats
theorem OV {x:bf} {y:dc} (h1:y.e.cont=x.cont) (h2:y.e.styl=x.styl):loc (x.setE y.e y.f) y.known.reverse (MF y.c) (y.n0,y.n1,()) (y.l0,y.l1,()) y.digits y.seats=y:=by
 have:(x.setE y.e y.f).e=y.e:=by
  show(⟨y.e.title,y.e.dots,y.e.blank,y.e.marked,y.e.prec,x.cont,x.styl,y.e.scan,y.e.batch,⟨y.e.risk.neg,y.e.risk.num,y.e.risk.den⟩,y.e.cell,y.e.seed⟩:aa)=y.e;rw[←h1,←h2]
 show(⟨(x.setE y.e y.f).e,y.f,y.known.reverse.reverse,y.c,y.n0,y.n1,y.l0,y.l1,y.digits,y.seats⟩:dc)=_;rw[this,aap]
theorem wB (k:ByteArray) (y:dc) (f:ar):(aV k y f).e.cont=y.e.cont∧(aV k y f).e.styl=y.e.styl:=by
 unfold aV;simp only;generalize (y.f.note (if bI (aD k) f.key=true then 0 else 2) f.line).note (if bI y.known f.key=true then 3 else 0) f.line=f2;repeat (split;· exact⟨rfl,rfl⟩)
 exact Ev k y.e f
theorem isB {k:ByteArray} {b:kd}:is k b=true↔b.kind=k:=AT
theorem VL (b:kd) (x:bf) (kn:List ByteArray) (c:oV) (nm:yv) (ln:yx) (d s i:Int) (f:ar) (hf:LK b.kind f) (hk:(kn.length+1)*17≤140737488355328) (hi:cf (i+1)):(bkB b x kn c nm ln d s i f).hit (yl b x (aV b.kind (loc x kn c nm ln d s) f) (i+1)):=by
 obtain⟨⟨f1,f2⟩,_⟩:=hf;have hR:∀z:bf,z.er=((x.er.note (if bI (aD b.kind) f.key=true then 0 else 2) f.line).note (if bI kn.reverse f.key=true then 3 else 0) f.line)→z=x.setE x.e z.er→(bkR b z (f.key::kn) c nm ln d s i f).hit (yl b x (aV b.kind (loc x kn c nm ln d s) f) (i+1)):=by
  intro z he hz;have PH:(kn.reverse++[f.key]).reverse=f.key::kn:=by simp
  have hnt:∀no,z.note no f.line=x.setE x.e (z.er.note no f.line):=fun no=>by
   rw[o0,hz];rfl
  unfold aV bkR;simp only;have hs:(loc x kn c nm ln d s).f=x.er:=rfl;have Fw:(loc x kn c nm ln d s).known=kn.reverse:=rfl;rw[hs,Fw,←he];by_cases h0:z.er.no=0
  ·rw[if_neg (by simpa using h0)];refine bh (by rw[show z.err=0 from h0];rfl) ?_;by_cases h1:b.kind=ah
   ·rw[if_pos h1];refine aZ (isB.2 h1) ⟨⟨f1,f2⟩,?_⟩;have sk:∀d' s',(VK b (z.note (fA (MG c) f).2 f.line) (f.key::kn) (MF (fA (MG c) f).1) nm ln d' s' i).hit (yl b x { loc x kn c nm ln d s with f:=z.er.note (fA (MG c) f).2 f.line,known:=kn.reverse++[f.key],c:=(fA (MG c) f).1,digits:=d',seats:=s' } (i+1)):=fun d' s'=>⟨hi,by
     unfold yl;simp only;rw[PH,hnt];rfl⟩
    unfold bkC;by_cases hd:f.key=ay
    ·refine aZ (AT.2 hd) ?_;rw[if_pos hd];by_cases UJ:f.key=bb
     ·exact aZ (AT.2 UJ) (by rw[if_pos UJ];exact sk _ _)
     ·exact bh (by rw[eG];exact decide_eq_false UJ) (by rw[if_neg UJ];exact sk _ _)
    ·refine bh (by rw[eG];exact decide_eq_false hd) ?_;rw[if_neg hd];by_cases UJ:f.key=bb
     ·exact aZ (AT.2 UJ) (by rw[if_pos UJ];exact sk _ _)
     ·exact bh (by rw[eG];exact decide_eq_false UJ) (by rw[if_neg UJ];exact sk _ _)
   ·rw[if_neg h1];refine bh (by rw[acI];exact fun e=>h1 (isB.1 e)) ?_;have h2:(bk2 b z (f.key::kn) c nm ln d s i f).hit (yl b x (if b.kind=aC then { loc x kn c nm ln d s with f:=z.er.note (db f.vals 4) f.line,known:=kn.reverse++[f.key],n1:=f.vals,l1:=f.line } else { loc x kn c nm ln d s with e:=(dw b.kind x.e f).1,f:=z.er.note (dw b.kind x.e f).2 f.line,known:=kn.reverse++[f.key] }) (i+1)):=by
     unfold bk2;by_cases h2:b.kind=aC
     ·rw[if_pos h2];refine aZ (isB.2 h2) ⟨⟨f1,by decide,f2⟩,hi,?_⟩;unfold yl;simp only;rw[PH,hnt];rfl
     ·rw[if_neg h2];refine bh (by rw[acI];exact fun e=>h2 (isB.1 e)) ⟨⟨⟨f1,f2⟩,‹_›⟩,hi,?_⟩;unfold yl;simp only;rw[PH,QA,hz];rfl
    by_cases h3:b.kind=aC
    ·refine aZ (isB.2 h3) ?_;by_cases h4:f.key=af
     ·rw[if_pos ⟨h3,h4⟩];refine aZ (AT.2 h4) ⟨⟨f1,by decide,f2⟩,hi,?_⟩;unfold yl;simp only;rw[PH,hnt];rfl
     ·rw[if_neg fun q=>h4 q.2];exact bh (by rw[eG];exact decide_eq_false h4) h2
    ·rw[if_neg fun q=>h3 q.1];exact bh (by rw[acI];exact fun e=>h3 (isB.1 e)) h2
  ·rw[if_pos h0];refine aZ (by rw[aco];exact beq_eq_false_iff_ne.2 h0) ⟨hi,?_⟩;unfold yl;simp only;rw[PH,hz];rfl
 have hP:∀z:bf,z.er=((x.er.note (if bI (aD b.kind) f.key=true then 0 else 2) f.line).note (if bI kn.reverse f.key=true then 3 else 0) f.line)→z=x.setE x.e z.er→(abC b z kn c nm ln d s i f).hit (yl b x (aV b.kind (loc x kn c nm ln d s) f) (i+1)):=fun z h1 h2=>⟨hk,hR z h1 h2⟩;have hA:∀z:bf,z.er=x.er.note (if bI (aD b.kind) f.key=true then 0 else 2) f.line→z=x.setE x.e z.er→(bkA b z kn c nm ln d s i f).hit (yl b x (aV b.kind (loc x kn c nm ln d s) f) (i+1)):=by
  intro z h1 h2;unfold bkA;by_cases h:bI kn.reverse f.key=true
  ·refine aZ h ⟨by decide,hP _ ?_ ?_⟩
   ·rw[o9,h1,if_pos h]
   ·rw[o0,h2];rfl
  ·refine bh (by unfold bI at h;simpa using h) (hP _ ?_ h2);rw[h1,if_neg h];have:∀e:eE,e.note 0 f.line=e:=fun e=>if_neg fun q=>q.2 rfl;rw[this]
 unfold bkB;by_cases h:bI (aD b.kind) f.key=true
 ·refine bh (by unfold bI at h;simpa using h) (hA _ ?_ rfl);rw[if_pos h];have:∀e:eE,e.note 0 f.line=e:=fun e=>if_neg fun q=>q.2 rfl;rw[this]
 ·refine aZ (by unfold bI at h;simpa using h) ⟨by decide,hA _ ?_ ?_⟩
  ·rw[o9,if_neg h]
  ·rw[o0];rfl
def Xr (b:kd) (kn:List ByteArray) (i:Int):Prop:=0≤i∧i≤b.fs.length∧(kn.length:Int)=i∧b.fs.length≤1099511627776∧∀f∈b.fs,LK b.kind f
theorem CW {k:ByteArray} {l:List ar} {y:dc} {i:Nat} (hi:i<l.length) (h:y.f.no=0):dS k (l.drop i) y=dS k (l.drop (i+1)) (aV k y (l.getD i ar.zero)):=by
 rw[getD_drop ar.zero hi,dS,if_neg (by simpa using h)]
theorem FW {k:ByteArray} {l:List ar} {y:dc} (h:y.f.no≠0):dS k l y=y:=by
 cases l with
 | nil=>rfl
 | cons f l=>rw[dS,if_pos h]
theorem AK (b:kd) (x:bf) (kn:List ByteArray) (c:oV) (nm:yv) (ln:yx) (d s:Int):E5 b x kn c nm ln d s=E6 b x (loc x kn c nm ln d s):=by
 show _=E5 b x kn.reverse.reverse c nm ln d s;rw[aap]
theorem CX (k:ByteArray) (y:dc) (f:ar):(aV k y f).known=y.known++[f.key]:=by
 unfold aV;simp only;generalize (y.f.note (if bI (aD k) f.key=true then 0 else 2) f.line).note (if bI y.known f.key=true then 3 else 0) f.line=f2;repeat (split;· rfl)
 rfl
theorem Mg:eS (LU C7 bfn [0]) 0 0 bkL bkO [(0,sT)] fun((x:bf),(b:kd),(kn:List ByteArray),(c:oV),(nm:yv),(ln:yx),(d:Int),(s:Int),(i:Int),_)=>.nd (Xr b kn i) (.lf (E6 b x (dS b.kind (b.fs.drop i.toNat) (loc x kn c nm ln d s)))):=by
 refine eY _ (nL _ _) 99 0 0 bkL bkO [(0,sT)] (fun((x:bf),(b:kd),(kn:List ByteArray),(c:oV),(nm:yv),(ln:yx),(d:Int),(s:Int),(i:Int),_)=>bkT b x kn c nm ln d s i)
  (fun(_,(b:kd),_,_,_,_,_,_,(i:Int),_)=>b.fs.length-i.toNat) ?_
 rintro⟨(x:bf),(b:kd),(kn:List ByteArray),(c:oV),(nm:yv),(ln:yx),(d:Int),(s:Int),(i:Int),_⟩ r _ ⟨⟨h0,h1,h2,h3,h4⟩,hr⟩;obtain rfl:E6 b x (dS b.kind (b.fs.drop i.toNat) (loc x kn c nm ln d s))=r:=hr;obtain⟨k,rfl⟩:∃k:Nat,i=k:=⟨i.toNat,by omega⟩;rw[aak];show∃q,(bkT b x kn c nm ln d s k).hit q∧_;unfold bkT;by_cases hk:k<b.fs.length
 ·by_cases he:x.err=0
  ·have hy:(loc x kn c nm ln d s).f.no=0:=he;have hf:=h4 (b.fs.getD k ar.zero) (by rw[aai,aae hk];exact abF hk);refine⟨_,aZ (decide_eq_true (by omega)) (aZ (beq_iff_eq.2 he) ⟨⟨by omega,by omega⟩,VL b x kn c nm ln d s k _ (by rw[aak];exact hf) (by omega) ⟨by omega,by omega⟩⟩),?_,?_⟩
   ·show b.fs.length-(k+1)<b.fs.length-k;omega
   ·rw[aak,CW hk hy];obtain⟨r1,r2⟩:=wB b.kind (loc x kn c nm ln d s) (b.fs.getD k ar.zero);have gX:=CX b.kind (loc x kn c nm ln d s) (b.fs.getD k ar.zero);generalize aV b.kind (loc x kn c nm ln d s) (b.fs.getD k ar.zero)=y at*;refine⟨⟨by omega,by omega,?_,h3,h4⟩,?_⟩
    ·rw[gX,aaH,aaD];show((kn.reverse.length+1:Nat):Int)=(k:Int)+1;rw[aaH];omega
    ·show E6 b (x.setE y.e y.f) _=_;exact congrArg (fun z=>E6 b (x.setE y.e y.f) (dS b.kind (b.fs.drop (k+1)) z)) (OV r1 r2)
  ·refine⟨_,aZ (decide_eq_true (by omega)) (bh (beq_eq_false_iff_ne.2 he) rfl),?_⟩;rw[FW (by exact he)];exact AK b x kn c nm ln d s
 ·refine⟨_,bh (decide_eq_false (by omega)) rfl,?_⟩;rw[aaL (by omega)];exact AK b x kn c nm ln d s
abbrev bmL:List (Nat×SS):=[(0,sT),(3,sBb),(4,R4),(5,X9),(6,sNb),(7,sLb),(8,sI),(9,sI),(12,sL),(13,sI)]
abbrev BmE:=LE bmL bkO [(0,sT)]
def kd.ln (b:kd):Int:=b.2.2.2.1
def kd.nm (b:kd):ByteArray:=b.2.1
def oV.me (c:oV):Int:=c.2.2.1
section
variable (b:kd) (kn:List ByteArray) (c:oV) (nm:yv) (ln:yx) (d s:Int) (l:List ByteArray) (i:Int)
def abA (x:bf):BmE:=.back (x,b,kn,c,nm,ln,d,s,l,i+1,())
def AI (x:bf):BmE:=.out (x,b,kn,c,nm,ln,d,s,())
def bmN (x:bf):T BmE:=.nd (cf (i+1)) (.lf (abA b kn c nm ln d s l i x))
def bmF (x:bf):T BmE:=.nd ((0:Int)≠6) (bmN b kn c nm ln d s l i (x.note 6 b.ln))
def bmT (x:bf):T BmE:=
 .br (decide (i<l.length)) (.br (x.err==0) (.nd (0≤i∧i<l.length) (.br (decide (Lib.idxOfS kn.reverse (l.getD i.toNat ⟨#[]⟩)<0)) (.nd (0≤i∧i<l.length)
  (.br (!((l.getD i.toNat ⟨#[]⟩).toList==ay.toList)) (bmF b kn c nm ln d s l i x) (.br (c.me==2) (bmF b kn c nm ln d s l i x) (bmN b kn c nm ln d s l i x)))) (bmN b kn c nm ln d s l i x))) (.lf (AI b kn c nm ln d s x))) (.lf (AI b kn c nm ln d s x))
end
theorem Mf:eS (LU C7 bfn [0]) 1 3 bmL bkO [(0,sT)] fun((x:bf),(b:kd),(kn:List ByteArray),(c:oV),(nm:yv),(ln:yx),(d:Int),(s:Int),(l:List ByteArray),(i:Int),_)=>.nd (0≤i∧i≤l.length) (.lf (AI b kn c nm ln d s (x.setE x.e (gd kn.reverse c.me b.ln (l.drop i.toNat) x.er)))):=by
 refine eY _ (nL _ _) 99 1 3 bmL bkO [(0,sT)] (fun((x:bf),(b:kd),(kn:List ByteArray),(c:oV),(nm:yv),(ln:yx),(d:Int),(s:Int),(l:List ByteArray),(i:Int),_)=>bmT b kn c nm ln d s l i x)
  (fun(_,_,_,_,_,_,_,_,(l:List ByteArray),(i:Int),_)=>l.length-i.toNat) ?_
 rintro⟨(x:bf),(b:kd),(kn:List ByteArray),(c:oV),(nm:yv),(ln:yx),(d:Int),(s:Int),(l:List ByteArray),(i:Int),_⟩ r tj ⟨⟨h0,h1⟩,hr⟩;have hl:l.length≤9223372036854775807:=tj.2.2.2.2.2.2.2.2.1;obtain rfl:AI b kn c nm ln d s (x.setE x.e (gd kn.reverse c.me b.ln (l.drop i.toNat) x.er))=r:=hr;obtain⟨k,rfl⟩:∃k:Nat,i=k:=⟨i.toNat,by omega⟩;rw[aak];show∃q,(bmT b kn c nm ln d s l k x).hit q∧_;unfold bmT;by_cases hk:k<l.length
 ·have hx:=getD_drop (⟨#[]⟩:ByteArray) hk;by_cases he:x.err=0
  ·have dec:l.length-(k+1)<l.length-k:=by omega
   have dj:cf ((k:Int)+1):=⟨by omega,by omega⟩;rw[hx,gd,if_neg (by simpa using(show x.er.no=0 from he))];rw[aak];have key:∀no,(if bI kn.reverse (l.getD k ⟨#[]⟩)=true∨(l.getD k ⟨#[]⟩=ay∧c.me≠2) then(0:Int) else 6)=no→AI b kn c nm ln d s ((x.note no b.ln).setE (x.note no b.ln).e (gd kn.reverse c.me b.ln (l.drop (k+1)) (x.note no b.ln).er))=AI b kn c nm ln d s (x.setE x.e (gd kn.reverse c.me b.ln (l.drop (k+1)) (x.er.note (if bI kn.reverse (l.getD k ⟨#[]⟩)=true∨(l.getD k ⟨#[]⟩=ay∧c.me≠2) then 0 else 6) b.ln))):=by
    rintro no rfl;rw[o9];rfl
   have no0:(x.note 0 b.ln)=x:=vK _;by_cases hh:bI kn.reverse (l.getD k ⟨#[]⟩)=true
   ·refine⟨_,aZ (decide_eq_true (by omega)) (aZ (beq_iff_eq.2 he) ⟨⟨by omega,by omega⟩,bh (by unfold bI at hh;simpa using hh) ⟨dj,rfl⟩⟩),dec,⟨by omega,by omega⟩,?_⟩;have:=key 0 (if_pos (.inl hh));rw[no0] at this;exact this
   ·have hlt:decide (Lib.idxOfS kn.reverse (l.getD k ⟨#[]⟩)<0)=true:=by unfold bI at hh;simpa using hh
    by_cases hd:l.getD k ⟨#[]⟩=ay
    ·by_cases hm:c.me=2
     ·refine⟨_,aZ (decide_eq_true (by omega)) (aZ (beq_iff_eq.2 he) ⟨⟨by omega,by omega⟩,aZ hlt ⟨⟨by omega,by omega⟩,bh (by rw[Bool.not_eq_false'];exact AT.2 hd) (aZ (beq_iff_eq.2 hm) ⟨by decide,dj,rfl⟩)⟩⟩),dec,⟨by omega,by omega⟩,key 6 (if_neg fun q=>q.elim hh fun q=>q.2 hm)⟩
     ·refine⟨_,aZ (decide_eq_true (by omega)) (aZ (beq_iff_eq.2 he) ⟨⟨by omega,by omega⟩,aZ hlt ⟨⟨by omega,by omega⟩,bh (by rw[Bool.not_eq_false'];exact AT.2 hd) (bh (beq_eq_false_iff_ne.2 hm) ⟨dj,rfl⟩)⟩⟩),dec,⟨by omega,by omega⟩,?_⟩;have:=key 0 (if_pos (.inr ⟨hd,hm⟩));rw[no0] at this;exact this
    ·refine⟨_,aZ (decide_eq_true (by omega)) (aZ (beq_iff_eq.2 he) ⟨⟨by omega,by omega⟩,aZ hlt ⟨⟨by omega,by omega⟩,aZ (by rw[aco,eG];exact decide_eq_false hd) ⟨by decide,dj,rfl⟩⟩⟩),dec,⟨by omega,by omega⟩,key 6 (if_neg fun q=>q.elim hh fun q=>hd q.1)⟩
  ·refine⟨_,aZ (decide_eq_true (by omega)) (bh (beq_eq_false_iff_ne.2 he) rfl),?_⟩;rw[hx,gd,if_pos (by exact he)];rfl
 ·refine⟨_,bh (decide_eq_false (by omega)) rfl,?_⟩;rw[aaL (by omega),gd];rfl
def bf.rc (x:bf):List (ae):=x.2.2.2.2.2.1
def bf.ac (x:bf) (v:ae):bf:=(x.1,x.2.1,x.2.2.1,x.2.2.2.1,x.2.2.2.2.1,(List.cons (α:=ae) v x.rc),x.2.2.2.2.2.2.1,x.2.2.2.2.2.2.2.1,x.2.2.2.2.2.2.2.2.1,x.2.2.2.2.2.2.2.2.2.1,x.2.2.2.2.2.2.2.2.2.2.1,x.2.2.2.2.2.2.2.2.2.2.2.1,x.2.2.2.2.2.2.2.2.2.2.2.2.1,x.2.2.2.2.2.2.2.2.2.2.2.2.2.1,x.2.2.2.2.2.2.2.2.2.2.2.2.2.2.1,x.2.2.2.2.2.2.2.2.2.2.2.2.2.2.2.1,x.2.2.2.2.2.2.2.2.2.2.2.2.2.2.2.2.1,x.2.2.2.2.2.2.2.2.2.2.2.2.2.2.2.2.2.1,x.2.2.2.2.2.2.2.2.2.2.2.2.2.2.2.2.2.2.1,())
def bf.rs (x:bf):List (ByteArray):=x.2.2.2.2.2.2.1
def bf.as (x:bf) (v:ByteArray):bf:=(x.1,x.2.1,x.2.2.1,x.2.2.2.1,x.2.2.2.2.1,x.2.2.2.2.2.1,(List.cons (α:=ByteArray) v x.rs),x.2.2.2.2.2.2.2.1,x.2.2.2.2.2.2.2.2.1,x.2.2.2.2.2.2.2.2.2.1,x.2.2.2.2.2.2.2.2.2.2.1,x.2.2.2.2.2.2.2.2.2.2.2.1,x.2.2.2.2.2.2.2.2.2.2.2.2.1,x.2.2.2.2.2.2.2.2.2.2.2.2.2.1,x.2.2.2.2.2.2.2.2.2.2.2.2.2.2.1,x.2.2.2.2.2.2.2.2.2.2.2.2.2.2.2.1,x.2.2.2.2.2.2.2.2.2.2.2.2.2.2.2.2.1,x.2.2.2.2.2.2.2.2.2.2.2.2.2.2.2.2.2.1,x.2.2.2.2.2.2.2.2.2.2.2.2.2.2.2.2.2.2.1,())
def bf.rn (x:bf):List (ByteArray):=x.2.2.2.2.2.2.2.2.2.2.2.2.2.2.1
def bf.an (x:bf) (v:ByteArray):bf:=(x.1,x.2.1,x.2.2.1,x.2.2.2.1,x.2.2.2.2.1,x.2.2.2.2.2.1,x.2.2.2.2.2.2.1,x.2.2.2.2.2.2.2.1,x.2.2.2.2.2.2.2.2.1,x.2.2.2.2.2.2.2.2.2.1,x.2.2.2.2.2.2.2.2.2.2.1,x.2.2.2.2.2.2.2.2.2.2.2.1,x.2.2.2.2.2.2.2.2.2.2.2.2.1,x.2.2.2.2.2.2.2.2.2.2.2.2.2.1,(List.cons (α:=ByteArray) v x.rn),x.2.2.2.2.2.2.2.2.2.2.2.2.2.2.2.1,x.2.2.2.2.2.2.2.2.2.2.2.2.2.2.2.2.1,x.2.2.2.2.2.2.2.2.2.2.2.2.2.2.2.2.2.1,x.2.2.2.2.2.2.2.2.2.2.2.2.2.2.2.2.2.2.1,())
def bf.rl (x:bf):List (Int×Int):=x.2.2.2.2.2.2.2.2.2.2.2.2.2.2.2.1
def bf.al (x:bf) (v:Int×Int):bf:=(x.1,x.2.1,x.2.2.1,x.2.2.2.1,x.2.2.2.2.1,x.2.2.2.2.2.1,x.2.2.2.2.2.2.1,x.2.2.2.2.2.2.2.1,x.2.2.2.2.2.2.2.2.1,x.2.2.2.2.2.2.2.2.2.1,x.2.2.2.2.2.2.2.2.2.2.1,x.2.2.2.2.2.2.2.2.2.2.2.1,x.2.2.2.2.2.2.2.2.2.2.2.2.1,x.2.2.2.2.2.2.2.2.2.2.2.2.2.1,x.2.2.2.2.2.2.2.2.2.2.2.2.2.2.1,(List.cons (α:=Int×Int) v x.rl),x.2.2.2.2.2.2.2.2.2.2.2.2.2.2.2.2.1,x.2.2.2.2.2.2.2.2.2.2.2.2.2.2.2.2.2.1,x.2.2.2.2.2.2.2.2.2.2.2.2.2.2.2.2.2.2.1,())
def bf.rm (x:bf):List (List ByteArray×List ByteArray):=x.2.2.2.2.2.2.2.2.2.2.2.2.2.2.2.2.1
def bf.am (x:bf) (v:List ByteArray×List ByteArray):bf:=(x.1,x.2.1,x.2.2.1,x.2.2.2.1,x.2.2.2.2.1,x.2.2.2.2.2.1,x.2.2.2.2.2.2.1,x.2.2.2.2.2.2.2.1,x.2.2.2.2.2.2.2.2.1,x.2.2.2.2.2.2.2.2.2.1,x.2.2.2.2.2.2.2.2.2.2.1,x.2.2.2.2.2.2.2.2.2.2.2.1,x.2.2.2.2.2.2.2.2.2.2.2.2.1,x.2.2.2.2.2.2.2.2.2.2.2.2.2.1,x.2.2.2.2.2.2.2.2.2.2.2.2.2.2.1,x.2.2.2.2.2.2.2.2.2.2.2.2.2.2.2.1,(List.cons (α:=List ByteArray×List ByteArray) v x.rm),x.2.2.2.2.2.2.2.2.2.2.2.2.2.2.2.2.2.1,x.2.2.2.2.2.2.2.2.2.2.2.2.2.2.2.2.2.2.1,())
def bf.ofN (t:fe) (z:List ByteArray):bf:=(t.e.title,t.e.dots,t.e.blank,t.e.marked,t.e.prec,t.e.cont.reverse,z,t.e.scan,t.e.batch,t.e.risk.neg,t.e.risk.num,t.e.risk.den,t.e.cell,t.e.seed,t.seen.reverse,t.lines.reverse,t.names.reverse,t.f.no,t.f.line,())
def ic (l:List aj):List ByteArray:=l.map (·.name)
def bf.ofR (t:fe):bf:=.ofN t (ic t.e.styl).reverse
theorem Bw (l:List ByteArray):ic (l.map fun n=>⟨n,[],[]⟩)=l:=by
 unfold ic;rw[List.map_map];exact List.map_id l
theorem oh (x:bf) (e:aa) (f:eE) (h1:e.cont=x.cont) (h2:e.styl=x.styl):x.setE e f=.ofR ⟨e,x.seen,x.lines,x.names,f⟩:=by
 have r1:x.rc=e.cont.reverse:=by rw[h1];exact(aap _).symm
 have r2:x.rs=(ic e.styl).reverse:=by
  rw[h2];show x.rs=(ic (x.snm.map fun n=>⟨n,[],[]⟩)).reverse;rw[Bw];exact(aap _).symm
 have r3:x.rn=x.seen.reverse:=(aap _).symm;have r4:x.rl=x.lines.reverse:=(aap _).symm;have r5:x.rm=x.names.reverse:=(aap _).symm;show(e.title,e.dots,e.blank,e.marked,e.prec,x.rc,x.rs,e.scan,e.batch,e.risk.neg,e.risk.num,e.risk.den,e.cell,e.seed,x.rn,x.rl,x.rm,f.no,f.line,())=_;rw[r1,r2,r3,r4,r5];rfl
theorem wU (t:fe) (no line:Int):(bf.ofR t).note no line=.ofR (t.note no line):=by
 show(bf.ofR t).setF (nt (bf.ofR t).f no line)=.ofN { t with f:=t.f.note no line } (ic t.e.styl).reverse;have:=GQ (t.f.no,t.f.line) no line;have h2:t.f.note no line=⟨(nt (t.f.no,t.f.line) no line).1,(nt (t.f.no,t.f.line) no line).2⟩:=this;rw[h2];rfl
theorem rC {α:Type} (l:List α) (v:α):(l++[v]).reverse=v::l.reverse:=by simp
theorem ad7 (t:fe) (v:ae):(bf.ofR t).ac v=.ofR { t with e:={ t.e with cont:=t.e.cont++[v] } }:=by
 have:=rC t.e.cont v;unfold bf.ofR bf.ofN;rw[this];rfl
theorem ad5 (t:fe) (v:aj):(bf.ofR t).as v.name=.ofR { t with e:={ t.e with styl:=t.e.styl++[v] } }:=by
 have:(ic (t.e.styl++[v])).reverse=v.name::(ic t.e.styl).reverse:=by unfold ic;simp
 show _=bf.ofN t (ic (t.e.styl++[v])).reverse;rw[this];rfl
theorem ad6 (t:fe) (v:ByteArray):(bf.ofR t).an v=.ofR { t with seen:=t.seen++[v] }:=by
 have:=rC t.seen v;unfold bf.ofR bf.ofN;rw[this];rfl
theorem YX (t:fe) (v:Int×Int) (u:List ByteArray×List ByteArray):((bf.ofR t).am u).al v=.ofR { t with lines:=t.lines++[v],names:=t.names++[u] }:=by
 have h1:=rC t.lines v;have h2:=rC t.names u;unfold bf.ofR bf.ofN;rw[h1,h2];rfl
def beS (b:kd) (x:bf):T SR:=.nd ((x.rn.length+1)*17≤140737488355328) (.lf (JU (.tup []) (x.an b.kind)))
def be3 (b:kd) (c:oV) (x:bf):T SR:=.nd ((x.rc.length+1)*97≤140737488355328) (beS b (x.ac { MG c with name:=b.nm }))
def oV.se (c:oV):Int:=c.2.2.2.1
def be2 (b:kd) (c:oV) (s:Int) (x:bf):T SR:=.br (c.me==1) (.br (decide (c.se>1)) (.nd ((0:Int)≠4) (be3 b c (x.note 4 s))) (be3 b c x)) (be3 b c x)
def beC (b:kd) (kn:List ByteArray) (c:oV) (d s:Int) (x:bf):T SR:=.br (decide (Lib.idxOfS kn.reverse ay≥0)) (.br (!(c.me==2)) (.nd ((0:Int)≠5) (be2 b c s (x.note 5 d))) (be2 b c s x)) (be2 b c s x)
def beY (b:kd) (nm:yv) (ln:yx) (x:bf):T SR:=.nd ((x.rs.length+1)*65≤140737488355328) (.nd ((x.rm.length+1)*49≤140737488355328) (.nd ((x.rl.length+1)*17≤140737488355328) (beS b (((x.as b.nm).am (nm.1,nm.2.1)).al (ln.1,ln.2.1)))))
def bf.bl (x:bf):Int:=x.2.2.1
def bf.mk' (x:bf):Int:=x.2.2.2.1
def beN (b:kd) (x:bf):T SR:=.br (is aH b) (.br (decide (x.bl>x.mk')) (.nd ((0:Int)≠4) (beS b (x.note 4 b.ln))) (beS b x)) (beS b x)
def beT (b:kd) (kn:List ByteArray) (c:oV) (nm:yv) (ln:yx) (d s:Int) (x:bf):T SR:=
 .br (!(x.err==0)) (beS b x) (.br (is ah b) (beC b kn c d s x) (.br (is aC b) (beY b nm ln x) (beN b x)))
def Xu (b:aw):kd:=(b.kind,b.name,b.fields,b.line,())
def mI (x:bf) (b:aw):dc:=dS b.kind b.fields (loc (x.note (j6 x.r b.kind b.name) b.line) [] (MF ae.zero) ([],[],()) ((0:Int),(0:Int),()) 0 0)
def Xt (x:bf) (b:aw):bf:=(x.note (j6 x.r b.kind b.name) b.line).setE (mI x b).e (mI x b).f
def beB (x:bf) (b:aw):T SR:=.nd (b.name.size≤9223372036854775807) (.nd (Xr (Xu b) [] 0) (.nd ((0:Int)≤0∧(0:Int)≤(aD b.kind).length)
 (beT (Xu b) (mI x b).known.reverse (MF (mI x b).c) ((mI x b).n0,(mI x b).n1,()) ((mI x b).l0,(mI x b).l1,()) (mI x b).digits (mI x b).seats ((Xt x b).setE (Xt x b).e (gd (mI x b).known.reverse.reverse (MF (mI x b).c).me b.line (aD b.kind) (Xt x b).er)))))
def Hm (x:bf) (b:aw):Prop:=b.name.size≤9223372036854775807∧b.fields.length≤1099511627776∧(∀f∈b.fields,LK b.kind f)∧x.rn.length≤1099511627776∧x.rc.length≤1099511627776∧x.rs.length≤1099511627776∧x.rm.length≤1099511627776∧x.rl.length≤1099511627776
theorem oc (k:ByteArray):∀(l:List ar) (y:dc),(dS k l y).e.cont=y.e.cont∧(dS k l y).e.styl=y.e.styl
 | [],_=>⟨rfl,rfl⟩
 | f::l,y=>by
  unfold dS;split
  ·exact⟨rfl,rfl⟩
  ·obtain⟨h1,h2⟩:=oc k l (aV k y f);obtain⟨h3,h4⟩:=wB k y f;exact⟨h1.trans h3,h2.trans h4⟩
theorem abG (x:bf) (b:aw):mI x b=dS b.kind b.fields (dc.start x.r b):=by
 unfold mI dc.start loc;have:=o9 x (j6 x.r b.kind b.name) b.line;show dS b.kind b.fields ⟨x.e,(x.note (j6 x.r b.kind b.name) b.line).er,[],ae.zero,[],[],0,0,0,0⟩=_;rw[this];rfl
section
variable {b:aw} {t:fe} (hn:t.seen.length≤1099511627776) (hc:t.e.cont.length≤1099511627776) (hs:t.e.styl.length≤1099511627776) (hm:t.names.length≤1099511627776) (hl:t.lines.length≤1099511627776)
include hn in
theorem sX:(beS (Xu b) (.ofR t)).hit (JU (.tup []) (.ofR { t with seen:=t.seen++[b.kind] })):=by
 refine⟨?_,?_⟩
 ·show(t.seen.reverse.length+1)*17≤_;rw[aaH];omega
 ·rw[show(Xu b).kind=b.kind from rfl,ad6];rfl
include hn hc in
theorem JN (c:ae):(be3 (Xu b) (MF c) (.ofR t)).hit (JU (.tup []) (.ofR { t with e:={ t.e with cont:=t.e.cont++[{ c with name:=b.name }] },seen:=t.seen++[b.kind] })):=by
 refine⟨?_,?_⟩
 ·show(t.e.cont.reverse.length+1)*97≤_;rw[aaH];omega
 ·rw[ad7];exact sX (t:={ t with e:={ t.e with cont:=t.e.cont++[{ c with name:=b.name }] } }) hn
include hn hc in
theorem JO (c:ae) (s:Int):(be2 (Xu b) (MF c) s (.ofR t)).hit (JU (.tup []) (.ofR { t with e:={ t.e with cont:=t.e.cont++[{ c with name:=b.name }] },seen:=t.seen++[b.kind],f:=t.f.note (if c.method=1∧1<c.seats then 4 else 0) s })):=by
 unfold be2;refine qi (F:=fun no=>JU (.tup []) (.ofR { t with e:={ t.e with cont:=t.e.cont++[{ c with name:=b.name }] },seen:=t.seen++[b.kind],f:=t.f.note no s })) (by show c.method=1∧1<c.seats↔(c.method==1)=true∧decide (c.seats>1)=true;simp) ⟨by decide,?_⟩ ?_
 ·rw[wU];exact JN (t:=t.note 4 s) hn hc c
 ·have:t.f.note 0 s=t.f:=if_neg fun q=>q.2 rfl;simp only[this];exact JN (t:=t) hn hc c
end
theorem Mj:gi Tryz.prog 63 [0] [(0,sT),(1,sBk)] [(0,sT)] fun((x:bf),(b:aw),_)=>.nd (Hm x b) (.lf (JU (.tup []) (.ofR (gp x.r b)))):=by
 refine kM (C:=C7) (pb:=[0]) (((nL _ _).add 0 _ Mg).add 1 _ Mf) 99 [(0,sT),(1,sBk)] [(0,sT)] (fun((x:bf),(b:aw),_)=>beB x b) ?_ Tryz.func63;rintro⟨(x:bf),(b:aw),_⟩ r tj ⟨⟨h1,h2,h3,h4,h5,h6,h7,h8⟩,hr⟩;obtain rfl:JU (.tup []) (.ofR (gp x.r b))=r:=hr;refine⟨h1,⟨by omega,by omega,rfl,h2,h3⟩,⟨by omega,by omega⟩,?_⟩;obtain⟨r1,r2⟩:=oc b.kind b.fields (dc.start x.r b);unfold gp;rw[←abG] at r1 r2 ⊢;have hX:(Xt x b).setE (Xt x b).e (gd (mI x b).known.reverse.reverse (MF (mI x b).c).me b.line (aD b.kind) (Xt x b).er)=.ofR ⟨(mI x b).e,x.seen,x.lines,x.names,gd (mI x b).known (mI x b).c.method b.line (aD b.kind) (mI x b).f⟩:=by
  rw[aap];have e1:Xt x b=.ofR ⟨(mI x b).e,x.seen,x.lines,x.names,(mI x b).f⟩:=oh (x.note (j6 x.r b.kind b.name) b.line) _ _ r1 r2;have e2:(Xt x b).e=(mI x b).e:=by
   rw[e1];have r2':(mI x b).e.styl=x.snm.map fun n=>⟨n,[],[]⟩:=r2;have Fw:(((ic (mI x b).e.styl).reverse.reverse).map fun n=>(⟨n,[],[]⟩:aj))=(mI x b).e.styl:=by
    rw[r2',aap,Bw]
   show(⟨(mI x b).e.title,(mI x b).e.dots,(mI x b).e.blank,(mI x b).e.marked,(mI x b).e.prec,(mI x b).e.cont.reverse.reverse,((ic (mI x b).e.styl).reverse.reverse).map fun n=>⟨n,[],[]⟩,(mI x b).e.scan,(mI x b).e.batch,(mI x b).e.risk,(mI x b).e.cell,(mI x b).e.seed⟩:aa)=_;rw[Fw,aap]
  rw[e2];exact oh (x.note (j6 x.r b.kind b.name) b.line) _ _ r1 r2
 rw[hX];have hn:x.seen.length≤1099511627776:=by show x.rn.reverse.length≤_;rw[aaH];exact h4
 have hc:(mI x b).e.cont.length≤1099511627776:=by rw[r1];show x.rc.reverse.length≤_;rw[aaH];exact h5
 have hs:(mI x b).e.styl.length≤1099511627776:=by rw[r2];show(x.rs.reverse.map _).length≤_;rw[ace,aaH];exact h6
 have hm:x.names.length≤1099511627776:=by show x.rm.reverse.length≤_;rw[aaH];exact h7
 have hl:x.lines.length≤1099511627776:=by show x.rl.reverse.length≤_;rw[aaH];exact h8
 clear hX r1 r2 h3 tj;have aeY:x.r.seen=x.seen:=rfl;have MC:x.r.names=x.names:=rfl;have BR:x.r.lines=x.lines:=rfl;generalize mI x b=y at*;unfold ug;simp only;rw[aeY,MC,BR];generalize gd y.known y.c.method b.line (aD b.kind) y.f=f;generalize x.seen=se at*;generalize x.names=na at*;generalize x.lines=li at*;unfold beT;by_cases h0:f.no≠0
 ·rw[if_pos h0];exact aZ (by rw[aco];exact beq_eq_false_iff_ne.2 h0) (sX (t:=⟨y.e,se,li,na,f⟩) hn)
 rw[if_neg h0];refine bh (by rw[Bool.not_eq_false'];exact beq_iff_eq.2 (Decidable.not_not.1 h0)) ?_;have ZG:∀k,is k (Xu b)=true↔b.kind=k:=fun k=>AT;by_cases h1:b.kind=ah
 ·rw[if_pos h1];refine aZ ((ZG _).2 h1) ?_;unfold beC;rw[aap];refine qi (F:=fun no=>JU (.tup []) (.ofR { e:={ y.e with cont:=y.e.cont++[{ y.c with name:=b.name }] },seen:=se++[b.kind],lines:=li,names:=na,f:=(f.note no y.digits).note (if y.c.method=1∧1<y.c.seats then 4 else 0) y.seats })) (by show bI y.known ay=true∧y.c.method≠2↔bI y.known ay=true∧(!(y.c.method==2))=true;simp) ⟨by decide,?_⟩ ?_
  ·rw[wU];exact JO (t:=(⟨y.e,se,li,na,f⟩:fe).note 5 y.digits) hn hc y.c y.seats
  ·have:f.note 0 y.digits=f:=if_neg fun q=>q.2 rfl;rw[this];exact JO (t:=⟨y.e,se,li,na,f⟩) hn hc y.c y.seats
 rw[if_neg h1];refine bh (by rw[acI];exact fun e=>h1 ((ZG _).1 e)) ?_;by_cases h2:b.kind=aC
 ·rw[if_pos h2];refine aZ ((ZG _).2 h2) ⟨?_,?_,?_,?_⟩
  ·show((ic y.e.styl).reverse.length+1)*65≤_;unfold ic;rw[aaH,ace];omega
  ·show(na.reverse.length+1)*49≤_;rw[aaH];omega
  ·show(li.reverse.length+1)*17≤_;rw[aaH];omega
  ·rw[show(Xu b).nm=(⟨b.name,[],[]⟩:aj).name from rfl,ad5,YX];exact sX (t:={ e:={ y.e with styl:=y.e.styl++[⟨b.name,[],[]⟩] },seen:=se,lines:=li++[(y.l0,y.l1)],names:=na++[(y.n0,y.n1)],f:=f }) hn
 rw[if_neg h2];refine bh (by rw[acI];exact fun e=>h2 ((ZG _).1 e)) ?_;unfold beN;by_cases h3:b.kind=aH∧y.e.marked<y.e.blank
 ·rw[if_pos h3];refine aZ ((ZG _).2 h3.1) (aZ (decide_eq_true h3.2) ⟨by decide,?_⟩);rw[wU];exact sX (t:=(⟨y.e,se,li,na,f⟩:fe).note 4 b.line) hn
 ·rw[if_neg h3];have eD:=sX (b:=b) (t:=⟨y.e,se,li,na,f⟩) hn;by_cases h4:b.kind=aH
  ·exact aZ ((ZG _).2 h4) (bh (decide_eq_false fun q=>h3 ⟨h4,q⟩) eD)
  ·exact bh (by rw[acI];exact fun e=>h4 ((ZG _).1 e)) eD
end Go.Proofs.YtdbpbfglhbiadaaGreatDoor
