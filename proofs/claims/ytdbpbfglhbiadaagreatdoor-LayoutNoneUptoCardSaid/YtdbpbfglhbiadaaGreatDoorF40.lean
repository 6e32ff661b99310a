/- La8 Open OpnB OpnW -/
import Derived.Test.YtdbpbfglhbiadaaGreatDoorF00
import Derived.Test.YtdbpbfglhbiadaaGreatDoorF34
import Derived.Test.YtdbpbfglhbiadaaGreatDoorF39
import Derived.Test.YtdbpbfglhbiadaaGreatDoorF01
import Derived.ProofKit
import Derived.Deep.Slices
import Derived.Deep.Fields
import Derived.ChangeSame
import Derived.Test.YtdbpbfglhbiadaaGreatDoorRows
import Derived.Test.YtdbpbfglhbiadaaGreatDoorF22
import Derived.Test.YtdbpbfglhbiadaaGreatDoorF15
import Derived.LaidMore
import Derived.OpenShut
import Derived.Stop.Joined
import Derived.SevenTiedAt
import Derived.Lay
import Derived.LaidOnce
import Derived.LaidLaws
import Derived.Lib.LaidU8
import Derived.Lib.AppendIntMem
import Derived.Carry
import Derived.ShutString
import Derived.ChangeOld
import Derived.Deep.DeepHandedRow
set_option maxHeartbeats 8000000
set_option maxRecDepth 100000
namespace Go.Proofs.YtdbpbfglhbiadaaGreatDoor
open Go Go.RowKit Go.ChangeShapes Go.WideShapes Go.Deep Go.ChangeAt Go.WideMaps Go.WideElems Go.ChangeMaps
noncomputable def Clf:gb Tryz.prog:=ci oQ [⟨_,_,_,ve⟩,⟨_,_,_,ub⟩,⟨_,_,_,wy⟩] []
noncomputable abbrev lfF:=Tryz.f8
noncomputable abbrev abU:Rg Tryz.prog lfF.ntmps:=vE Clf lfF
abbrev tgC:List CS:=[.d tI,.d tI,.d tI,.d tI,.d tI]
abbrev Zj:=dZ tgC
abbrev sTg:SS:=.box 60 tgC
abbrev ew.x (t:ew):Int:=t.2.2.2.1
abbrev ew.y (t:ew):Int:=t.2.2.2.2.1
def ik.dd (s:ik):Int:=s.2.2.2.2.1
def ik.w (s:ik):Int:=s.2.2.1
def ik.h (s:ik):Int:=s.2.2.2.1
def SmT (d:Int) (t:ew):Prop:=(3<=ew.x t/\ew.x t<=1000)/\(3<=ew.y t/\ew.y t<=1000)/\0<=d/\d<=7
def Qa (d:Int) (t u:ew):Prop:=2*d<=vF (ew.x t-ew.x u) (ew.x u-ew.x t)\/2*d<=vF (ew.y t-ew.y u) (ew.y u-ew.y t)
abbrev WO:List (Nat×SS):=[(5,sLv),(7,sI),(8,sTg),(9,sI),(47,sI),(48,sI)]
abbrev I6:List (Nat×SS):=[(5,sLv),(47,sI),(48,sI)]
abbrev TO:=LE WO I6 []
def MI (l:ik) (i:Int) (t:Zj) (k n j:Int):T TO:=.nd (bX (k+1)) (.lf (.back (l,i,t,k+1,n,j,())))
def agW (l:ik) (i:Int) (t:Zj) (k n j:Int) (u:ew):T TO:=.nd (bX (ew.x t-ew.x u)) (.nd (bX (ew.x u-ew.x t)) (.nd (bX (2*l.dd)) (.br (decide (vF (ew.x t-ew.x u) (ew.x u-ew.x t)<2*l.dd)) (.nd (bX (ew.y t-ew.y u)) (.nd (bX (ew.y u-ew.y t)) (.nd (bX (2*l.dd)) (.br (decide (vF (ew.y t-ew.y u) (ew.y u-ew.y t)<2*l.dd)) (.lf (.ret (.one (.val (.bool false))) ())) (MI l i t k n j))))) (MI l i t k n j))))
def WM (l:ik) (i:Int) (t:Zj) (k n j:Int):T TO:=.br (decide (k<i)) (.nd (0<=k/\k<l.ts.length) (agW l i t k n j (l.ts.getD k.toNat ew.z))) (.lf (.out (l,n,j,())))
def WN (l:ik) (i:Int) (t:Zj) (k:Int):Prop:=0<=k/\k<=i/\i<=l.ts.length/\l.ts.length<=1000/\SmT l.dd t/\(∀u∈l.ts,SmT l.dd u)/\∀m:Nat,(m:Int)<i->Qa l.dd t (l.ts.getD m ew.z)
theorem WJ:eD abU 1 2 WO I6 [] λ((l:ik),(i:Int),(t:Zj),(k:Int),(n:Int),(j:Int),_)=>.nd (WN l i t k) (.lf (.out (l,n,j,()))):=by
 refine eI _ (nL _ _) 99 1 2 WO I6 [] (λ((l:ik),(i:Int),(t:Zj),(k:Int),(n:Int),(j:Int),_)=>WM l i t k n j) (λ(_,(i:Int),_,(k:Int),_,_,_)=>(i-k).toNat) ?_;rintro⟨(l:ik),(i:Int),(t:Zj),(k:Int),(n:Int),(j:Int),_⟩ r _ ⟨⟨h0,h1,h2,h3,h4,h5,h6⟩,hr⟩;obtain rfl:(LE.out (l,n,j,()):TO)=r:=hr;show∃q,(WM l i t k n j).hit q/\_;unfold WM;by_cases hk:k<i
 ·obtain⟨u,hu⟩:∃u,l.ts.getD k.toNat ew.z=u:=⟨_,rfl⟩;have hap:=h6 k.toNat (by omega);have hsm:=h5 u (by rw[<-hu,aac,aaa (by omega)];exact aaG _);rw[hu] at hap ⊢;obtain⟨g1,g2,g3,g4⟩:=h4;obtain⟨f1,f2,_⟩:=hsm;have hb:(MI l i t k n j).hit (.back (l,i,t,k+1,n,j,())):=⟨⟨by omega,by omega⟩,rfl⟩;refine⟨.back (l,i,t,k+1,n,j,()),aH (decide_eq_true hk) ⟨⟨h0,by omega⟩,⟨by omega,by omega⟩,⟨by omega,by omega⟩,⟨by omega,by omega⟩,?_⟩,?_,⟨by omega,by omega,h2,h3,⟨g1,g2,g3,g4⟩,h5,h6⟩,rfl⟩
  ·by_cases hx:vF (ew.x t-ew.x u) (ew.x u-ew.x t)<2*l.dd
   ·refine aH (decide_eq_true hx) ⟨⟨by omega,by omega⟩,⟨by omega,by omega⟩,⟨by omega,by omega⟩,aP (decide_eq_false ?_) hb⟩;rcases hap with h|h<;>omega
   ·exact aP (decide_eq_false hx) hb
  ·show(i-(k+1)).toNat<(i-k).toNat;omega
 ·exact⟨.out (l,n,j,()),aP (decide_eq_false hk) rfl,rfl⟩
abbrev WQ:List (Nat×SS):=[(5,sLv)]
abbrev TP:=LE I6 WQ []
def Gj:T TP:=.lf (.ret (.one (.val (.bool false))) ())
def agX (l:ik) (n j:Int) (t:ew):T TP:=.br (decide (ew.x t<3)) Gj (.br (decide (ew.y t<3)) Gj (.nd (bX (ew.x t+l.dd)) (.nd (bX (ew.x t+l.dd+3)) (.br (decide (ew.x t+l.dd+3>l.w)) Gj (.nd (bX (ew.y t+l.dd)) (.nd (bX (ew.y t+l.dd+3)) (.br (decide (ew.y t+l.dd+3>l.h)) Gj (.nd (WN l j t 0) (.nd (bX (j+1)) (.lf (.back (l,n,j+1,()))))))))))))
def WP (l:ik) (n j:Int):T TP:=.br (decide (j<n)) (.nd (0<=j/\j<l.ts.length) (agX l n j (l.ts.getD j.toNat ew.z))) (.lf (.out (l,())))
structure ZE (l:ik):Prop where
 len:l.ts.length<=1000
 sm:∀u∈l.ts,SmT l.dd u
 x:∀u∈l.ts,ew.x u+l.dd+3<=l.w
 y:∀u∈l.ts,ew.y u+l.dd+3<=l.h
 ap:∀i m:Nat,i<l.ts.length->m<i->Qa l.dd (l.ts.getD i ew.z) (l.ts.getD m ew.z)
theorem WL:eD abU 0 0 I6 WQ [] λ((l:ik),(n:Int),(j:Int),_)=>.nd (0<=j/\j<=l.ts.length/\n=l.ts.length/\ZE l) (.lf (.out (l,()))):=by
 refine eI _ ((nL _ _).add 1 _ WJ) 99 0 0 I6 WQ [] (λ((l:ik),(n:Int),(j:Int),_)=>WP l n j) (λ((l:ik),_,(j:Int),_)=>l.ts.length-j.toNat) ?_;rintro⟨(l:ik),(n:Int),(j:Int),_⟩ r _ ⟨⟨h0,h1,rfl,hf⟩,hr⟩;obtain⟨k,rfl⟩:∃k:Nat,j=k:=⟨j.toNat,by omega⟩;obtain rfl:(LE.out (l,()):TP)=r:=hr;show∃q,(WP l l.ts.length k).hit q/\_;unfold WP;rw[aae];by_cases hk:k<l.ts.length
 ·obtain⟨u,hu⟩:∃u,l.ts.getD k ew.z=u:=⟨_,rfl⟩;have hm:u∈l.ts:=by rw[<-hu,aac,aaa hk];exact aaG _
  have hs:=hf.sm u hm;have hx:=hf.x u hm;have hy:=hf.y u hm;have hl:=hf.len;rw[hu];have hn:WN l k u 0:=⟨by omega,by omega,by omega,hl,hs,hf.sm,λm hmk=>by have:=hf.ap k m hk (by omega);rwa [hu] at this⟩;obtain⟨g1,g2,g3,g4⟩:=hs;exact⟨.back (l,(l.ts.length:Int),(k:Int)+1,()),aH (decide_eq_true (by omega)) ⟨⟨by omega,by omega⟩,aP (decide_eq_false (by omega)) (aP (decide_eq_false (by omega)) ⟨⟨by omega,by omega⟩,⟨by omega,by omega⟩,aP (decide_eq_false (by omega)) ⟨⟨by omega,by omega⟩,⟨by omega,by omega⟩,aP (decide_eq_false (by omega)) ⟨hn,⟨by omega,by omega⟩,rfl⟩⟩⟩)⟩,(by show l.ts.length-(k+1)<l.ts.length-k;omega),⟨by omega,by omega,rfl,hf⟩,rfl⟩
 ·exact⟨.out (l,()),aP (decide_eq_false (by omega)) rfl,rfl⟩
theorem E8 {d:Int} (hd:0<=d) {k j r row k' j' r' ii:Int} (h:r≠r'\/row≠ii):Qa d (PF d k j r row) (PF d k' j' r' ii):=by
 have key:∀{a b:Int} (x y:Int),x=3+2*d*a->y=3+2*d*b->a≠b->2*d<=vF (x-y) (y-x):=by
  intro a b x y hx hy N9;have hq:2*d<=x-y\/2*d<=y-x:=by
   rcases Int.lt_or_gt_of_ne N9 with h|h
   ·right
    have:=adJ (show a+1<=b from h) (show 0<=2*d by omega);rw[Int.mul_add,Int.mul_one] at this;omega
   ·left
    have:=adJ (show b+1<=a from h) (show 0<=2*d by omega);rw[Int.mul_add,Int.mul_one] at this;omega
  unfold vF;split<;>omega
 rcases h with h|h
 ·exact .inl (key _ _ rfl rfl (show 2+r≠2+r' by omega))
 ·exact .inr (key _ _ rfl rfl h)
theorem oO {d k ca row:Int} {t:ew}:∀{n:Nat} {r:Int},t∈tl d k ca row n r->∃r',r<=r'/\r'<r+n/\t=PF d k ca r' row
 | 0,_,h=>by cases h
 | n+1,r,h=>by
  rcases aas.1 h with rfl|h
  ·exact⟨r,by omega,by omega,rfl⟩
  ·obtain⟨r',h1,h2,h3⟩:=oO h;exact⟨r',by omega,by omega,h3⟩
theorem Fx {d:Int} (hd:0<=d) (k ca row:Int):∀(n:Nat) (r:Int),(tl d k ca row n r).Pairwise (Qa d)
 | 0,_=>.nil
 | n+1,r=>.cons (λu hu=>by
  obtain⟨r',h1,_,rfl⟩:=oO hu;exact E8 hd (.inl (by omega))) (Fx hd k ca row n (r+1))
theorem ni {d k q:Int} {t:ew}:∀{n:Nat} {j row:Int},t∈lG d k q n j row->∃j' r' ii,row<ii/\ii<=row+n/\0<=r'/\r'<q/\t=PF d k j' r' ii
 | 0,_,_,h=>by cases h
 | n+1,j,row,h=>by
  rcases aaH.1 h with h|h
  ·obtain⟨r',h1,h2,h3⟩:=oO h;exact⟨j,r',row+1,by omega,by omega,by omega,by omega,h3⟩
  ·obtain⟨j',r',ii,h1,h2,h3,h4,h5⟩:=ni h;exact⟨j',r',ii,by omega,by omega,h3,h4,h5⟩
theorem Ci {d:Int} (hd:0<=d) (k q:Int):∀(n:Nat) (j row:Int),(lG d k q n j row).Pairwise (Qa d)
 | 0,_,_=>.nil
 | n+1,j,row=>List.pairwise_append.2 ⟨Fx hd _ _ _ _ _,Ci hd k q n _ _,λt ht u hu=>by
  obtain⟨r',_,_,rfl⟩:=oO ht;obtain⟨j',s',ii,h1,_,_,_,rfl⟩:=ni hu;exact E8 hd (.inr (by omega))⟩
theorem Mh (c v:Int):c<=vF c v/\v<=vF c v:=by unfold vF;split<;>omega
theorem Cd (cs:List ae):∀(ks:List Int) (c:Int),c<=gp cs ks c
 | [],_=>Int.le_refl _
 | _::ks,c=>Int.le_trans (Mh c _).1 (Cd cs ks _)
theorem Ay (cs:List ae):∀(ks:List Int) (row:Int),row<=fI cs ks row
 | [],_=>Int.le_refl _
 | k::ks,c=>by
  have:=Ay cs ks (c+(cs.getD k.toNat ae.z0).cands.length+1);rw[fI];omega
theorem qN {cs:List ae} {d:Int} {t:ew}:∀{ks:List Int} {row c:Int},t∈i6 cs d ks row->∃k' j' r' ii,row<ii/\ii<=fI cs ks row/\0<=r'/\2+r'<gp cs ks c/\t=PF d k' j' r' ii
 | [],_,_,h=>by cases h
 | k::ks,row,c,h=>by
  rw[i6] at h;rw[fI,gp];rcases aaH.1 h with h|h
  ·obtain⟨j',r',ii,h1,h2,h3,h4,h5⟩:=ni h;have g1:=Ay cs ks (row+(cs.getD k.toNat ae.z0).cands.length+1);have g2:=Cd cs ks (vF c (2+(cs.getD k.toNat ae.z0).ranks));have g3:=(Mh c (2+(cs.getD k.toNat ae.z0).ranks)).2;exact⟨k,j',r',ii,h1,by omega,h3,by omega,h5⟩
  ·obtain⟨k',j',r',ii,h1,h2,h3,h4,h5⟩:=qN (c:=vF c (2+(cs.getD k.toNat ae.z0).ranks)) h;exact⟨k',j',r',ii,by omega,h2,h3,h4,h5⟩
theorem BW {d:Int} (hd:0<=d) (cs:List ae):∀(ks:List Int) (row:Int),(i6 cs d ks row).Pairwise (Qa d)
 | [],_=>.nil
 | k::ks,row=>List.pairwise_append.2 ⟨Ci hd _ _ _ _ _,BW hd cs ks _,λt ht u hu=>by
  obtain⟨_,_,_,_,h2,_,_,rfl⟩:=ni ht;obtain⟨_,_,_,_,h3,_,_,_,rfl⟩:=qN (c:=0) hu;exact E8 hd (.inr (by omega))⟩
theorem Qa.symm {d:Int} {t u:ew} (h:Qa d t u):Qa d u t:=by
 have e:∀a b:Int,vF a b=vF b a:=λa b=>by unfold vF;split<;>split<;>omega
 rcases h with h|h
 ·exact .inl (by rw[e];exact h)
 ·exact .inr (by rw[e];exact h)
theorem ML {e:aa} (hf:vA e) {p:Int} (h0:0<=p) (h1:p<e.prec.length):ZE (my e p)/\(ik.w (my e p))<=512/\(ik.h (my e p))<=512:=by
 obtain⟨hs,hy⟩:=yb hf h0 h1;have hc:=pF hf;have hr:=tC hc (row:=0) hy.cont;have hw:=uW hc (c:=7) hy.cont (by omega);have hl:=hy.lcont;have hr:0<=fI e.cont (dA e p) 0/\fI e.cont (dA e p) 0<=0+8*(dA e p).length:=hr;have hl:(dA e p).length<=4:=hl.2;have hw:7<=gp e.cont (dA e p) 7/\gp e.cont (dA e p) 7<=9:=hw;have hd:=hf.dots;have ux:∀u∈(ik.ts (my e p)),∃k' j' r' ii,0<ii/\ii<=fI e.cont (dA e p) 0/\0<=r'/\2+r'<gp e.cont (dA e p) 7/\u=PF e.dots k' j' r' ii:=λu hu=>qN hu;have hW:(ik.w (my e p))=6+2*e.dots*gp e.cont (dA e p) 7:=rfl;have hH:(ik.h (my e p))=6+2*e.dots*(fI e.cont (dA e p) 0+1):=rfl;have hD:(ik.dd (my e p))=e.dots:=rfl;have yV:=MK hf h0 h1;have yV:(ik.ts (my e p)).length<=196:=yV;have hap:(ik.ts (my e p)).Pairwise (Qa (ik.dd (my e p))):=BW (show(0:Int)<=e.dots by omega) _ _ _;generalize (my e p)=L at*;generalize fI e.cont (dA e p) 0=R at*;generalize gp e.cont (dA e p) 7=C at*;rw[hD] at hap;generalize e.dots=d at*;have q:∀{a b:Int},a<=b->2*d*a<=2*d*b:=λh=>adJ h (by omega);have q1:∀{a:Int} (b:Int),0<=a->a<=b->0<=b->2*d*a<=14*b:=λb h1 h2 h3=>Int.mul_le_mul (by omega) h2 h1 (by omega);have key:∀u∈(ik.ts L),(3<=ew.x u/\ew.x u+d+3<=(ik.w L))/\(3<=ew.y u/\ew.y u+d+3<=(ik.h L)):=λu hu=>by
  obtain⟨k',j',r',ii,g1,g2,g3,g4,rfl⟩:=ux u hu;have a1:=q (show 2+r'+1<=C by omega);have a2:=q (show ii+1<=R+1 by omega);have a3:=q (show 0<=2+r' by omega);have a4:=q (show 0<=ii by omega);rw[Int.mul_add (2*d) (2+r') 1,Int.mul_one] at a1;rw[Int.mul_add (2*d) ii 1,Int.mul_one] at a2;rw[Int.mul_zero] at a3 a4;show(3<=3+2*d*(2+r')/\3+2*d*(2+r')+d+3<=(ik.w L))/\(3<=3+2*d*ii/\3+2*d*ii+d+3<=(ik.h L));rw[hW,hH];generalize 2*d*(2+r')=A at*;generalize 2*d*ii=B at*;omega
 have b1:=q1 9 (show 0<=C by omega) hw.2 (by omega);have b2:=q1 33 (show 0<=R+1 by omega) (by omega) (by omega);have hW5:(ik.w L)<=512:=by rw[hW];omega
 have hH5:(ik.h L)<=512:=by rw[hH];omega
 refine⟨⟨by omega,λu hu=>?_,λu hu=>?_,λu hu=>?_,λi m hi hm=>?_⟩,hW5,hH5⟩
 ·obtain⟨k1,k2⟩:=key u hu;exact⟨by omega,by omega,by omega⟩
 ·obtain⟨k1,k2⟩:=key u hu;omega
 ·obtain⟨k1,k2⟩:=key u hu;omega
 ·rw[aac,aac,aaa hi,aaa (by omega),hD];exact(List.pairwise_iff_getElem.1 hap m i (by omega) hi hm).symm
theorem I7 {e:aa} (hf:vA e) {p:Int} (h0:0<=p) (h1:p<e.prec.length):0<(ik.ts (my e p)).length:=by
 obtain⟨hs,hy⟩:=yb hf h0 h1;have hc:=pF hf;have hl:1<=(dA e p).length:=hy.lcont.1;have hcn:∀k∈dA e p,0<=k/\k<e.cont.length:=hy.cont;show 0<(i6 e.cont e.dots (dA e p) 0).length;generalize dA e p=ks at*
 match ks,hl,hcn with
 | k::ks,_,hcn=>
  have hk:=hcn k aah;have hx:=hc (e.cont.getD k.toNat ae.z0) (by rw[aac,aaa (by omega)];exact aaG _);have hq:1*1<=(e.cont.getD k.toNat ae.z0).cands.length*(e.cont.getD k.toNat ae.z0).ranks.toNat:=Nat.mul_le_mul hx.2.1 (by have:=hx.1.1;omega);rw[i6,aaj,nj];omega
def Uy (e:aa) (p:Int):T XV:=.nd (du e/\cf e) (.br (!j2 e) (.lf (aB true)) (.nd (du e/\cf e) (.br (!(o6 e p==0)) (.br true (.lf (aB (((ik.ts (kd e p)).length:Int)==0))) (.lf (aB false))) (.br (decide ((ik.w (kd e p))>512)) (.lf (aB false)) (.br (decide ((ik.h (kd e p))>512)) (.lf (aB false)) (.br (!((ik.dd (kd e p))==e.dots)) (.lf (aB false)) (.nd ((0:Int)<=0/\(0:Int)<=(ik.ts (kd e p)).length/\((ik.ts (kd e p)).length:Int)=(ik.ts (kd e p)).length/\ZE (kd e p)) (.br true (.lf (aB (decide (((ik.ts (kd e p)).length:Int)>0)))) (.lf (aB false))))))))))
theorem lawFit_ok:au Tryz.prog 8 false (aD [(0,.st 5),(1,sI)] λ((e:aa),(_:Int),_)=>.nd (du e/\cf e) (.lf (aB true))):=
 bg (C:=Clf) ((nL _ _).add 0 _ WL) false 99 [(0,.st 5),(1,sI)] (λ((e:aa),(p:Int),_)=>Uy e p)
  (λ⟨(e:aa),(p:Int),_⟩ r _ ⟨h0,h⟩=>by
   obtain rfl:aB true=r:=h;refine⟨?_,.inr rfl⟩;show(Uy e p).hit (aB true);refine⟨h0,?_⟩;have Xn:=valid_eq e;cases hv:j2 e with
   | false=>exact aH rfl rfl
   | true=>
    rw[hv] at Xn;refine aP rfl ⟨h0,?_⟩;by_cases h1:o6 e p=0
    ·have h2:kd e p=my e p:=by unfold kd;rw[h1];rfl
     have h3:0<=p/\p<e.prec.length:=by
      unfold o6 at h1;rw[<-Xn,if_neg (by decide)] at h1;by_cases h:p<0\/(e.prec.length:Int)<=p
      ·rw[if_pos h] at h1;cases h1
      ·omega
     have hf:=Ft Xn.symm;obtain⟨f1,f2,f3⟩:=ML hf h3.1 h3.2;have f4:=I7 hf h3.1 h3.2;have f5:(ik.dd (my e p))=e.dots:=rfl;rw[h1,h2,f5];exact aP rfl (aP (decide_eq_false (by omega)) (aP (decide_eq_false (by omega)) (aP (by simp) ⟨⟨by omega,by omega,rfl,f1⟩,aH rfl (congrArg aB (decide_eq_true (by omega)))⟩)))
    ·have h2:kd e p=MM:=by unfold kd;rw[if_neg h1]
     rw[h2];exact aH (by simpa using h1) (aH rfl rfl)) Tryz.func8
theorem lawFit_any {W:World} {B:Nat} (hT:Kd B W) (hB:B<=W.heap.size) {v:Value} {e:aa} {p:Int} (h:SV W (λb=>b<W.heap.size) v e) (he:du e/\cf e):Calls Tryz.prog 8 #[v,.int .i64 p] W (iT W (.bool true)):=
 lawFit_ok.retVL (xs:=[.agg (jV (.st 5) e),aI p]) (vs:=[v,.int .i64 p]) ⟨B,hB,hT⟩ (λ_ h=>h) (.cons (h.xr 5) (.cons ⟨rfl,rfl⟩ .nil)) (⟨he,rfl⟩:(T.nd (du e/\cf e) (.lf (aB true))).hit (aB true))
class Fits (α:Type) where
 fits:α->Prop
instance:Fits Int:=⟨λx=>-9223372036854775808<=x/\x<=9223372036854775807⟩
instance:Fits Bool:=⟨λ_=>True⟩
instance:Fits UInt8:=⟨λ_=>True⟩
instance:Fits ByteArray:=⟨λs=>s.size<=9223372036854775807⟩
instance instFitsL {α:Type} [Fits α]:Fits (List α):=⟨λl=>l.length<=9223372036854775807/\∀x∈l,Fits.fits x⟩
theorem BG {α:Type} (n:Nat) (p:Nat->α->Prop) (h:∀i,i<n->∃a,p i a):∃l:List α,l.length=n/\∀i a,l[i]?=some a->p i a:=by
 induction n with
 | zero=>exact⟨[],rfl,λi a hi=>by simp at hi⟩
 | succ n ih=>
  obtain⟨l,hl,hp⟩:=ih (λi hi=>h i (by omega));obtain⟨a,ha⟩:=h n (by omega);refine⟨l++[a],by simp[hl],λi b hi=>?_⟩;rw[List.getElem?_append] at hi;split at hi
  ·exact hp i b hi
  ·have:i=n:=by
    rcases Nat.lt_or_ge (i-l.length) 1 with h|h
    ·omega
    ·rw[aaE (by simpa using h)] at hi;cases hi
   subst this;rw[hl,aek] at hi;simp at hi;subst hi;exact ha
class aN (α:Type) where
 bulk:α->Nat
 pos:∀a,1<=bulk a
instance:aN Int:=⟨λ_=>1,λ_=>aam _⟩
instance:aN Bool:=⟨λ_=>1,λ_=>aam _⟩
instance:aN UInt8:=⟨λ_=>1,λ_=>aam _⟩
instance:aN (BitVec 32):=⟨λ_=>1,λ_=>aam _⟩
instance:aN ByteArray:=⟨λs=>s.size+1,λ_=>adZ _ _⟩
def iG {α:Type} [aN α] (l:List α):Nat:=(l.map aN.bulk).sum
instance {α:Type} [aN α]:aN (List α):=⟨λl=>iG l+1,λ_=>adZ _ _⟩
instance:Fits (BitVec 32):=⟨λ_=>True⟩
theorem Cm {α:Type} [aN α] (l:List α):l.length<=iG l:=by
 induction l with
 | nil=>exact aam _
 | cons a l ih=>
  have:=aN.pos a;show l.length+1<=aN.bulk a+iG l;omega
theorem Cl {α:Type} [aN α] {l:List α} {a:α} (h:a∈l):aN.bulk a<=iG l:=by
 induction l with
 | nil=>cases h
 | cons b l ih=>
  show _<=aN.bulk b+iG l;rcases aas.1 h with rfl|h
  ·omega
  ·have:=ih h;omega
def fc (P:Program) (t:TypeId) (α:Type) [ay α] [Fits α] [aN α]:Prop:=
 ∀(H:Type) (enc:TypeId×Value->H) (w:World) (base:Nat) (spare:Nat->Bool) (held:Bool) (fuel:Nat) (cs:List Value) (x:DataW H×List MemPlace),
  DataW.trod enc P w base spare held fuel t cs=some x->∃a:α,ay.rep w (λb=>b<w.heap.size) cs a/\Fits.fits a/\aN.bulk a<=Rows.uptoBulk x.1
theorem D2 {P:Program} {t:TypeId} (ht:P.underlying t=some (.int .i64)):fc P t Int:=by
 intro H enc w base spare held fuel cs x h;obtain⟨n,rfl,rfl,hw⟩:=DataW.trod_int ht h;have hw':-9223372036854775808<=n/\n<=9223372036854775807:=by simpa[Lit.wf,IntKind.min,IntKind.max,IntKind.signed,IntKind.bits] using hw
 exact⟨n,rfl,hw',by simp[Rows.uptoBulk,aN.bulk]⟩
theorem AN {P:Program} {t:TypeId} (ht:P.underlying t=some .bool):fc P t Bool:=by
 intro H enc w base spare held fuel cs x h;obtain⟨n,rfl,rfl⟩:=DataW.trod_bool ht h;exact⟨n,rfl,trivial,by simp[Rows.uptoBulk,aN.bulk]⟩
theorem vX {P:Program} {t:TypeId} (ht:P.underlying t=some .string):fc P t ByteArray:=by
 intro H enc w base spare held fuel cs x h;obtain⟨s,rfl,rfl,hs⟩:=DataW.trod_string ht h;exact⟨s,rfl,by unfold maxLen at hs;exact hs,by simp[Rows.uptoBulk,aN.bulk]⟩
theorem AM {P:Program} {t:TypeId} (ht:P.underlying t=some (.int .u32)):fc P t (BitVec 32):=by
 intro H enc w base spare held fuel cs x h;obtain⟨n,rfl,rfl,hw⟩:=DataW.trod_int ht h;have hb:0<=n/\n<=4294967295:=by simpa[Lit.wf,IntKind.min,IntKind.max,IntKind.signed,IntKind.bits] using hw
 refine⟨BitVec.ofNat 32 n.toNat,?_,trivial,by simp[Rows.uptoBulk,aN.bulk]⟩;show[Value.int .u32 n]=[Value.int .u32 ((BitVec.ofNat 32 n.toNat).toNat:Int)];rw[BitVec.toNat_ofNat];congr 2
 omega
theorem u5 {α H:Type} [aN α]:∀(n:Nat) (l:List α) (D:Nat->DataW H),l.length=n->(∀i a,l[i]?=some a->aN.bulk a<=Rows.uptoBulk (D i))->iG l<=Rows.uptoBulkAll ((List.range n).map D)
 | 0,l,D,hl,_=>by
  have:=aaw hl;subst this;exact aaS _
 | n+1,l,D,hl,h=>by
  cases l with
  | nil=>cases hl
  | cons a l=>
   rw[List.range_succ_eq_map,abH,List.map_map];show aN.bulk a+iG l<=Rows.uptoBulk (D 0)+Rows.uptoBulkAll ((List.range n).map (D∘Nat.succ));have h1:=h 0 a rfl;have h2:=u5 n l (D∘Nat.succ) (by simpa using hl) (λi b hb=>h (i+1) b (by simpa using hb));omega
theorem gS {P:Program} {t e:TypeId} {α:Type} [ay α] [Fits α] [aN α] (ht:P.underlying t=some (.slice e)) (iL:P.cellsOf e=ay.sz α) (hp:0<ay.sz α) (he:fc P e α):fc P t (List α):=by
 intro H enc w base spare held fuel cs x h;rcases open_slice ht h with⟨rfl,rfl⟩|⟨a,len,cap,m,n,D,Pl,rfl,_,hl,hm,hmm,rfl,hi⟩
 ·exact⟨[],⟨none,0,0,rfl,RS.nil _ _⟩,⟨aaS _,λx hx=>by simp at hx⟩,by simp[Rows.uptoBulk,aN.bulk,iG]⟩
 ·have hlm:len<=m:=by rw[hmm];split<;>omega
  obtain⟨l,bm,hl2⟩:=BG (α:=α) len (λi x=>(∃cs,ay.rep w (λb=>b<w.heap.size) cs x/\bT w (a.add (i*ay.sz α)) cs/\Fits.fits x)/\aN.bulk x<=Rows.uptoBulk (D i)) (λi Ko=>by
   obtain⟨gP,hc,R4⟩:=hi i (by omega);obtain⟨x,hx,hf,pn⟩:=he H enc w base spare held n gP _ R4;rw[iL] at hc;obtain⟨_,rY,km⟩:=World.cells?_some hc;refine⟨x,⟨gP,hx,λj u hj=>?_,hf⟩,pn⟩;have XI:j<ay.sz α:=by
    have:=m0 hj;omega
   rw[km j XI];exact hj)
  refine⟨l,⟨some a,len,cap,rfl,bm.symm,hl,hm,λhn=>?_⟩,⟨by unfold maxLen at hm;omega,λx hx=>?_⟩,?_⟩
  ·obtain⟨x0,ia⟩:∃x0,l[0]?=some x0:=⟨l[0]'(by omega),aaa (by omega)⟩;obtain⟨⟨uT,zK,NY,_⟩,_⟩:=hl2 0 x0 ia;have amt:=ay.len zK;obtain⟨u,hu⟩:∃u,uT[0]?=some u:=⟨uT[0]'(by omega),aaa (by omega)⟩;have eC:=NY 0 u hu;have NW:w.cell? a=some u:=by simpa[Addr.add] using eC
   have hs:=Ih NW;have hb:=World.block_lt_of_cell? w _ NW;obtain⟨b,o,s⟩:=a;simp at hs;subst hs;exact⟨b,o,rfl,hb,λi x hx=>by obtain⟨⟨cs,h1,h2,_⟩,_⟩:=hl2 i x hx;exact⟨cs,h1,h2⟩⟩
  ·obtain⟨i,Ko,rfl⟩:=List.getElem_of_mem hx;obtain⟨⟨cs,_,_,hf⟩,_⟩:=hl2 i _ (aaa Ko);exact hf
  ·have:=u5 (H:=H) len l D bm (λi a ha=>(hl2 i a ha).2);show iG l+1<=Rows.uptoBulkAll ((List.range len).map D)+Rows.uptoBulkAll _+1;omega
theorem bU {P:Program} {H:Type} {enc:TypeId×Value->H} {w:World} {base:Nat} {spare:Nat->Bool} {held:Bool} {n:Nat} {fs:Array Field} {cs:List Value} {xs:List (DataW H×List MemPlace)} (hf:∀(i:Nat) (f:Field),fs[i]?=some f->DataW.trod enc P w base spare held n f.type ((cs.drop f.offset).take (P.cellsOf f.type))=xs[i]?) (i:Nat) {f:Field} (hi:fs[i]?=some f) (k m:Nat) (ho:f.offset=k) (hc:P.cellsOf f.type=m) (l:List Value) (hl:(cs.drop k).take m=l) (y:DataW H×List MemPlace) (hy:xs[i]?=some y):DataW.trod enc P w base spare held n f.type l=some y:=by
 have h:=hf i f hi;rw[ho,hc,hl,hy] at h;exact h
theorem aG {α:Type} {n:Nat} {l:List α} (h:l.length=n+1):∃v m,l=v::m/\m.length=n:=by
 cases l with
 | nil=>cases h
 | cons v m=>exact⟨v,m,rfl,by simpa using h⟩
theorem Tryz.opbInt:fc Tryz.prog 3 Int:=D2 Tryz.underlying3
theorem Tryz.opbBool:fc Tryz.prog 4 Bool:=AN Tryz.underlying4
theorem Tryz.opbStr:fc Tryz.prog 9 ByteArray:=vX Tryz.underlying9
theorem Tryz.opbLimb:fc Tryz.prog 172 (BitVec 32):=AM Tryz.underlying172
theorem Tryz.opbInts:fc Tryz.prog 40 (List Int):=gS Tryz.underlying40 (by kernel_rfl) (by show 0<1;omega) Tryz.opbInt
theorem Tryz.opbStrs:fc Tryz.prog 22 (List ByteArray):=gS Tryz.underlying22 (by kernel_rfl) (by show 0<1;omega) Tryz.opbStr
theorem Tryz.opbNat:fc Tryz.prog 26 (List (BitVec 32)):=gS Tryz.underlying26 (by kernel_rfl) (by show 0<1;omega) Tryz.opbLimb
instance:Fits Raw:=⟨λx=>Fits.fits x.neg/\Fits.fits x.num/\Fits.fits x.den⟩
instance:aN Raw:=⟨λx=>aN.bulk x.neg+aN.bulk x.num+aN.bulk x.den+1,λ_=>adZ _ _⟩
theorem Tryz.opbRisk:fc Tryz.prog 28 Raw:=by
 intro H enc w base spare held fuel cs x h;obtain⟨xs,n,_,rfl,hl,nA,hf⟩:=DataW.trod_struct Tryz.underlying28 h;have hC:Tryz.prog.cellsOf 28=3:=by kernel_rfl
 have Yk:xs.length=3:=nA;have Sw:cs.length=3:=hl.trans hC;clear nA hl hC;obtain⟨c0,cs,rfl,Yg⟩:=aG Sw;obtain⟨c1,cs,rfl,Yf⟩:=aG Yg;obtain⟨c2,cs,rfl,Ye⟩:=aG Yf;obtain rfl:=aaw Ye;obtain⟨y0,xs,rfl,Yj⟩:=aG Yk;obtain⟨y1,xs,rfl,Yi⟩:=aG Yj;obtain⟨y2,xs,rfl,Yh⟩:=aG Yi;obtain rfl:=aaw Yh;have Yp:=bU hf 0 rfl 0 1 rfl (by kernel_rfl) [c0] rfl y0 rfl;obtain⟨x0,e0,f0,b0⟩:=Tryz.opbBool _ _ _ _ _ _ _ _ _ Yp;obtain rfl:c0=.bool x0:=by injection e0
 have Yo:=bU hf 1 rfl 1 1 rfl (by kernel_rfl) [c1] rfl y1 rfl;obtain⟨x1,⟨A1,n1,k1,e1,r1⟩,f1,b1⟩:=Tryz.opbNat _ _ _ _ _ _ _ _ _ Yo;obtain rfl:c1=.slice A1 n1 k1:=by injection e1
 have Yn:=bU hf 2 rfl 2 1 rfl (by kernel_rfl) [c2] rfl y2 rfl;obtain⟨x2,⟨A2,n2,k2,e2,r2⟩,f2,b2⟩:=Tryz.opbNat _ _ _ _ _ _ _ _ _ Yn;obtain rfl:c2=.slice A2 n2 k2:=by injection e2
 refine⟨⟨x0,x1,x2⟩,⟨A1,n1,k1,A2,n2,k2,rfl,r1,r2⟩,⟨f0,f1,f2⟩,?_⟩;show aN.bulk x0+aN.bulk x1+aN.bulk x2+1<=Rows.uptoBulkAll [y0.1,y1.1,y2.1]+1;simp only[Rows.uptoBulkAll];omega
instance:Fits ae:=⟨λx=>Fits.fits x.name/\Fits.fits x.cands/\Fits.fits x.method/\Fits.fits x.seats/\Fits.fits x.ranks/\Fits.fits x.digits/\Fits.fits x.ties/\Fits.fits x.over/\Fits.fits x.skip⟩
instance:aN ae:=⟨λx=>aN.bulk x.name+aN.bulk x.cands+aN.bulk x.method+aN.bulk x.seats+aN.bulk x.ranks+aN.bulk x.digits+aN.bulk x.ties+aN.bulk x.over+aN.bulk x.skip+1,λ_=>adZ _ _⟩
theorem Tryz.opbCont:fc Tryz.prog 87 ae:=by
 intro H enc w base spare held fuel cs x h;obtain⟨xs,n,_,rfl,hl,nA,hf⟩:=DataW.trod_struct Tryz.underlying87 h;have hC:Tryz.prog.cellsOf 87=9:=by kernel_rfl
 have Yk:xs.length=9:=nA;have Sw:cs.length=9:=hl.trans hC;clear nA hl hC;obtain⟨c0,cs,rfl,Yg⟩:=aG Sw;obtain⟨c1,cs,rfl,Yf⟩:=aG Yg;obtain⟨c2,cs,rfl,Ye⟩:=aG Yf;obtain⟨c3,cs,rfl,hY4⟩:=aG Ye;obtain⟨c4,cs,rfl,hY5⟩:=aG hY4;obtain⟨c5,cs,rfl,hY6⟩:=aG hY5;obtain⟨c6,cs,rfl,hY7⟩:=aG hY6;obtain⟨c7,cs,rfl,hY8⟩:=aG hY7;obtain⟨c8,cs,rfl,hY9⟩:=aG hY8;obtain rfl:=aaw hY9;obtain⟨y0,xs,rfl,Yj⟩:=aG Yk;obtain⟨y1,xs,rfl,Yi⟩:=aG Yj;obtain⟨y2,xs,rfl,Yh⟩:=aG Yi;obtain⟨y3,xs,rfl,hX4⟩:=aG Yh;obtain⟨y4,xs,rfl,hX5⟩:=aG hX4;obtain⟨y5,xs,rfl,hX6⟩:=aG hX5;obtain⟨y6,xs,rfl,hX7⟩:=aG hX6;obtain⟨y7,xs,rfl,hX8⟩:=aG hX7;obtain⟨y8,xs,rfl,hX9⟩:=aG hX8;obtain rfl:=aaw hX9;have Yp:=bU hf 0 rfl 0 1 rfl (by kernel_rfl) [c0] rfl y0 rfl;obtain⟨x0,e0,f0,b0⟩:=Tryz.opbStr _ _ _ _ _ _ _ _ _ Yp;obtain rfl:c0=.string x0:=by injection e0
 have Yo:=bU hf 1 rfl 1 1 rfl (by kernel_rfl) [c1] rfl y1 rfl;obtain⟨x1,⟨A1,n1,k1,e1,r1⟩,f1,b1⟩:=Tryz.opbStrs _ _ _ _ _ _ _ _ _ Yo;obtain rfl:c1=.slice A1 n1 k1:=by injection e1
 have Yn:=bU hf 2 rfl 2 1 rfl (by kernel_rfl) [c2] rfl y2 rfl;obtain⟨x2,e2,f2,b2⟩:=Tryz.opbInt _ _ _ _ _ _ _ _ _ Yn;obtain rfl:c2=.int .i64 x2:=by injection e2
 have h3a:=bU hf 3 rfl 3 1 rfl (by kernel_rfl) [c3] rfl y3 rfl;obtain⟨x3,e3,f3,b3⟩:=Tryz.opbInt _ _ _ _ _ _ _ _ _ h3a;obtain rfl:c3=.int .i64 x3:=by injection e3
 have h4a:=bU hf 4 rfl 4 1 rfl (by kernel_rfl) [c4] rfl y4 rfl;obtain⟨x4,e4,f4,b4⟩:=Tryz.opbInt _ _ _ _ _ _ _ _ _ h4a;obtain rfl:c4=.int .i64 x4:=by injection e4
 have h5a:=bU hf 5 rfl 5 1 rfl (by kernel_rfl) [c5] rfl y5 rfl;obtain⟨x5,e5,f5,b5⟩:=Tryz.opbInt _ _ _ _ _ _ _ _ _ h5a;obtain rfl:c5=.int .i64 x5:=by injection e5
 have h6a:=bU hf 6 rfl 6 1 rfl (by kernel_rfl) [c6] rfl y6 rfl;obtain⟨x6,e6,f6,b6⟩:=Tryz.opbInt _ _ _ _ _ _ _ _ _ h6a;obtain rfl:c6=.int .i64 x6:=by injection e6
 have h7a:=bU hf 7 rfl 7 1 rfl (by kernel_rfl) [c7] rfl y7 rfl;obtain⟨x7,e7,f7,b7⟩:=Tryz.opbInt _ _ _ _ _ _ _ _ _ h7a;obtain rfl:c7=.int .i64 x7:=by injection e7
 have h8a:=bU hf 8 rfl 8 1 rfl (by kernel_rfl) [c8] rfl y8 rfl;obtain⟨x8,e8,f8,b8⟩:=Tryz.opbInt _ _ _ _ _ _ _ _ _ h8a;obtain rfl:c8=.int .i64 x8:=by injection e8
 refine⟨⟨x0,x1,x2,x3,x4,x5,x6,x7,x8⟩,⟨A1,n1,k1,rfl,r1⟩,⟨f0,f1,f2,f3,f4,f5,f6,f7,f8⟩,?_⟩;show aN.bulk x0+aN.bulk x1+aN.bulk x2+aN.bulk x3+aN.bulk x4+aN.bulk x5+aN.bulk x6+aN.bulk x7+aN.bulk x8+1<=Rows.uptoBulkAll [y0.1,y1.1,y2.1,y3.1,y4.1,y5.1,y6.1,y7.1,y8.1]+1;simp only[Rows.uptoBulkAll];omega
instance:Fits ai:=⟨λx=>Fits.fits x.name/\Fits.fits x.prec/\Fits.fits x.cont⟩
instance:aN ai:=⟨λx=>aN.bulk x.name+aN.bulk x.prec+aN.bulk x.cont+1,λ_=>adZ _ _⟩
theorem Tryz.opbStyl:fc Tryz.prog 42 ai:=by
 intro H enc w base spare held fuel cs x h;obtain⟨xs,n,_,rfl,hl,nA,hf⟩:=DataW.trod_struct Tryz.underlying42 h;have hC:Tryz.prog.cellsOf 42=3:=by kernel_rfl
 have Yk:xs.length=3:=nA;have Sw:cs.length=3:=hl.trans hC;clear nA hl hC;obtain⟨c0,cs,rfl,Yg⟩:=aG Sw;obtain⟨c1,cs,rfl,Yf⟩:=aG Yg;obtain⟨c2,cs,rfl,Ye⟩:=aG Yf;obtain rfl:=aaw Ye;obtain⟨y0,xs,rfl,Yj⟩:=aG Yk;obtain⟨y1,xs,rfl,Yi⟩:=aG Yj;obtain⟨y2,xs,rfl,Yh⟩:=aG Yi;obtain rfl:=aaw Yh;have Yp:=bU hf 0 rfl 0 1 rfl (by kernel_rfl) [c0] rfl y0 rfl;obtain⟨x0,e0,f0,b0⟩:=Tryz.opbStr _ _ _ _ _ _ _ _ _ Yp;obtain rfl:c0=.string x0:=by injection e0
 have Yo:=bU hf 1 rfl 1 1 rfl (by kernel_rfl) [c1] rfl y1 rfl;obtain⟨x1,⟨A1,n1,k1,e1,r1⟩,f1,b1⟩:=Tryz.opbInts _ _ _ _ _ _ _ _ _ Yo;obtain rfl:c1=.slice A1 n1 k1:=by injection e1
 have Yn:=bU hf 2 rfl 2 1 rfl (by kernel_rfl) [c2] rfl y2 rfl;obtain⟨x2,⟨A2,n2,k2,e2,r2⟩,f2,b2⟩:=Tryz.opbInts _ _ _ _ _ _ _ _ _ Yn;obtain rfl:c2=.slice A2 n2 k2:=by injection e2
 refine⟨⟨x0,x1,x2⟩,⟨A1,n1,k1,A2,n2,k2,rfl,r1,r2⟩,⟨f0,f1,f2⟩,?_⟩;show aN.bulk x0+aN.bulk x1+aN.bulk x2+1<=Rows.uptoBulkAll [y0.1,y1.1,y2.1]+1;simp only[Rows.uptoBulkAll];omega
theorem Tryz.opbConts:fc Tryz.prog 23 (List ae):=gS Tryz.underlying23 (by kernel_rfl) (by show 0<9;omega) Tryz.opbCont
theorem Tryz.opbStyls:fc Tryz.prog 24 (List ai):=gS Tryz.underlying24 (by kernel_rfl) (by show 0<3;omega) Tryz.opbStyl
instance:Fits aa:=⟨λx=>Fits.fits x.title/\Fits.fits x.dots/\Fits.fits x.blank/\Fits.fits x.marked/\Fits.fits x.prec/\Fits.fits x.cont/\Fits.fits x.styl/\Fits.fits x.scan/\Fits.fits x.batch/\Fits.fits x.risk/\Fits.fits x.cell/\Fits.fits x.seed⟩
instance:aN aa:=⟨λx=>aN.bulk x.title+aN.bulk x.dots+aN.bulk x.blank+aN.bulk x.marked+aN.bulk x.prec+aN.bulk x.cont+aN.bulk x.styl+aN.bulk x.scan+aN.bulk x.batch+aN.bulk x.risk+aN.bulk x.cell+aN.bulk x.seed+1,λ_=>adZ _ _⟩
theorem Tryz.opbElec:fc Tryz.prog 30 aa:=by
 intro H enc w base spare held fuel cs x h;obtain⟨xs,n,_,rfl,hl,nA,hf⟩:=DataW.trod_struct Tryz.underlying30 h;have hC:Tryz.prog.cellsOf 30=14:=by kernel_rfl
 have Yk:xs.length=12:=nA;have Sw:cs.length=14:=hl.trans hC;clear nA hl hC;obtain⟨c0,cs,rfl,Yg⟩:=aG Sw;obtain⟨c1,cs,rfl,Yf⟩:=aG Yg;obtain⟨c2,cs,rfl,Ye⟩:=aG Yf;obtain⟨c3,cs,rfl,hY4⟩:=aG Ye;obtain⟨c4,cs,rfl,hY5⟩:=aG hY4;obtain⟨c5,cs,rfl,hY6⟩:=aG hY5;obtain⟨c6,cs,rfl,hY7⟩:=aG hY6;obtain⟨c7,cs,rfl,hY8⟩:=aG hY7;obtain⟨c8,cs,rfl,hY9⟩:=aG hY8;obtain⟨c9,cs,rfl,aiC⟩:=aG hY9;obtain⟨c10,cs,rfl,aiB⟩:=aG aiC;obtain⟨c11,cs,rfl,aiA⟩:=aG aiB;obtain⟨c12,cs,rfl,aiz⟩:=aG aiA;obtain⟨c13,cs,rfl,aiy⟩:=aG aiz;obtain rfl:=aaw aiy;obtain⟨y0,xs,rfl,Yj⟩:=aG Yk;obtain⟨y1,xs,rfl,Yi⟩:=aG Yj;obtain⟨y2,xs,rfl,Yh⟩:=aG Yi;obtain⟨y3,xs,rfl,hX4⟩:=aG Yh;obtain⟨y4,xs,rfl,hX5⟩:=aG hX4;obtain⟨y5,xs,rfl,hX6⟩:=aG hX5;obtain⟨y6,xs,rfl,hX7⟩:=aG hX6;obtain⟨y7,xs,rfl,hX8⟩:=aG hX7;obtain⟨y8,xs,rfl,hX9⟩:=aG hX8;obtain⟨y9,xs,rfl,aiM⟩:=aG hX9;obtain⟨y10,xs,rfl,aiL⟩:=aG aiM;obtain⟨y11,xs,rfl,aiK⟩:=aG aiL;obtain rfl:=aaw aiK;have Yp:=bU hf 0 rfl 0 1 rfl (by kernel_rfl) [c0] rfl y0 rfl;obtain⟨x0,e0,f0,b0⟩:=Tryz.opbStr _ _ _ _ _ _ _ _ _ Yp;obtain rfl:c0=.string x0:=by injection e0
 have Yo:=bU hf 1 rfl 1 1 rfl (by kernel_rfl) [c1] rfl y1 rfl;obtain⟨x1,e1,f1,b1⟩:=Tryz.opbInt _ _ _ _ _ _ _ _ _ Yo;obtain rfl:c1=.int .i64 x1:=by injection e1
 have Yn:=bU hf 2 rfl 2 1 rfl (by kernel_rfl) [c2] rfl y2 rfl;obtain⟨x2,e2,f2,b2⟩:=Tryz.opbInt _ _ _ _ _ _ _ _ _ Yn;obtain rfl:c2=.int .i64 x2:=by injection e2
 have h3a:=bU hf 3 rfl 3 1 rfl (by kernel_rfl) [c3] rfl y3 rfl;obtain⟨x3,e3,f3,b3⟩:=Tryz.opbInt _ _ _ _ _ _ _ _ _ h3a;obtain rfl:c3=.int .i64 x3:=by injection e3
 have h4a:=bU hf 4 rfl 4 1 rfl (by kernel_rfl) [c4] rfl y4 rfl;obtain⟨x4,⟨A4,n4,k4,e4,r4⟩,f4,b4⟩:=Tryz.opbStrs _ _ _ _ _ _ _ _ _ h4a;obtain rfl:c4=.slice A4 n4 k4:=by injection e4
 have h5a:=bU hf 5 rfl 5 1 rfl (by kernel_rfl) [c5] rfl y5 rfl;obtain⟨x5,⟨A5,n5,k5,e5,r5⟩,f5,b5⟩:=Tryz.opbConts _ _ _ _ _ _ _ _ _ h5a;obtain rfl:c5=.slice A5 n5 k5:=by injection e5
 have h6a:=bU hf 6 rfl 6 1 rfl (by kernel_rfl) [c6] rfl y6 rfl;obtain⟨x6,⟨A6,n6,k6,e6,r6⟩,f6,b6⟩:=Tryz.opbStyls _ _ _ _ _ _ _ _ _ h6a;obtain rfl:c6=.slice A6 n6 k6:=by injection e6
 have h7a:=bU hf 7 rfl 7 1 rfl (by kernel_rfl) [c7] rfl y7 rfl;obtain⟨x7,e7,f7,b7⟩:=Tryz.opbInt _ _ _ _ _ _ _ _ _ h7a;obtain rfl:c7=.int .i64 x7:=by injection e7
 have h8a:=bU hf 8 rfl 8 1 rfl (by kernel_rfl) [c8] rfl y8 rfl;obtain⟨x8,e8,f8,b8⟩:=Tryz.opbInt _ _ _ _ _ _ _ _ _ h8a;obtain rfl:c8=.int .i64 x8:=by injection e8
 have h9a:=bU hf 9 rfl 9 3 rfl (by kernel_rfl) [c9,c10,c11] rfl y9 rfl;obtain⟨x9,⟨A9,n9,k9,B9,m9,j9,e9,r9,s9⟩,f9,b9⟩:=Tryz.opbRisk _ _ _ _ _ _ _ _ _ h9a;obtain⟨rfl,rfl,rfl⟩:c9=.bool x9.neg/\c10=.slice A9 n9 k9/\c11=.slice B9 m9 j9:=by
  injection e9 with q1 q2
  injection q2 with q2 q3
  injection q3 with q3 q4
  exact⟨q1,q2,q3⟩
 have ai0:=bU hf 10 rfl 12 1 rfl (by kernel_rfl) [c12] rfl y10 rfl;obtain⟨x10,e10,f10,b10⟩:=Tryz.opbInt _ _ _ _ _ _ _ _ _ ai0;obtain rfl:c12=.int .i64 x10:=by injection e10
 have aiZ:=bU hf 11 rfl 13 1 rfl (by kernel_rfl) [c13] rfl y11 rfl;obtain⟨x11,e11,f11,b11⟩:=Tryz.opbStr _ _ _ _ _ _ _ _ _ aiZ;obtain rfl:c13=.string x11:=by injection e11
 refine⟨⟨x0,x1,x2,x3,x4,x5,x6,x7,x8,x9,x10,x11⟩,⟨A4,n4,k4,A5,n5,k5,A6,n6,k6,A9,n9,k9,B9,m9,j9,rfl,r4,r5,r6,r9,s9⟩,⟨f0,f1,f2,f3,f4,f5,f6,f7,f8,f9,f10,f11⟩,?_⟩;show aN.bulk x0+aN.bulk x1+aN.bulk x2+aN.bulk x3+aN.bulk x4+aN.bulk x5+aN.bulk x6+aN.bulk x7+aN.bulk x8+aN.bulk x9+aN.bulk x10+aN.bulk x11+1<=Rows.uptoBulkAll [y0.1,y1.1,y2.1,y3.1,y4.1,y5.1,y6.1,y7.1,y8.1,y9.1,y10.1,y11.1]+1;simp only[Rows.uptoBulkAll];omega
instance:Fits Zn:=⟨λ_=>True⟩
instance:aN Zn:=⟨λ_=>1,λ_=>aam _⟩
theorem pA {e:aa} (hf:Fits.fits e) (hb:aN.bulk e<=1048576):du e/\cf e:=by
 obtain⟨f1,f2,f3,f4,f5,f6,f7,f8,f9,f10,f11,f12⟩:=hf;have lN:aN.bulk e.title+aN.bulk e.dots+aN.bulk e.blank+aN.bulk e.marked+aN.bulk e.prec+aN.bulk e.cont+aN.bulk e.styl+aN.bulk e.scan+aN.bulk e.batch+aN.bulk e.risk+aN.bulk e.cell+aN.bulk e.seed+1<=1048576:=hb;have str:∀{s:ByteArray},aN.bulk s<=1048576->cZ s:=λ{s} h=>by
  have h':s.size+1<=1048576:=h;unfold cZ;omega
 have lst:∀{α:Type} [aN α] {l:List α},aN.bulk l<=1048576->l.length<=1048576/\∀x∈l,aN.bulk x<=1048576:=λ{α} _ {l} h=>by
  have h':iG l+1<=1048576:=h;have h1:=Cm l;exact⟨by omega,λx hx=>by have:=Cl hx;omega⟩
 obtain⟨lp,mp⟩:=lst (l:=e.prec) (by omega);obtain⟨lc,mc⟩:=lst (l:=e.cont) (by omega);obtain⟨ls,ms⟩:=lst (l:=e.styl) (by omega);have hr:aN.bulk e.risk.neg+aN.bulk e.risk.num+aN.bulk e.risk.den+1<=1048576:=by
  have:aN.bulk e.risk=aN.bulk e.risk.neg+aN.bulk e.risk.num+aN.bulk e.risk.den+1:=rfl;omega
 obtain⟨ln,_⟩:=lst (l:=e.risk.num) (by omega);obtain⟨ld,_⟩:=lst (l:=e.risk.den) (by omega);have UV:∀x∈e.cont,mS x/\cZ x.name/\∀s∈x.cands,cZ s:=λx hx=>by
  obtain⟨g1,g2,g3,g4,g5,g6,g7,g8,g9⟩:=f6.2 x hx;have UX:aN.bulk x.name+aN.bulk x.cands+aN.bulk x.method+aN.bulk x.seats+aN.bulk x.ranks+aN.bulk x.digits+aN.bulk x.ties+aN.bulk x.over+aN.bulk x.skip+1<=1048576:=mc x hx;obtain⟨l1,m1⟩:=lst (l:=x.cands) (by omega);exact⟨⟨g3,g4,g5,g6,g7,g8,g9,by omega⟩,str (by omega),λs hs=>str (m1 s hs)⟩
 have Nj:∀x∈e.styl,x.prec.length<=1048576/\x.cont.length<=1048576/\cZ x.name:=λx hx=>by
  have UX:aN.bulk x.name+aN.bulk x.prec+aN.bulk x.cont+1<=1048576:=ms x hx;obtain⟨l1,_⟩:=lst (l:=x.prec) (by omega);obtain⟨l2,_⟩:=lst (l:=x.cont) (by omega);exact⟨l1,l2,str (by omega)⟩
 exact⟨⟨f2,f3,f4,f8,f9,f11,λx hx=>(UV x hx).1,λx hx=>⟨by have:=(Nj x hx).1;omega,by have:=(Nj x hx).2.1;omega⟩,by omega,by omega,by omega,⟨by omega,by omega⟩⟩,
  ⟨str (by omega),str (by omega),λs hs=>str (mp s hs),λx hx=>(UV x hx).2,λx hx=>(Nj x hx).2.2,by omega⟩⟩
theorem Tryz.own':ownKnob Tryz.prog.godebug=none:=by kernel_rfl
theorem Tryz.laidOut:laidOutB Tryz.prog=true:=by kernel_rfl
theorem K5:Rows.laid_internal_strconv_uint64pow10=(Lib.tabData .u64 Lib.pow10Tab:DataW Unit):=rfl
theorem wA {W:World} (h:Lib.VarReads Tryz.prog W "internal/strconv.uint64pow10" Rows.laid_internal_strconv_uint64pow10):Kd W.heap.size W:=by
 have hT:Lib.TabIs Tryz.prog W "internal/strconv.uint64pow10" .u64 Lib.pow10Tab:=by
  obtain⟨g,t,cs,fuel,p,hg,hty,ahl,hd⟩:=h;obtain⟨g0,hg0,ht0⟩:∃g0,Tryz.prog.globalNamed "internal/strconv.uint64pow10" =some g0/\(Tryz.prog.globals[g0]?).map (·.type)=some 309:=⟨(Tryz.prog.globalNamed "internal/strconv.uint64pow10").getD 0,by kernel_rfl,by kernel_rfl⟩;obtain rfl:=aad (hg.symm.trans hg0);obtain rfl:=aad (hty.symm.trans ht0);rw[K5] at hd;unfold Lib.TabIs;rw[ahl,<-Lib.cells_of_tab Tryz.underlying309 Tryz.underlying242 (by kernel_rfl) (by kernel_rfl) hd]
 exact Lib.tabBelow_of_tabIs hT
theorem jo {H:Type} {enc:TypeId×Value->H} {C:Checked} {os:Os} {f:FuncId} {fn:Func} {s:OpenSpec} {conds:List PathCond} {apart:Bool} {laid:List (String×DataW Unit)} (modest:Bool) (w0:World) (args:Array Value) (hos:w0.os=os) (PR:(w0.forCall (λ_ _=>0) ⟨#[],args,[]⟩).Shaped C.prog) (rW:Input.okWideB C.prog (w0.forCall (λ_ _=>0) ⟨#[],args,[]⟩) f ⟨#[],args,[]⟩=true) (lK:s.preRow enc C.prog fn conds apart laid (w0.forCall (λ_ _=>0) ⟨#[],args,[]⟩).memory args) : ∃(w:World) (tape:Tape) (i:Input),w.os=os/\(w.forCall tape i).Shaped C.prog/\i.vars=[]/\Input.okWide C.prog (w.forCall tape i) .any w.heap.size f i/\ s.preRow enc C.prog fn conds apart laid (w.forCall tape i).memory i.args/\({ modest:=modest }:Assume).holds C.prog (lone (Frame.enter C.prog f i.args .normal) [] (w.forCall tape i)):=
 ⟨w0,λ_ _=>0,⟨#[],args,[]⟩,hos,PR,(Input.okWide_of_okWideB (base:=0) rW).1,(Input.okWide_of_okWideB rW).2,lK,by
  simp only[Assume.holds];exact⟨by simp,by simp,λ_=>Modest.zero,by simp,by simp⟩⟩
theorem oX {H:Type} {d:DataW H} {l:List (DataW H)} (h:d∈l):Rows.uptoBulk d<=Rows.uptoBulkAll l:=by
 induction l with
 | nil=>cases h
 | cons x r ih=>
  simp only[Rows.uptoBulkAll];rcases aas.1 h with e|e
  ·subst e;omega
  ·have:=ih e;omega
end Go.Proofs.YtdbpbfglhbiadaaGreatDoor
