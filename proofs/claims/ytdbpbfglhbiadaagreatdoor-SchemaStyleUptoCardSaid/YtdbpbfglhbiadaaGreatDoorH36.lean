/- Tm3 Tm4 Tm5 Tf1 Tf2 -/
import Derived.Test.YtdbpbfglhbiadaaGreatDoorH00
import Derived.Test.YtdbpbfglhbiadaaGreatDoorH35
import Derived.Test.YtdbpbfglhbiadaaGreatDoorH21
set_option maxHeartbeats 4000000
set_option maxRecDepth 100000
namespace Go.Proofs.YtdbpbfglhbiadaaGreatDoor
open Go Go.RowKit
def IR (k:ByteArray):List ByteArray->T XV
 | []=>.lf (.one (.val (.slice none 0 0)))
 | a::l=>.br (k.toList==a.toList) (.lf (.one (.list .str (aO a) true))) (IR k l)
theorem yA {k:ByteArray}:∀{l:List ByteArray},(k∉l->aO k=[])->∃q,(IR k l).hit q/\∀(w:World) (S:Nat->Prop) (v:Value),XR [] w S q v->XR [] w S (.one (.list .str (aO k) true)) v
 | [],h=>⟨_,rfl,λw S v ⟨e,_⟩=>⟨none,0,0,e,by rw[h (by simp)];exact RS.nil _ _,λ_ _=>rfl⟩⟩
 | a::l,h=>by
  by_cases e:k=a
  ·subst e;exact⟨_,aC (by simp) rfl,λ_ _ _ h=>h⟩
  ·obtain⟨q,h1,h2⟩:=yA (k:=k) (l:=l) λhl=>h (by simp[e,hl]);exact⟨q,aK (by rw[cO];exact decide_eq_false e) h1,h2⟩
theorem qg:ao Tryz.prog 111 true (az [(0,sS)] λ((s:ByteArray),_)=>.lf (.one (.list .str (aO s) true))):=
 ao.imp (l0:=[(0,sS)]) (F:=λ((k:ByteArray),_)=>IR k ik) (aN (C:=C1) (nL _ _) true 99 [(0,sS)] (λ((k:ByteArray),_)=>IR k ik) (λ_ _ _ h=>⟨h,.inl rfl⟩) Tryz.func111) λ⟨(k:ByteArray),_⟩ r h=>by
  obtain rfl:XV.one (.list .str (aO k) true)=r:=h;refine yA λh=>?_;simp only[ik,abs,abL,or_false,not_or] at h;obtain⟨h1,h2,h3,h4,h5,h6,h7⟩:=h;exact(if_neg h1).trans ((if_neg h2).trans ((if_neg h3).trans ((if_neg h4).trans ((if_neg h5).trans ((if_neg h6).trans (if_neg h7))))))
def nt (p:Int×Int) (no line:Int):Int×Int:=if p.1=0/\no≠0 then(no,line) else p
abbrev stN:List CS:=[.any,.any,.any,.any,.any,.any,.any,.any,.any,.any,.any,.any,.any,.any,.any,.any,.any,.d tI,.d tI]
abbrev sN:SS:=.box 118 stN
abbrev pN:List Nat:=[0,1,2,3,4,5,6,7,8,9,10,11,12,13,14,15,16,17]
abbrev sF:SS:=.st 0
abbrev gx:=eB stN
def mkN (p:Int×Int):gx:=((),(),(),(),(),(),(),(),(),(),(),(),(),(),(),(),(),p.1,p.2,())
def gx.f (x:gx):Int×Int:=(x.2.2.2.2.2.2.2.2.2.2.2.2.2.2.2.2.2.1,x.2.2.2.2.2.2.2.2.2.2.2.2.2.2.2.2.2.2.1)
def gx.err (x:gx):Int:=x.f.1
def gx.note (x:gx) (no line:Int):gx:=mkN (nt x.f no line)
def gx.setF (_:gx) (no line:Int):gx:=mkN (no,line)
theorem KM {p:Int×Int} {no:Int} (line:Int) (h:p.1=0) (hn:no≠0):nt p no line=(no,line):=if_pos ⟨h,hn⟩
theorem T4 {p:Int×Int} (no line:Int) (h:p.1≠0):nt p no line=p:=if_neg λq=>h q.1
theorem Oq {p:Int×Int} (line:Int):nt p 0 line=p:=if_neg λq=>q.2 rfl
theorem aez {p:Int×Int} {c d line vM:Int} (hc:c≠0):nt (nt p c line) d vM=nt p c line:=by
 by_cases h:p.1=0
 ·rw[KM line h hc];exact T4 d vM hc
 ·rw[T4 c line h,T4 d vM h]
theorem Ou {x:gx} {no:Int} (line:Int) (h:x.err=0) (hn:no≠0):x.note no line=x.setF no line:=congrArg mkN (KM line h hn)
theorem Ov {x:gx} (no line:Int) (h:x.err≠0):x.note no line=x:=congrArg mkN (T4 no line h)
theorem Ae {x:gx} (line:Int):x.note 0 line=x:=congrArg mkN (Oq line)
abbrev an (r:XV) (x:gx):XV×gx×Unit:=(r,x,())
theorem jN:ew Tryz.prog 62 pN [(0,sN),(1,sI),(2,sI)] [(0,sN)] λ((x:gx),(no:Int),(line:Int),_)=>.nd ((0:Int)≠no) (.lf (an (.tup []) (x.note no line))):=
 iA (C:=C1) (nL _ _) 99 [(0,sN),(1,sI),(2,sI)] [(0,sN)] (λ((x:gx),(no:Int),(line:Int),_)=>.br (x.err==0) (.lf (an (.tup []) (x.setF no line))) (.lf (an (.tup []) x)))
  (λ⟨(x:gx),no,line,_⟩ r _ ⟨hn,h⟩=>by
   obtain rfl:an (.tup []) (x.note no line)=r:=h;by_cases e:x.err=0
   ·exact aC (beq_iff_eq.2 e) (congrArg (an _) (Ou line e (acE hn)).symm)
   ·exact aK (beq_eq_false_iff_ne.2 e) (congrArg (an _) (Ov no line e).symm)) Tryz.func62
noncomputable def C2:eP Tryz.prog:=bA pG [⟨_,_,_,find_ok⟩,⟨_,_,_,mP⟩,⟨_,_,_,pC⟩,⟨_,_,_,Ai⟩,⟨_,_,_,nK⟩,⟨_,_,_,qg⟩] [⟨_,_,_,_,_,jN⟩]
theorem rk:ew Tryz.prog 200 pN [(0,sN),(1,sF)] [(0,sN)] λ((x:gx),(f:ai),_)=>.lf (an (aS (bf f.vals)) (x.note (cZ f.vals) f.line)):=
 iA (C:=C2) (nL _ _) 99 [(0,sN),(1,sF)] [(0,sN)] (λ((x:gx),(f:ai),_)=>.br (!((f.vals.length:Int)==1)) (.nd ((0:Int)≠7) (.lf (an (aS ⟨#[]⟩) (x.note 7 f.line)))) (.nd ((0:Int)<=0/\(0:Int)<f.vals.length) (.lf (an (aS (f.vals.getD 0 ⟨#[]⟩)) x))))
  (λ⟨(x:gx),(f:ai),_⟩ r _ h=>by
   obtain rfl:an (aS (bf f.vals)) (x.note (cZ f.vals) f.line)=r:=h;by_cases e:f.vals.length=1
   ·refine aK (by rw[e];rfl) ⟨⟨by omega,by omega⟩,?_⟩;rw[bf,cZ,if_neg (by simp[e]),if_neg (by simp[e]),Ae];rfl
   ·refine aC (by simp;omega) ⟨by decide,?_⟩;rw[bf,cZ,if_pos e,if_pos e];rfl) Tryz.func200
noncomputable def C3:eP Tryz.prog:=bA pG [⟨_,_,_,find_ok⟩,⟨_,_,_,mP⟩,⟨_,_,_,pC⟩,⟨_,_,_,Ai⟩,⟨_,_,_,nK⟩,⟨_,_,_,qg⟩] [⟨_,_,_,_,_,jN⟩,⟨_,_,_,_,_,rk⟩]
theorem Zk {x:gx} {no:Int} (line:Int) (h:x.err=0) (hn:no≠0):(x.note no line).err=no:=by rw[Ou line h hn];rfl
theorem Ot {x:gx} {c d line vM:Int} (hc:c≠0):(x.note c line).note d vM=x.note c line:=congrArg mkN (aez hc)
theorem Ed {x:gx} {a:XV} {c d e line:Int} (h:(if c=0 then d else c)=e):an a ((x.note c line).note d line)=an a (x.note e line):=by
 subst h;by_cases hc:c=0
 ·rw[if_pos hc,hc,Ae]
 ·rw[if_neg hc,Ot hc]
theorem Mg {x:gx} {a:XV} {c e line:Int} (h:c=e):an a (x.note c line)=an a (x.note e line):=by rw[h]
theorem tm:∀(xs:List ByteArray) (s:ByteArray) (i:Nat),Lib.idxFromS xs s i<=i+xs.length
 | [],_,_=>by show(-1:Int)<=_;omega
 | x::l,s,i=>by
  unfold Lib.idxFromS;split
  ·simp only[aaJ];omega
  ·have:=tm l s (i+1);simp only[aaJ];omega
theorem Pq:ew Tryz.prog 152 pN [(0,sN),(1,sF),(2,sI),(3,sI)] [(0,sN)] λ((x:gx),(f:ai),(a:Int),(b:Int),_)=>.nd ((bf f.vals).size<=9223372036854775807) (.lf (an (aI (lm f.vals)) (x.note (qY f.vals a b) f.line))):=
 iA (C:=C3) (nL _ _) 99 [(0,sN),(1,sF),(2,sI),(3,sI)] [(0,sN)] (λ((x:gx),(f:ai),(a:Int),(b:Int),_)=>.nd ((bf f.vals).size<=9223372036854775807) (.br (!(cW (bf f.vals).data.toList).2) (.nd ((0:Int)≠5) (.lf (an (aI (lm f.vals)) ((x.note (cZ f.vals) f.line).note 5 f.line)))) (.br (decide (lm f.vals<a)) (.nd ((0:Int)≠4) (.lf (an (aI (lm f.vals)) ((x.note (cZ f.vals) f.line).note 4 f.line)))) (.br (decide (lm f.vals>b)) (.nd ((0:Int)≠4) (.lf (an (aI (lm f.vals)) ((x.note (cZ f.vals) f.line).note 4 f.line)))) (.lf (an (aI (lm f.vals)) (x.note (cZ f.vals) f.line)))))))
  (λ⟨(x:gx),(f:ai),(a:Int),(b:Int),_⟩ r _ ⟨hs,h⟩=>by
   obtain rfl:an (aI (lm f.vals)) (x.note (qY f.vals a b) f.line)=r:=h;refine⟨hs,λh1=>⟨by decide,Ed ?_⟩,λh1=>⟨λh2=>⟨by decide,Ed ?_⟩,λh2=>⟨λh3=>⟨by decide,Ed ?_⟩,λh3=>?_⟩⟩⟩
   ·unfold qY cZ;split<;>simp_all
   ·unfold qY cZ;split<;>simp_all
   ·unfold qY cZ;split<;>simp_all
   ·refine Mg ?_;have:=of_decide_eq_false h2;have:=of_decide_eq_false h3;unfold qY cZ;split<;>simp_all) Tryz.func152
theorem V4:ew Tryz.prog 151 pN [(0,sN),(1,sF),(2,sL)] [(0,sN)] λ((x:gx),(f:ai),(l:List ByteArray),_)=>.nd (l.length<=99) (.lf (an (aI (jT f.vals l)) (x.note (pk f.vals l) f.line))):=
 iA (C:=C3) (nL _ _) 99 [(0,sN),(1,sF),(2,sL)] [(0,sN)] (λ((x:gx),(f:ai),(l:List ByteArray),_)=>.br (decide (Lib.idxOfS l (bf f.vals)<0)) (.nd ((0:Int)≠2) (.nd (cw (jT f.vals l)) (.lf (an (aI (jT f.vals l)) ((x.note (cZ f.vals) f.line).note 2 f.line))))) (.nd (cw (jT f.vals l)) (.lf (an (aI (jT f.vals l)) (x.note (cZ f.vals) f.line)))))
  (λ⟨(x:gx),(f:ai),(l:List ByteArray),_⟩ r _ ⟨hs,h⟩=>by
   obtain rfl:an (aI (jT f.vals l)) (x.note (pk f.vals l) f.line)=r:=h;have hb:cw (jT f.vals l):=by
    have:=tm l (bf f.vals) 0;have:=lH l (bf f.vals) 0;unfold jT cw Lib.idxOfS at*;omega
   refine⟨λh1=>⟨by decide,hb,Ed ?_⟩,λh1=>⟨hb,?_⟩⟩
   ·unfold pk cZ;split<;>simp_all
   ·refine Mg ?_;unfold pk cZ;split<;>simp_all) Tryz.func151
theorem B7:ew Tryz.prog 155 pN [(0,sN),(1,sF)] [(0,sN)] λ((x:gx),(f:ai),_)=>.nd ((bf f.vals).size<=9223372036854775807) (.lf (an (aS (bf f.vals)) (x.note (mN f.vals) f.line))):=
 iA (C:=C3) (nL _ _) 99 [(0,sN),(1,sF)] [(0,sN)] (λ((x:gx),(f:ai),_)=>.br (!((bf f.vals).toList==(⟨#[]⟩:ByteArray).toList)) (.nd ((bf f.vals).size<=9223372036854775807) (.br (!mT (bf f.vals)) (.nd ((0:Int)≠8) (.lf (an (aS (bf f.vals)) ((x.note (cZ f.vals) f.line).note 8 f.line)))) (.lf (an (aS (bf f.vals)) (x.note (cZ f.vals) f.line))))) (.lf (an (aS (bf f.vals)) (x.note (cZ f.vals) f.line))))
  (λ⟨(x:gx),(f:ai),_⟩ r _ ⟨hs,h⟩=>by
   obtain rfl:an (aS (bf f.vals)) (x.note (mN f.vals) f.line)=r:=h;refine⟨λh1=>⟨hs,λh2=>⟨by decide,Ed ?_⟩,λh2=>?_⟩,λh1=>?_⟩
   ·rw[cO] at h1;unfold mN cZ;split<;>simp_all
   ·refine Mg ?_;rw[cO] at h1;unfold mN cZ;split<;>simp_all
   ·refine Mg ?_;rw[cO] at h1;unfold mN cZ;split<;>simp_all) Tryz.func155
abbrev Mo:SS:=.box 93 [.d .str,.d (.list .str),.d tI]
abbrev zo:=eB [.d .str,.d (.list .str),.d tI]
def zo.vs (f:zo):List ByteArray:=f.2.1
def zo.ln (f:zo):Int:=f.2.2.1
theorem OD (s:ByteArray):mT s=da s 1 24:=by
 unfold mT da;cases fY s.data.toList<;>simp
abbrev E9 (l:List ByteArray):Prop:=∀s∈l,s.size<=9223372036854775807
abbrev mW (x:gx) (f:zo):LE [(0,sN),(2,sI),(4,Mo),(7,sI)] [(0,sN),(4,Mo)] [(0,sN)]:=.out (x,f,())
abbrev vF (x:gx) (m:Int) (f:zo) (i:Int):LE [(0,sN),(2,sI),(4,Mo),(7,sI)] [(0,sN),(4,Mo)] [(0,sN)]:=.back (x,m,f,i,())
theorem CG (m:Int) (pre:List ByteArray) (s:ByteArray) (r:List ByteArray):fI m pre (s::r)=if(pre.length:Int)=m then 7 else if da s 1 24=false then 8 else if Lib.containsS pre s then 3 else fI m (pre++[s]) r:=by rw[fI]
def II (x:gx) (m:Int) (l:List ByteArray) (i:Int):Prop:=0<=i/\i<=l.length/\(x.err=0->i<=m)/\E9 l
theorem Uy:cL (EK C3 Tryz.f113 pN) 0 0 [(0,sN),(2,sI),(4,Mo),(7,sI)] [(0,sN),(4,Mo)] [(0,sN)] λ((x:gx),(m:Int),(f:zo),(i:Int),_)=>
 .nd (II x m f.vs i) (.lf (mW (x.note (fI m (f.vs.take i.toNat) (f.vs.drop i.toNat)) f.ln) f)):=by
  refine fy _ (nL _ _) 99 0 0 [(0,sN),(2,sI),(4,Mo),(7,sI)] [(0,sN),(4,Mo)] [(0,sN)] (λ((x:gx),(m:Int),(f:zo),(i:Int),_)=>.br (decide (i<f.vs.length)) (.br (x.err==0) (.br (decide (i>=m)) (.nd ((0:Int)≠7) (.nd (cw (i+1)) (.lf (vF (x.note 7 f.ln) m f (i+1))))) (.nd (0<=i/\i<f.vs.length) (.nd ((f.vs.getD i.toNat ⟨#[]⟩).size<=9223372036854775807) (.br (!mT (f.vs.getD i.toNat ⟨#[]⟩)) (.nd ((0:Int)≠8) (.nd (cw (i+1)) (.lf (vF (x.note 8 f.ln) m f (i+1))))) (.nd ((0:Int)<=0/\0<=i/\i<=f.vs.length) (.nd (0<=i/\i<f.vs.length) (.br (decide (Lib.idxOfS (f.vs.take i.toNat) (f.vs.getD i.toNat ⟨#[]⟩)>=0)) (.nd ((0:Int)≠3) (.nd (cw (i+1)) (.lf (vF (x.note 3 f.ln) m f (i+1))))) (.nd (cw (i+1)) (.lf (vF x m f (i+1))))))))))) (.lf (mW x f))) (.lf (mW x f)))
   (λ(_,_,(f:zo),(i:Int),_)=>f.vs.length-i.toNat) ?_
  rintro⟨(x:gx),(m:Int),(f:zo),(i:Int),_⟩ r rh ⟨hn,hr⟩;obtain⟨h0,h1,h2,h3⟩:II x m f.vs i:=hn;have hl:f.vs.length<=9223372036854775807:=rh.2.2.1.2.1;obtain⟨k,rfl⟩:∃k:Nat,i=k:=⟨i.toNat,by omega⟩;obtain rfl:mW (x.note (fI m (f.vs.take k) (f.vs.drop k)) f.ln) f=r:=hr;by_cases hk:k<f.vs.length
  ·by_cases he:x.err=0
   ·have hx:=getD_drop (⟨#[]⟩:ByteArray) hk;have Bt:f.vs[k]?=some (f.vs.getD k ⟨#[]⟩):=by rw[aal,aac hk];rfl
    have hm:=h2 he;have hs:=h3 (f.vs.getD k ⟨#[]⟩) (acq Bt);have dQ:cw ((k:Int)+1):=⟨by omega,by omega⟩;have dec:f.vs.length-(k+1)<f.vs.length-k:=by omega
    have hp:mT (f.vs.getD k ⟨#[]⟩)=da (f.vs.getD k ⟨#[]⟩) 1 24:=OD _;have stop:∀c:Int,c≠0->fI m (f.vs.take k) (f.vs.drop k)=c->II (x.note c f.ln) m f.vs ((k:Int)+1)/\mW ((x.note c f.ln).note (fI m (f.vs.take (k+1)) (f.vs.drop (k+1))) f.ln) f=mW (x.note (fI m (f.vs.take k) (f.vs.drop k)) f.ln) f:=λc hc hg=>by
     refine⟨⟨by omega,by omega,λq=>absurd q (by rw[Zk _ he hc];exact hc),h3⟩,?_⟩;rw[hg,Ot hc]
    rw[hx] at stop ⊢;rw[CG,abD,ac8 (by omega)] at stop ⊢;by_cases h7:(k:Int)=m
    ·rw[if_pos h7] at stop ⊢;exact⟨_,aC (decide_eq_true (by omega)) (aC (beq_iff_eq.2 he) (aC (decide_eq_true (by omega)) ⟨by decide,dQ,rfl⟩)),dec,stop 7 (by decide) rfl⟩
    rw[if_neg h7] at stop ⊢;have go:∀{y:T (LE [(0,sN),(2,sI),(4,Mo),(7,sI)] [(0,sN),(4,Mo)] [(0,sN)])} {q},y.hit q->_:=λ{y q} h=>aC (x:=T.br _ _ _) (y:=.lf (mW x f)) (b:=decide ((k:Int)<f.vs.length)) (decide_eq_true (by omega)) (aC (y:=.lf (mW x f)) (beq_iff_eq.2 he) (aK (b:=decide ((k:Int)>=m)) (x:=.nd ((0:Int)≠7) (.nd (cw ((k:Int)+1)) (.lf (vF (x.note 7 f.ln) m f (k+1))))) (y:=.nd (0<=(k:Int)/\(k:Int)<f.vs.length) (.nd ((f.vs.getD k ⟨#[]⟩).size<=9223372036854775807) y)) (decide_eq_false (by omega)) ⟨⟨by omega,by omega⟩,hs,h⟩));by_cases h8:da (f.vs.getD k ⟨#[]⟩) 1 24=false
    ·rw[if_pos h8] at stop ⊢;exact⟨_,go (aC (by rw[aae,hp,h8];rfl) ⟨by decide,dQ,rfl⟩),dec,stop 8 (by decide) rfl⟩
    rw[if_neg h8] at stop ⊢;by_cases Lv:Lib.containsS (f.vs.take k) (f.vs.getD k ⟨#[]⟩)
    ·rw[if_pos Lv] at stop ⊢;exact⟨_,go (aK (by rw[aae,hp];simpa using h8) ⟨⟨by omega,by omega,by omega⟩,⟨by omega,by omega⟩,aC Lv ⟨by decide,dQ,rfl⟩⟩),dec,stop 3 (by decide) rfl⟩
    ·rw[if_neg Lv];refine⟨_,go (aK (by rw[aae,hp];simpa using h8) ⟨⟨by omega,by omega,by omega⟩,⟨by omega,by omega⟩,aK (acI.2 Lv:Lib.containsS _ _=false) ⟨dQ,rfl⟩⟩),dec,⟨by omega,by omega,λ_=>by omega,h3⟩,?_⟩;show mW (x.note (fI m (f.vs.take (k+1)) (f.vs.drop (k+1))) f.ln) f=_;rw[iQ Bt]
   ·exact⟨_,aC (decide_eq_true (by omega)) (aK (beq_eq_false_iff_ne.2 he) rfl),congrArg (λz=>mW z f) (Ov _ _ he).symm⟩
  ·exact⟨_,aK (decide_eq_false (by omega)) rfl,congrArg (λz=>mW z f) (by rw[aaQ (by omega)];exact(Ae _).symm)⟩
def lsR (l:List ByteArray):XV:=.one (.list .str (l.reverse++[]).reverse !(l.reverse++[]).isEmpty)
theorem Zw (l:List ByteArray):lsR l=.one (.list .str l !l.isEmpty):=by unfold lsR;simp
def Xc (x:gx) (m:Int) (l:List ByteArray) (ln:Int):T (XV×gx×Unit):=.nd (II x m l 0) (.nd ((0+l.length)*17<=140737488355328) (.lf (an (lsR l) (x.note (fI m (l.take 0) (l.drop 0)) ln))))
theorem vJ:ew Tryz.prog 113 pN [(0,sN),(1,sF),(2,sI)] [(0,sN)] λ((x:gx),(f:ai),(m:Int),_)=>.nd (E9 f.vals/\0<=m/\f.vals.length<=1099511627776) (.lf (an (.one (.list .str f.vals !f.vals.isEmpty)) (x.note (dl f.vals m) f.line))):=by
 refine abg (C:=C3) (pb:=pN) [(12,[6])] ((nL _ _).add 0 _ Uy) 99 [(0,sN),(1,sF),(2,sI)] [(0,sN)] (λ((x:gx),(f:ai),(m:Int),_)=>.br ((f.vals.length:Int)==0) (.nd ((0:Int)≠7) (Xc (x.note 7 f.line) m f.vals f.line)) (Xc x m f.vals f.line)) ?_ Tryz.func113;rintro⟨(x:gx),(f:ai),(m:Int),_⟩ r _ ⟨⟨h1,h2,h3⟩,h⟩;obtain rfl:an (.one (.list .str f.vals !f.vals.isEmpty)) (x.note (dl f.vals m) f.line)=r:=h;rw[<-Zw];refine⟨λe=>?_,λe=>?_⟩
 ·have e:f.vals.length=0:=by have:=beq_iff_eq.1 e;omega
  have e2:=aaY e;refine⟨by decide,⟨by omega,by omega,λ_=>h2,h1⟩,by omega,Ed ?_⟩;rw[e2];rfl
 ·have e:f.vals≠[]:=λq=>by rw[q] at e;cases e
  refine⟨⟨by omega,by omega,λ_=>h2,h1⟩,by omega,Mg ?_⟩;unfold dl;rw[if_neg e];rfl
abbrev stC:List CS:=[.d .str,.d tI,.d tI,.d tI,.d (.list .str),.own (.st 3) 87,.own (.st 10) 42,.d tI,.d tI,.d .bool,.d (.list .limb),.d (.list .limb),.d tI,.d .str,.own .str 9,.own (.st 7) 189,.own (.st 6) 188,.d tI,.d tI]
abbrev sT:SS:=.box 118 stC
abbrev aW:=eB stC
def aW.f (x:aW):Int×Int:=(x.2.2.2.2.2.2.2.2.2.2.2.2.2.2.2.2.2.1,x.2.2.2.2.2.2.2.2.2.2.2.2.2.2.2.2.2.2.1)
def aW.err (x:aW):Int:=x.f.1
def aW.setF (x:aW) (p:Int×Int):aW:=(x.1,x.2.1,x.2.2.1,x.2.2.2.1,x.2.2.2.2.1,x.2.2.2.2.2.1,x.2.2.2.2.2.2.1,x.2.2.2.2.2.2.2.1,x.2.2.2.2.2.2.2.2.1,x.2.2.2.2.2.2.2.2.2.1,x.2.2.2.2.2.2.2.2.2.2.1,x.2.2.2.2.2.2.2.2.2.2.2.1,x.2.2.2.2.2.2.2.2.2.2.2.2.1,x.2.2.2.2.2.2.2.2.2.2.2.2.2.1,x.2.2.2.2.2.2.2.2.2.2.2.2.2.2.1,x.2.2.2.2.2.2.2.2.2.2.2.2.2.2.2.1,x.2.2.2.2.2.2.2.2.2.2.2.2.2.2.2.2.1,p.1,p.2,())
def aW.note (x:aW) (no line:Int):aW:=x.setF (nt x.f no line)
theorem ug {x:aW} (line:Int):x.note 0 line=x:=congrArg x.setF (Oq line)
abbrev Jz (r:XV) (x:aW):XV×aW×Unit:=(r,x,())
abbrev sBb:SS:=.box 91 [.d .str,.d .str,.d (.list (.st 0)),.d tI]
abbrev sBk:SS:=.st 1
abbrev jw:=eB [.d .str,.d .str,.d (.list (.st 0)),.d tI]
def aW.cont (x:aW):List ae:=List.reverse (α:=ae) x.2.2.2.2.2.1
def aW.snm (x:aW):List ByteArray:=List.reverse (α:=ByteArray) x.2.2.2.2.2.2.1
def aW.styl (x:aW):List aj:=x.snm.map λn=>⟨n,[],[]⟩
def aW.seen (x:aW):List ByteArray:=List.reverse (α:=ByteArray) x.2.2.2.2.2.2.2.2.2.2.2.2.2.2.1
def aW.lines (x:aW):List (Int×Int):=List.reverse (α:=Int×Int) x.2.2.2.2.2.2.2.2.2.2.2.2.2.2.2.1
def aW.names (x:aW):List (List ByteArray×List ByteArray):=List.reverse (α:=List ByteArray×List ByteArray) x.2.2.2.2.2.2.2.2.2.2.2.2.2.2.2.2.1
def aW.line (x:aW):Int:=x.f.2
def aW.e (x:aW):aa:=⟨x.1,x.2.1,x.2.2.1,x.2.2.2.1,x.2.2.2.2.1,x.cont,x.styl,x.2.2.2.2.2.2.2.1,x.2.2.2.2.2.2.2.2.1,⟨x.2.2.2.2.2.2.2.2.2.1,x.2.2.2.2.2.2.2.2.2.2.1,x.2.2.2.2.2.2.2.2.2.2.2.1⟩,x.2.2.2.2.2.2.2.2.2.2.2.2.1,x.2.2.2.2.2.2.2.2.2.2.2.2.2.1⟩
def aW.r (x:aW):eD:=⟨x.e,x.seen,x.lines,x.names,⟨x.err,x.line⟩⟩
section
variable {L:Type} (back:Bool->Int->Int->L) (out:Bool->Int->L) (len:Nat) (at':Nat->ByteArray) (c:Bool) (nm:ByteArray)
def hdB (same:Bool) (n i:Int):T L:=.br (decide (i<len)) (.br c (.br same (.nd (cw (n+1)) (.nd (cw (i+1)) (.lf (back true (n+1) (i+1))))) (.nd (0<=i/\i<len) (.nd (cw (n+1)) (.nd (cw (i+1)) (.lf (back ((at' i.toNat).toList==nm.toList) (n+1) (i+1))))))) (.lf (out same n))) (.lf (out same n))
def hdAny:Nat->Nat->Bool
 | 0,_=>false
 | k+1,i=>decide (at' i=nm)||hdAny k (i+1)
def P9 (same:Bool) (i:Int):Bool:=same||(c&&hdAny at' nm (len-i.toNat) i.toNat)
def Ln (n:Int):Int:=bif c then len else n
def hdP (n i:Int):Prop:=0<=i/\i<=len/\(c=true->n=i)
theorem I6 {same:Bool} {n i:Int} (hl:len<=9223372036854775807) (hp:hdP len c n i):∃q,(hdB back out len at' c nm same n i).hit q/\(q=out (P9 len at' c nm same i) (Ln len c n)\/∃s' n',q=back s' n' (i+1)/\i<len/\hdP len c n' (i+1)/\P9 len at' c nm s' (i+1)=P9 len at' c nm same i/\Ln len c n'=Ln len c n):=by
 obtain⟨h0,h1,h2⟩:=hp;obtain⟨k,rfl⟩:∃k:Nat,i=k:=⟨i.toNat,by omega⟩;by_cases hk:k<len
 ·cases c with
  | true=>
   obtain rfl:=h2 rfl;have e1:((k:Int)+1).toNat=k+1:=by omega
   have e2:len-k=(len-(k+1))+1:=by omega
   cases same with
   | true=>exact⟨_,aC (decide_eq_true (by omega)) (aC rfl (aC rfl ⟨⟨by omega,by omega⟩,⟨by omega,by omega⟩,rfl⟩)),.inr ⟨_,_,rfl,by omega,⟨by omega,by omega,λ_=>rfl⟩,rfl,rfl⟩⟩
   | false=>
    refine⟨_,aC (decide_eq_true (by omega)) (aC rfl (aK rfl ⟨⟨by omega,by omega⟩,⟨by omega,by omega⟩,⟨by omega,by omega⟩,rfl⟩)),.inr ⟨_,_,rfl,by omega,⟨by omega,by omega,λ_=>rfl⟩,?_,rfl⟩⟩;unfold P9;rw[e1,aae,e2,cO];simp only[hdAny,acO,acY]
  | false=>exact⟨_,aC (decide_eq_true (by omega)) (aK rfl rfl),.inl (by unfold P9 Ln;simp)⟩
 ·refine⟨_,aK (decide_eq_false (by omega)) rfl,.inl ?_⟩;unfold P9 Ln;rw[aae,show len-k=0 by omega];cases c with
  | true=>obtain rfl:=h2 rfl;simp only[hdAny,Bool.and_false,Bool.or_false];congr 1;show(k:Int)=len;omega
  | false=>simp
end
theorem Dg {α:Type} (f:α->ByteArray) (d:α) (nm:ByteArray):∀(l:List α) (k:Nat),k<=l.length->hdAny (λi=>f (l.getD i d)) nm (l.length-k) k=(l.drop k).any λx=>decide (f x=nm):=by
 intro l k hk;obtain⟨j,hj⟩:∃j,l.length-k=j:=⟨_,rfl⟩;induction j generalizing k with
 | zero=>rw[hj,aaQ (by omega)];rfl
 | succ j ih=>
  rw[hj,getD_drop d (by omega),ac1,<-ih (k+1) (by omega) (by omega),show l.length-(k+1)=j by omega];rfl
abbrev hdL (s:Nat):List (Nat×SS):=[(0,sT),(3,sBb),(4,sB),(5,sB),(6,sI),(s,sI)]
abbrev hdO:List (Nat×SS):=[(0,sT),(3,sBb),(4,sB),(5,sB),(6,sI)]
def AM (s:Nat) (x:aW) (b:jw) (cQ same:Bool) (n i:Int):LE (hdL s) hdO [(0,sT)]:=.back (x,b,cQ,same,n,i,())
def tt (s:Nat) (x:aW) (b:jw) (cQ same:Bool) (n:Int):LE (hdL s) hdO [(0,sT)]:=.out (x,b,cQ,same,n,())
def is (k:ByteArray) (b:jw):Bool:=b.1.toList==k.toList
theorem P3:cL (EK C3 Tryz.f110 [0]) 0 0 (hdL 7) hdO [(0,sT)] λ((x:aW),(b:jw),(cQ:Bool),(same:Bool),(n:Int),(i:Int),_)=>
 .nd (hdP x.cont.length (is ar b) n i) (.lf (tt 7 x b cQ (P9 x.cont.length (λi=>(x.cont.getD i ae.zero).name) (is ar b) b.2.1 same i) (Ln x.cont.length (is ar b) n))):=by
  refine fy _ (nL _ _) 99 0 0 (hdL 7) hdO [(0,sT)] (λ((x:aW),(b:jw),(cQ:Bool),(same:Bool),(n:Int),(i:Int),_)=>hdB (AM 7 x b cQ) (tt 7 x b cQ) (List.length (α:=ae) x.2.2.2.2.2.1) (λi=>(x.cont.getD i ae.zero).name) (is ar b) b.2.1 same n i)
   (λ((x:aW),_,_,_,_,(i:Int),_)=>x.cont.length-i.toNat) ?_
  rintro⟨(x:aW),(b:jw),(cQ:Bool),(same:Bool),(n:Int),(i:Int),_⟩ r rh ⟨hp,hr⟩;have hl2:List.length (α:=ae) x.2.2.2.2.2.1=x.cont.length:=(aaP (α:=ae)).symm;have hl:x.cont.length<=9223372036854775807:=hl2▸(rh.1.2.2.2.2.2.1:List.length (α:=ae) x.2.2.2.2.2.1<=_);obtain⟨q,h1,h2⟩:=I6 (AM 7 x b cQ) (tt 7 x b cQ) x.cont.length (λi=>(x.cont.getD i ae.zero).name) (is ar b) b.2.1 (same:=same) hl hp;refine⟨q,by show T.hit (hdB _ _ (List.length (α:=ae) x.2.2.2.2.2.1) _ _ _ _ _ _) _;rw[hl2];exact h1,?_⟩;rcases h2 with rfl|⟨s',n',rfl,h3,h4,h5,h6⟩
  ·exact hr
  ·refine⟨?_,h4,?_⟩
   ·have:=hp.1;show x.cont.length-(i+1).toNat<x.cont.length-i.toNat;omega
   ·show tt _ _ _ _ _ _=_;rw[h5,h6];exact hr
theorem P2:cL (EK C3 Tryz.f110 [0]) 1 2 (hdL 8) hdO [(0,sT)] λ((x:aW),(b:jw),(cQ:Bool),(same:Bool),(n:Int),(i:Int),_)=>
 .nd (hdP x.snm.length (is aG b) n i) (.lf (tt 8 x b cQ (P9 x.snm.length (λi=>x.snm.getD i ⟨#[]⟩) (is aG b) b.2.1 same i) (Ln x.snm.length (is aG b) n))):=by
  refine fy _ (nL _ _) 99 1 2 (hdL 8) hdO [(0,sT)] (λ((x:aW),(b:jw),(cQ:Bool),(same:Bool),(n:Int),(i:Int),_)=>hdB (AM 8 x b cQ) (tt 8 x b cQ) (List.length (α:=ByteArray) x.2.2.2.2.2.2.1) (λi=>x.snm.getD i ⟨#[]⟩) (is aG b) b.2.1 same n i)
   (λ((x:aW),_,_,_,_,(i:Int),_)=>x.snm.length-i.toNat) ?_
  rintro⟨(x:aW),(b:jw),(cQ:Bool),(same:Bool),(n:Int),(i:Int),_⟩ r rh ⟨hp,hr⟩;have hl2:List.length (α:=ByteArray) x.2.2.2.2.2.2.1=x.snm.length:=(aaP (α:=ByteArray)).symm;have hl:x.snm.length<=9223372036854775807:=hl2▸(rh.1.2.2.2.2.2.2.1:List.length (α:=ByteArray) x.2.2.2.2.2.2.1<=_);obtain⟨q,h1,h2⟩:=I6 (AM 8 x b cQ) (tt 8 x b cQ) x.snm.length (λi=>x.snm.getD i ⟨#[]⟩) (is aG b) b.2.1 (same:=same) hl hp;refine⟨q,by show T.hit (hdB _ _ (List.length (α:=ByteArray) x.2.2.2.2.2.2.1) _ _ _ _ _ _) _;rw[hl2];exact h1,?_⟩;rcases h2 with rfl|⟨s',n',rfl,h3,h4,h5,h6⟩
  ·exact hr
  ·refine⟨?_,h4,?_⟩
   ·have:=hp.1;show x.snm.length-(i+1).toNat<x.snm.length-i.toNat;omega
   ·show tt _ _ _ _ _ _=_;rw[h5,h6];exact hr
abbrev SR:=XV×aW×Unit
def Sz (x:aW) (line c:Int):T SR:=.nd ((0:Int)≠c) (.lf (Jz (.tup []) (x.note c line)))
def aaB (x:aW) (b:ak) (cQ:Bool):T SR:=.br (!cQ) (.br (decide (Lib.idxOfS x.seen b.kind>=0)) (Sz x b.line 3) (.lf (Jz (.tup []) x))) (.lf (Jz (.tup []) x))
def Vk (x:aW) (b:ak) (cQ:Bool):T SR:=.br (!cQ) (.br (!(b.name.toList==(⟨#[]⟩:ByteArray).toList)) (Sz x b.line 2) (aaB x b cQ)) (aaB x b cQ)
def P7 (x:aW) (b:ak) (cQ:Bool) (n:Int):T SR:=.br (b.kind.toList==aG.toList) (.br (decide (n>=6)) (Sz x b.line 7) (Vk x b cQ)) (Vk x b cQ)
def aaC (x:aW) (b:ak) (cQ:Bool) (n:Int):T SR:=.br (b.kind.toList==ar.toList) (.br (decide (n>=4)) (Sz x b.line 7) (P7 x b cQ n)) (P7 x b cQ n)
def Vl (x:aW) (b:ak) (cQ same:Bool) (n:Int):T SR:=.br cQ (.br same (Sz x b.line 3) (aaC x b cQ n)) (aaC x b cQ n)
def aaD (x:aW) (b:ak) (cQ same:Bool) (n:Int):T SR:=.br cQ (.nd (b.name.size<=9223372036854775807) (.br (!iu b.name.data.toList) (Sz x b.line 8) (.br (decide ((b.name.size:Int)>24)) (Sz x b.line 8) (Vl x b cQ same n)))) (Vl x b cQ same n)
def af0 (x:aW) (b:ak) (cQ same:Bool) (n:Int):T SR:=.br cQ (.br (b.name.toList==(⟨#[]⟩:ByteArray).toList) (Sz x b.line 6) (aaD x b cQ same n)) (aaD x b cQ same n)
def aaE (x:aW) (b:ak) (cQ same:Bool) (n:Int):T SR:=.br (aO b.kind).isEmpty (Sz x b.line 2) (af0 x b cQ same n)
def P8 (x:aW) (b:ak):Bool:=P9 x.snm.length (λi=>x.snm.getD i ⟨#[]⟩) (b.kind.toList==aG.toList) b.name (P9 x.cont.length (λi=>(x.cont.getD i ae.zero).name) (b.kind.toList==ar.toList) b.name false 0) 0
def F9 (x:aW) (b:ak):Int:=Ln x.snm.length (b.kind.toList==aG.toList) (Ln x.cont.length (b.kind.toList==ar.toList) 0)
def aaF (x:aW) (b:ak) (cQ:Bool):T SR:=.nd (hdP x.cont.length (b.kind.toList==ar.toList) 0 0) (.nd (hdP x.snm.length (b.kind.toList==aG.toList) (Ln x.cont.length (b.kind.toList==ar.toList) 0) 0) (aaE x b cQ (P8 x b) (F9 x b)))
theorem oS {α:Type} {F:Int->α} {a b:Bool} {X Y:T α} {P:Prop} [Decidable P] {c d:Int} (hP:P↔a=true/\b=true) (hX:X.hit (F c)) (hY:Y.hit (F d)):(T.br a (.br b X Y) Y).hit (F (if P then c else d)):=by
 by_cases h:P
 ·rw[if_pos h];exact aC (hP.1 h).1 (aC (hP.1 h).2 hX)
 ·rw[if_neg h];cases a with
  | false=>exact aK rfl hY
  | true=>exact aC rfl (aK (by cases b with|false=>rfl|true=>exact absurd (hP.2 ⟨rfl,rfl⟩) h) hY)
theorem adG {α:Type} {F:Int->α} {a b:Bool} {X Y:T α} {P:Prop} [Decidable P] {c d:Int} (hP:P↔a=true\/b=true) (hX:X.hit (F c)) (hY:Y.hit (F d)):(T.br a X (.br b X Y)).hit (F (if P then c else d)):=by
 by_cases h:P
 ·rw[if_pos h];cases a with
  | true=>exact aC rfl hX
  | false=>exact aK rfl (aC (by cases b with|true=>rfl|false=>rcases hP.1 h with h|h<;>cases h) hX)
 ·rw[if_neg h];cases a with
  | true=>exact absurd (hP.2 (.inl rfl)) h
  | false=>exact aK rfl (aK (by cases b with|false=>rfl|true=>exact absurd (hP.2 (.inr rfl)) h) hY)
theorem Nt {α:Type} {F:Int->α} {a:Bool} {X Y:T α} {P:Prop} [Decidable P] {c d:Int} (hP:P↔a=true) (hX:X.hit (F c)) (hY:Y.hit (F d)):(T.br a X Y).hit (F (if P then c else d)):=by
 by_cases h:P
 ·rw[if_pos h];exact aC (hP.1 h) hX
 ·rw[if_neg h];exact aK (by cases a with|false=>rfl|true=>exact absurd (hP.2 rfl) h) hY
def I7 (x:aW) (line c:Int):SR:=Jz (.tup []) (x.note c line)
theorem kb {x:aW} {line c:Int} (h:(0:Int)≠c):(Sz x line c).hit (I7 x line c):=⟨h,rfl⟩
theorem zw {x y:ByteArray}:(x.toList==y.toList)=true↔x=y:=by rw[cO,decide_eq_true_eq]
theorem Vj (x:aW) (b:ak) (hs:b.name.size<=9223372036854775807) (cQ:Bool) (hm:cQ=ij b.kind):(aaE x b cQ (P8 x b) (F9 x b)).hit (I7 x b.line (jq x.r b.kind b.name)):=by
 have fR:b.kind=ar->b.kind≠aG:=λh e=>absurd (h.symm.trans e) (by decide);have hc:(b.kind.toList==ar.toList)=decide (b.kind=ar):=cO;have fo:(b.kind.toList==aG.toList)=decide (b.kind=aG):=cO;have hE:cQ=true->(P8 x b=true↔((b.kind=ar/\(x.cont.any λc=>decide (c.name=b.name))=true)\/(b.kind=aG/\(x.styl.any λc=>decide (c.name=b.name))=true))):=λ_=>by
  unfold P8 P9;have eu:(x.styl.any λc=>decide (c.name=b.name))=x.snm.any λn=>decide (n=b.name):=by unfold aW.styl;rw[List.any_map];rfl
  rw[eu,hc,fo,Int.toNat_zero,Dg (λs:ByteArray=>s) ⟨#[]⟩ b.name x.snm 0 (abz _),Dg (λs:ae=>s.name) ae.zero b.name x.cont 0 (abz _),acr,acr];simp
 have hN1:b.kind=ar->F9 x b=x.cont.length:=λh=>by
  unfold F9 Ln;rw[hc,fo,decide_eq_true h,decide_eq_false (fR h)];rfl
 have hN2:b.kind=aG->F9 x b=x.styl.length:=λh=>by
  unfold F9 Ln aW.styl;rw[fo,decide_eq_true h,acf];rfl
 unfold aaE jq;refine Nt (F:=I7 x b.line) (by rw[List.isEmpty_iff]) (kb (by decide)) ?_;unfold af0;refine oS (F:=I7 x b.line) (by rw[hm,zw]) (kb (by decide)) ?_;have h4:(Vl x b cQ (P8 x b) (F9 x b)).hit (I7 x b.line (if ij b.kind=true/\((b.kind=ar/\(x.r.e.cont.any λc=>decide (c.name=b.name))=true)\/(b.kind=aG/\(x.r.e.styl.any λc=>decide (c.name=b.name))=true)) then 3 else if(b.kind=ar/\4<=x.r.e.cont.length)\/(b.kind=aG/\6<=x.r.e.styl.length) then 7 else if ij b.kind=false/\b.name≠⟨#[]⟩ then 2 else if ij b.kind=false/\dc x.r.seen b.kind=true then 3 else 0)):=by
  unfold Vl;refine oS (F:=I7 x b.line) ⟨λ⟨h1,h2⟩=>⟨hm.trans h1,(hE (hm.trans h1)).2 h2⟩,λ⟨h1,h2⟩=>⟨hm.symm.trans h1,(hE h1).1 h2⟩⟩ (kb (by decide)) ?_;have h6:(Vk x b cQ).hit (I7 x b.line (if ij b.kind=false/\b.name≠⟨#[]⟩ then 2 else if ij b.kind=false/\dc x.r.seen b.kind=true then 3 else 0)):=by
   unfold Vk;refine oS (F:=I7 x b.line) (by rw[hm,cO];simp) (kb (by decide)) ?_;unfold aaB;refine oS (F:=I7 x b.line) (by rw[hm];unfold dc;simp;exact λ_=>Iff.rfl) (kb (by decide)) ?_;exact congrArg (Jz _) (ug _).symm
  unfold aaC P7;by_cases h1:b.kind=ar
  ·refine aC (by rw[hc];exact decide_eq_true h1) ?_;refine Nt (F:=I7 x b.line) ?_ (kb (by decide)) (aK (by rw[fo];exact decide_eq_false (fR h1)) h6);rw[hN1 h1,decide_eq_true_eq];exact⟨λh=>h.elim (λh=>Int.ofNat_le.2 h.2) λh=>absurd h.1 (fR h1),λh=>.inl ⟨h1,Int.ofNat_le.1 h⟩⟩
  ·refine aK (by rw[hc];exact decide_eq_false h1) ?_;refine oS (F:=I7 x b.line) ?_ (kb (by decide)) h6;rw[fo,decide_eq_true_eq,decide_eq_true_eq];exact⟨λh=>h.elim (λh=>absurd h.1 h1) λh=>⟨h.1,by rw[hN2 h.1];exact Int.ofNat_le.2 h.2⟩,λh=>.inr ⟨h.1,by have:=h.2;rw[hN2 h.1] at this;exact Int.ofNat_le.1 this⟩⟩
 unfold aaD;cases cQ with
 | false=>
  refine aK rfl ?_;rw[if_neg (by rw[<-hm];simp)];exact h4
 | true=>
  refine aC rfl ⟨hs,adG (F:=I7 x b.line) ?_ (kb (by decide)) h4⟩;rw[<-hm];simp only[true_and,acs,decide_eq_true_eq];exact or_congr Iff.rfl (by show 24<b.name.size↔(24:Int)<(b.name.size:Int);omega)
theorem P4:ew Tryz.prog 110 [0] [(0,sT),(1,sBk)] [(0,sT)] λ((x:aW),(b:ak),_)=>.nd (b.name.size<=9223372036854775807) (.lf (Jz (.tup []) (x.note (jq x.r b.kind b.name) b.line))):=by
 refine iA (C:=C3) (pb:=[0]) (((nL _ _).add 0 _ P3).add 1 _ P2) 99 [(0,sT),(1,sBk)] [(0,sT)] (λ((x:aW),(b:ak),_)=>.br (b.kind.toList==ar.toList) (aaF x b true) (aaF x b (b.kind.toList==aG.toList))) ?_ Tryz.func110;rintro⟨(x:aW),(b:ak),_⟩ r rh ⟨hs,hr⟩;obtain rfl:I7 x b.line (jq x.r b.kind b.name)=r:=hr;have h0:∀cQ,cQ=ij b.kind->(aaF x b cQ).hit (I7 x b.line (jq x.r b.kind b.name)):=λcQ hm=>by
  refine⟨⟨by omega,by omega,λ_=>rfl⟩,⟨by omega,by omega,λh=>?_⟩,Vj x b hs cQ hm⟩;unfold Ln;rw[cO,decide_eq_false λe=>absurd (e.symm.trans (zw.1 h)) (by decide)];rfl
 by_cases h:b.kind=ar
 ·exact aC (zw.2 h) (h0 true (by unfold ij;rw[decide_eq_true h];rfl))
 ·refine aK (by rw[cO];exact decide_eq_false h) (h0 _ ?_);unfold ij;rw[decide_eq_false h,cO];rfl
abbrev YC:SS:=.box 87 [.d .str,.d (.list .str),.d tI,.d tI,.d tI,.d tI,.d tI,.d tI,.d tI]
abbrev aes:List Nat:=[0,1,2,3,4,5,6,7,8,9,10,11,12,13,14,15,16,17,18]
abbrev nD:=eB [.d .str,.d (.list .str),.d tI,.d tI,.d tI,.d tI,.d tI,.d tI,.d tI]
def Mw (c:ae):nD:=(c.name,c.cands,c.method,c.seats,c.ranks,c.digits,c.ties,c.over,c.skip,())
def Mx (c:nD):ae:=⟨c.1,c.2.1,c.2.2.1,c.2.2.2.1,c.2.2.2.2.1,c.2.2.2.2.2.1,c.2.2.2.2.2.2.1,c.2.2.2.2.2.2.2.1,c.2.2.2.2.2.2.2.2.1⟩
noncomputable def C4:eP Tryz.prog:=bA pG [⟨_,_,_,find_ok⟩,⟨_,_,_,mP⟩,⟨_,_,_,pC⟩,⟨_,_,_,Ai⟩,⟨_,_,_,nK⟩,⟨_,_,_,qg⟩] [⟨_,_,_,_,_,jN⟩,⟨_,_,_,_,_,rk⟩,⟨_,_,_,_,_,Pq⟩,⟨_,_,_,_,_,V4⟩,⟨_,_,_,_,_,B7⟩,⟨_,_,_,_,_,vJ⟩]
def fOk (f:ai):Prop:=E9 f.vals/\f.vals.length<=1099511627776
theorem BH {l:List ByteArray} (h:E9 l):(bf l).size<=9223372036854775807:=by
 unfold bf;split
 ·exact abz _
 ·match l with
  | []=>exact abz _
  | x::_=>exact h x aaz
theorem js {α β:Type} {F:α->β} {b:Bool} {X Y:T β} {P:Prop} [Decidable P] {c d:α} (hP:P↔b=true) (hX:X.hit (F c)) (hY:Y.hit (F d)):(T.br b X Y).hit (F (if P then c else d)):=by
 by_cases h:P
 ·rw[if_pos h];exact aC (hP.1 h) hX
 ·rw[if_neg h];exact aK (by cases b with|false=>rfl|true=>exact absurd (hP.2 rfl) h) hY
abbrev CR3:=XV×gx×nD×Unit
def Jj (x:gx) (line:Int) (v:ae×Int):CR3:=(.tup [],x.note v.2 line,Mw v.1,())
def ctI (x:gx) (f:ai) (v:ae×Int):T CR3:=.nd ((bf f.vals).size<=9223372036854775807) (.lf (Jj x f.line v))
def ctW (x:gx) (f:ai) (w:List ByteArray) (v:ae×Int):T CR3:=.nd (w.length<=99) (.lf (Jj x f.line v))
def QY (x:gx) (c:ae) (f:ai):T CR3:=
 .br (f.key.toList==bg.toList) (ctW x f gg ({ c with method:=jT f.vals gg },pk f.vals gg))
 (.br (f.key.toList==bH.toList) (ctI x f ({ c with seats:=lm f.vals },qY f.vals 1 5))
 (.br (f.key.toList==gB.toList) (ctI x f ({ c with ranks:=lm f.vals },qY f.vals 1 7))
 (.br (f.key.toList==aH.toList) (ctI x f ({ c with digits:=lm f.vals },qY f.vals 1 6))
 (.br (f.key.toList==il.toList) (ctW x f kF ({ c with ties:=jT f.vals kF },pk f.vals kF))
 (.br (f.key.toList==ck.toList) (ctW x f kH ({ c with over:=jT f.vals kH },pk f.vals kH))
 (.br (f.key.toList==im.toList) (ctW x f kG ({ c with skip:=jT f.vals kG },pk f.vals kG))
 (.nd (E9 f.vals/\(0:Int)<=7/\f.vals.length<=1099511627776) (.lf (Jj x f.line ({ c with cands:=f.vals },dl f.vals 7))))))))))
theorem QX:ew Tryz.prog 112 aes [(0,sN),(1,YC),(2,sF)] [(0,sN),(1,YC)] λ((x:gx),(c:nD),(f:ai),_)=>.nd (fOk f) (.lf (Jj x f.line (kg (Mx c) f))):=by
 refine iA (C:=C4) (pb:=aes) (nL _ _) 99 [(0,sN),(1,YC),(2,sF)] [(0,sN),(1,YC)] (λ((x:gx),(c:nD),(f:ai),_)=>QY x (Mx c) f) ?_ Tryz.func112;rintro⟨(x:gx),(c:nD),(f:ai),_⟩ r _ ⟨⟨h1,h2⟩,hr⟩;obtain rfl:Jj x f.line (kg (Mx c) f)=r:=hr;have hi:∀v,(ctI x f v).hit (Jj x f.line v):=λv=>⟨BH h1,rfl⟩;have hw:∀w v,w.length<=99->(ctW x f w v).hit (Jj x f.line v):=λw v h=>⟨h,rfl⟩;show(QY x (Mx c) f).hit _;unfold QY kg;exact js (F:=Jj x f.line) zw.symm (hw _ _ (by decide)) (js (F:=Jj x f.line) zw.symm (hi _) (js (F:=Jj x f.line) zw.symm (hi _) (js (F:=Jj x f.line) zw.symm (hi _) (js (F:=Jj x f.line) zw.symm (hw _ _ (by decide)) (js (F:=Jj x f.line) zw.symm (hw _ _ (by decide)) (js (F:=Jj x f.line) zw.symm (hw _ _ (by decide)) ⟨⟨h1,by decide,h2⟩,rfl⟩))))))
theorem jf.fr {α:Type} [aA α] {w:World} {e:TypeId} {xs:List α} {en:Ending} {w':World} (h:jf w e xs en w'):∃A n c,en=.returned (.slice A n c)/\n=xs.length/\RS w' (dM w w') A n c xs/\Below w.heap.size w w':=by
 obtain⟨v,rfl,ho,hb⟩:=h;obtain⟨A,n,c,rfl,hn⟩:=ho.slice;exact⟨A,n,c,rfl,hn,ho.fresh (aaG _),hb⟩
theorem MO (m:Nat) (hm:m<18446744073709551616) (w:World):Calls Tryz.prog 237 #[.int .u64 m] w (jf w 4 (bits m)):=by
 have hv:=On m hm;obtain⟨x,hx⟩:∃x,BitVec.ofNat 32 m=x:=⟨_,rfl⟩;obtain⟨y,hy⟩:∃y,BitVec.ofNat 32 (m/4294967296)=y:=⟨_,rfl⟩;have h1:IntKind.u32.wrap (m:Int)=(x.toNat:Int):=by rw[<-hx,IntKind.wrap_u32,BitVec.toNat_ofNat];omega
 have h2:IntKind.u32.wrap ((m:Int)/4294967296)=(y.toNat:Int):=by rw[<-hy,IntKind.wrap_u32,BitVec.toNat_ofNat];omega
 rw[hx,hy] at hv;have HV:=zH hv;clear hv hx hy;go_enter Tryz.func237,Tryz.ntmps237;go_wp2_with fail;have hb:Below w.heap.size w (w.alloc (.cells #[.int .u32 (x.toNat:Int),.int .u32 (y.toNat:Int)] 172)):=(Below.refl _ _).alloc (aaG _) _;have hr:RS (w.alloc (.cells #[.int .u32 (x.toNat:Int),.int .u32 (y.toNat:Int)] 172)) (λb=>b<(w.alloc (.cells #[.int .u32 (x.toNat:Int),.int .u32 (y.toNat:Int)] 172)).heap.size) (some ⟨w.heap.size,0,none⟩) 2 2 [x,y]:=
  RS.of_blk (t:=172) (cs:=#[.int .u32 (x.toNat:Int),.int .u32 (y.toNat:Int)]) (df.new _ _ _) (Flat.limbs [x,y]) rfl (aaG _) (by decide) (by simp)
 refine(Do hr (λ_ h=>h) (by omega)).mono ?_;rintro e w2 ⟨v,rfl,ho,bX⟩;rw[HV.out] at ho;have HO:=zH (ho.base_le (aax hb.size (aaG _)));have HB:=zH (au hb bX);clear ho hb bX hr h1 h2;go_wp2_with fail;go_ret
 exact⟨_,rfl,HO.out,HB.out⟩
abbrev sBs:SS:=sD (.list .bool)
abbrev Ans (w:World) (S:Nat->Prop) (x:XV) (e:Ending) (w':World):Prop:=∃v S',e=.returned v/\Below w.heap.size w w'/\(∀b,S' b->(false=true/\S b)\/(w.heap.size<=b/\b<w'.heap.size))/\XR [] w' S' x v
section
variable {w w':World} {S:Nat->Prop} {ty:TypeId} {e:Ending} {P:Program} {f:FuncId}
theorem Me {t:Ty} {xs:List (El t)} (h:jf w ty xs e w'):Ans w S (.one (.list t xs false)) e w':=by
 obtain⟨A,q,c,rfl,_,h1,h2⟩:=h.fr;exact⟨_,dM w w',rfl,h2,λb q=>.inr q,A,q,c,rfl,h1,λe=>by cases e⟩
theorem anG {v:Value} (hv:v.oneCell'=true) (h:jk w v e w'):Ans w S (.one (.sym v)) e w':=⟨_,λ_=>False,h.1,h.2▸Below.refl _ _,λ_ q=>q.elim,rfl,hv⟩
abbrev L1 (t:Ty) (p:List (El t)->Prop) (F:List (El t)->XV):List XV->T XV:=az [(0,sD (.list t))] λ((xs:List (El t)),_)=>.nd (p xs) (.lf (F xs))
abbrev L2 (t:Ty) (p:List (El t)->List (El t)->Prop) (F:List (El t)->List (El t)->XV):List XV->T XV:=az [(0,sD (.list t)),(1,sD (.list t))] λ((xs:List (El t)),(ys:List (El t)),_)=>.nd (p xs ys) (.lf (F xs ys))
theorem abN {t:Ty} {p:List (El t)->Prop} {F:List (El t)->XV} (h:∀(S:Nat->Prop) (A:Option Addr) (c:Nat) (xs:List (El t)) (w:World),p xs->RS w S A xs.length c xs->(∀b,S b->b<w.heap.size)->Calls P f #[.slice A xs.length c] w (Ans w S (F xs))):ao P f false (L1 t p F):=
 gQ λw S x vs r hS he hl hr=>by
  obtain⟨(xs:List (El t)),_⟩:=x;obtain⟨v,h1,A,q,c,h2,h3,_⟩:=he 0 (.one (.list t xs false)) aaz;obtain⟨hp,rfl⟩:=hr
  match vs,hl,h1 with
  | [v'],_,h1=>
   injection h1 with h1
   obtain rfl:=h3.len;subst h1 h2;exact h S A c xs w hp h3 hS
theorem V8 {t:Ty} {p:List (El t)->List (El t)->Prop} {F:List (El t)->List (El t)->XV} (h:∀(S:Nat->Prop) (A:Option Addr) (c:Nat) (A2:Option Addr) (c2:Nat) (xs ys:List (El t)) (w:World),p xs ys->RS w S A xs.length c xs->RS w S A2 ys.length c2 ys->(∀b,S b->b<w.heap.size)->Calls P f #[.slice A xs.length c,.slice A2 ys.length c2] w (Ans w S (F xs ys))):ao P f false (L2 t p F):=
 gQ λw S x vs r hS he hl hr=>by
  obtain⟨(xs:List (El t)),(ys:List (El t)),_⟩:=x;obtain⟨v,h1,A,q,c,h2,h3,_⟩:=he 0 (.one (.list t xs false)) aaz;obtain⟨v',jh,A',q',c',EI,Lv,_⟩:=he 1 (.one (.list t ys false)) (aa0 _ aaz);obtain⟨hp,rfl⟩:=hr
  match vs,hl,h1,jh with
  | [u,u'],_,h1,jh=>
   injection h1 with h1
   injection jh with jh
   obtain rfl:=h3.len;obtain rfl:=Lv.len;subst h1 jh h2 EI;exact h S A c A' c' xs ys w hp h3 Lv hS
end
abbrev aL (t:Ty) (xs:List (El t)):XV:=.one (.list t xs false)
abbrev aBs (n:Nat):XV:=aL .bool (bits n)
def nB (k:Nat) (x:List Bool):Prop:=bits (av x)=x/\av x<k
theorem Iu {k n:Nat} (h:n<k):nB k (bits n):=⟨by rw[bm],by rw[bm];exact h⟩
theorem nB.len {x:List Bool} (h:nB (2^200) x):x.length<=200:=by rw[<-h.1];exact iC h.2 (aaG _)
theorem rA:ao Tryz.prog 128 false (az [(0,sI)] λ((n:Int),_)=>.nd (0<=n/\n<9223372036854775808) (.lf (.one (.list .bool (bits n.toNat) false)))):=
 gQ λw S x vs r hS he hl hr=>by
  obtain⟨(n:Int),_⟩:=x;obtain⟨v,h1,h2,_⟩:=he 0 (aI n) aaz;obtain⟨⟨hn,hn2⟩,rfl⟩:=hr
  match vs,hl,h1 with
  | [u],_,h1=>
   injection h1 with h1
   subst h1 h2;obtain⟨m,rfl⟩:∃m:Nat,n=m:=⟨n.toNat,by omega⟩;exact Calls.mono (BV m (by omega) w) λ_ _ h=>Me (t:=.bool) h
abbrev sU:SS:=sD (.int .u64)
theorem MK:ao Tryz.prog 237 false (az [(0,sU)] λ((n:Int),_)=>.nd (0<=n/\n<18446744073709551616) (.lf (aBs n.toNat))):=
 gQ λw S x vs r hS he hl hr=>by
  obtain⟨(n:Int),_⟩:=x;obtain⟨v,h1,h2,_⟩:=he 0 (.one (.sym (.int .u64 n))) aaz;obtain⟨⟨hn,hn2⟩,rfl⟩:=hr
  match vs,hl,h1 with
  | [u],_,h1=>
   injection h1 with h1
   subst h1 h2;obtain⟨m,rfl⟩:∃m:Nat,n=m:=⟨n.toNat,by omega⟩;exact Calls.mono (MO m (by omega) w) λ_ _ h=>Me (t:=.bool) h
theorem wJ:ao Tryz.prog 127 false (L1 .bool (λ(x:List Bool)=>nB (2^200) x) λ(x:List Bool)=>aS ⟨(bq (av x)).toArray⟩):=
 abN λS A c (x:List Bool) w hp h hS=>Calls.mono (LP (X:=av x) (by rw[hp.1];exact h) hS 200 (by decide) hp.2) λe w' h=>⟨_,λ_=>False,h.1,h.2,λ_ q=>q.elim,rfl,rfl⟩
theorem Vt:ao Tryz.prog 176 false (L2 .bool (λ(x y:List Bool)=>nB (2^200) x/\nB (2^200) y) λ(x y:List Bool)=>aBs (Nat.gcd (av x) (av y))):=
 V8 λS A c A2 c2 (x y:List Bool) w hp h1 h2 hS=>Calls.mono (Vu (X:=av x) (Y:=av y) (by rw[hp.1.1];exact h1) (by rw[hp.2.1];exact h2) hS hS 200 (by decide) hp.1.2 hp.2.2) λ_ _ h=>Me (t:=.bool) h
theorem Ue:ao Tryz.prog 236 false (L2 .bool (λ(x y:List Bool)=>x.length<=200/\y.length<=200) λ(x y:List Bool)=>aBs (av x*av y)):=
 V8 λS A c A2 c2 (x y:List Bool) w (hp:x.length<=200/\y.length<=200) h1 h2 hS=>Calls.mono (Uf (xs:=x) (ys:=y) h1 h2 hS hS (aax hp.1 (by decide)) (aax hp.2 (by decide))) λ_ _ h=>Me (t:=.bool) h
def anL (q r:Nat):XV:=.tup [(false,[.list .bool (bits q) false]),(false,[.list .bool (bits r) false])]
theorem Ru:ao Tryz.prog 174 false (L2 .bool (λ(x y:List Bool)=>x.length<=200/\y.length<=200/\0<av y) λ(x y:List Bool)=>anL (av x/av y) (av x%av y)):=
 V8 λS A c A2 c2 (x y:List Bool) w (hp:x.length<=200/\y.length<=200/\0<av y) h1 h2 hS=>Calls.mono (Bc (xs:=x) (ys:=y) h1 h2 hS hS (aax hp.1 (by decide)) (aax hp.2.1 (by decide)) hp.2.2) λe w' ⟨v1,v2,e0,o1,o2,hb⟩=>by
  obtain⟨A1,m1,c1,rfl,_⟩:=o1.slice;obtain⟨A2,m2,c2,rfl,_⟩:=o2.slice;exact⟨_,dM w w',e0,hb,λb q=>.inr q,[_,_],rfl,.cons ⟨_,rfl,_,_,_,rfl,o1.fresh (aaG _),λe=>by cases e⟩ (.cons ⟨_,rfl,_,_,_,rfl,o2.fresh (aaG _),λe=>by cases e⟩ .nil)⟩
theorem RA:ao Tryz.prog 129 false (L2 .bool (λ_ _=>True) λ(x y:List Bool)=>aI (jQ (av x) (av y))):=
 V8 λ_ _ _ _ _ (x y:List Bool) _ _ h1 h2 _=>Calls.mono (Jn (xs:=x) (ys:=y) h1 h2) λ_ _=>anG rfl
theorem Mb:ao Tryz.prog 131 false (L1 .limb (λ(x:List (BitVec 32))=>x.length<=1000000) λ(x:List (BitVec 32))=>aBs (val x)):=
 abN λ_ _ _ (x:List (BitVec 32)) _ hp h hS=>Calls.mono (Do (xs:=x) h hS hp) λ_ _ h=>Me (t:=.bool) h
theorem V9:ao Tryz.prog 235 false (L1 .bool (λ(x:List Bool)=>x.length<=1000000/\av x<4294967296) λ(x:List Bool)=>aL .limb (cJ (av x))):=
 abN λ_ _ _ (x:List Bool) _ (hp:x.length<=1000000/\av x<4294967296) h _=>Calls.mono (Yl (xs:=x) h hp.1 hp.2) λ_ _ h=>Me (t:=.limb) h
abbrev lk:=Bool×List Bool×List Bool
def QT (q:Q):lk:=(q.neg,bits q.n,bits q.d)
def uJ (x:lk):Q:=⟨x.1,av x.2.1,av x.2.2⟩
theorem rq (q:Q):uJ (QT q)=q:=by unfold uJ QT;simp only[bm]
abbrev sQ:SS:=.st 9
def aQ (q:Q):XV:=.agg (jS (.st 9) (QT q))
def aR (r:Raw):XV:=.agg (jS (.st 8) r)
noncomputable def Cf1:eP Tryz.prog:=bA pG [⟨_,_,_,rA⟩,⟨_,_,_,Vt⟩,⟨_,_,_,Ru⟩] []
def aeA:T XV:=.nd ((0:Int)<=1/\(1:Int)<9223372036854775808) (.lf (.agg [.sym (.bool false),.val (.slice none 0 0),.list .bool (bits (Int.toNat 1)) false]))
def akj (g:Bool) (x y d:List Bool):T XV:=.nd (x.length<=200/\d.length<=200/\0<av d) (.nd (y.length<=200/\d.length<=200/\0<av d) (.lf (.agg [.sym (.bool g),.list .bool (bits (av x/av d)) false,.list .bool (bits (av y/av d)) false])))
def Zj (g:Bool) (x y:List Bool):T XV:=.br ((x.length:Int)==0) aeA (.br ((y.length:Int)==0) aeA (.nd (nB (2^200) x/\nB (2^200) y) (akj g x y (bits (Nat.gcd (av x) (av y))))))
theorem ajl {w:World} {S:Nat->Prop} {v:Value} {a b:AV} (h:XR [] w S (.agg [a,.val (.slice none 0 0),b]) v):XR [] w S (.agg [a,.list .bool [] false,b]) v:=by
 obtain⟨vs,rfl,h⟩:=h;cases h with
 | cons h1 h=>
  cases h with
  | cons h2 h=>exact⟨_,rfl,.cons h1 (.cons ⟨none,0,0,h2.1,RS.nil _ _,λe=>by cases e⟩ h)⟩
theorem nB.zero {k:Nat} {x:List Bool} (h:nB k x):((x.length:Int)==0)=decide (av x=0):=by
 by_cases h0:av x=0
 ·have:=h.1;rw[h0,dL] at this;subst this;rfl
 ·rw[decide_eq_false h0,beq_eq_false_iff_ne];intro e;obtain rfl:=aaY (Int.natCast_inj.1 e);exact h0 rfl
theorem Ow:ao Tryz.prog 130 true (az [(0,sB),(1,sBs),(2,sBs)] λ((g:Bool),(x:List Bool),(y:List Bool),_)=>.nd (nB (2^200) x/\nB (2^200) y) (.lf (aQ (dN g (av x) (av y))))):=
 (aN (C:=Cf1) (nL _ _) true 99 [(0,sB),(1,sBs),(2,sBs)] (λ((g:Bool),(x:List Bool),(y:List Bool),_)=>Zj g x y) (λ_ _ _ h=>⟨h,.inl rfl⟩) Tryz.func130).imp λ⟨(g:Bool),(x:List Bool),(y:List Bool),_⟩ r ⟨⟨hx,hy⟩,h⟩=>by
  obtain rfl:aQ (dN g (av x) (av y))=r:=h;show∃q,(Zj g x y).hit q/\_;unfold Zj;rw[hx.zero,hy.zero];by_cases h0:av x=0\/av y=0
  ·have e:aQ (dN g (av x) (av y))=.agg [.sym (.bool false),.list .bool [] false,.list .bool (bits (Int.toNat 1)) false]:=by
    unfold dN;rw[if_pos h0];unfold aQ QT;rw[dL];rfl
   rw[e];refine⟨_,?_,λw S v h=>ajl h⟩;rcases h0 with h0|h0
   ·exact aC (decide_eq_true h0) ⟨by decide,rfl⟩
   ·by_cases h1:av x=0
    ·exact aC (decide_eq_true h1) ⟨by decide,rfl⟩
    ·exact aK (decide_eq_false h1) (aC (decide_eq_true h0) ⟨by decide,rfl⟩)
  ·have h1:av x≠0:=λe=>h0 (.inl e);have h2:av y≠0:=λe=>h0 (.inr e);have hg:0<Nat.gcd (av x) (av y):=Nat.gcd_pos_of_pos_left _ (by omega);have hl:(bits (Nat.gcd (av x) (av y))).length<=200:=iC (adM (Nat.gcd_le_left _ (by omega)) hx.2) (aaG _);refine⟨_,aK (decide_eq_false h1) (aK (decide_eq_false h2) ⟨⟨hx,hy⟩,⟨hx.len,hl,by rw[bm];exact hg⟩,⟨hy.len,hl,by rw[bm];exact hg⟩,rfl⟩),λw S v h=>?_⟩;rw[bm] at h;unfold dN;rw[if_neg h0];exact h
theorem tC {d:Nat}:bq d=[49]↔d=1:=by
 constructor
 ·intro h;unfold bq at h;split at h
  ·cases h
  ·rename_i h0;have h1:=congrArg List.reverse h;rw[aat,fT,dif_neg h0] at h1;injection h1 with h2 h3
   have h4:d/10=0:=by
    by_cases h:d/10=0
    ·exact h
    ·rw[fT,dif_neg h] at h3;cases h3
   have h5:=congrArg UInt8.toNat h2;unfold EL at h5;simp at h5;omega
 ·intro h;subst h;show(if(1:Nat)=0 then[48] else(fT 1).reverse)=[49];rw[if_neg (by omega),fT,dif_neg (by omega),show 1/10=0 from rfl,gr];rfl
theorem oL {X L:Nat} (h:X<2^L):(bq X).length<=L+2:=by
 unfold bq;split
 ·simp
 ·rw[aaP];have:=wI h;omega
def FB (n:Nat) (x:lk):Prop:=QT (uJ x)=x/\(uJ x).n<n/\(uJ x).d<n
theorem FB.n {k m:Nat} {x:lk} (h:FB k x) (hk:k<=m):nB m x.2.1:=⟨congrArg (λx=>x.2.1) h.1,abx h.2.1 hk⟩
theorem FB.d {k m:Nat} {x:lk} (h:FB k x) (hk:k<=m):nB m x.2.2:=⟨congrArg (λx=>x.2.2) h.1,abx h.2.2 hk⟩
noncomputable def Cf2:eP Tryz.prog:=bA pG [⟨_,_,_,rA⟩,⟨_,_,_,Ow⟩,⟨_,_,_,Ue⟩,⟨_,_,_,Mb⟩,⟨_,_,_,V9⟩,⟨_,_,_,MK⟩,⟨_,_,_,wJ⟩,⟨_,_,_,RA⟩] []
def T7 (g:Bool) (x y:Nat):T XV:=.nd (nB (2^200) (bits x)/\nB (2^200) (bits y)) (.lf (aQ (dN g (av (bits x)) (av (bits y)))))
theorem vz {g:Bool} {x y:Nat} (hx:x<2^200) (hy:y<2^200):(T7 g x y).hit (aQ (dN g x y)):=⟨⟨Iu hx,Iu hy⟩,by rw[bm,bm];rfl⟩
theorem Hb {l:List (BitVec 32)} (h:l.length<=6):val l<2^200:=by
 have h1:=dT l;have h2:4294967296^l.length<=4294967296^6:=acW (by omega) h;exact abx h1 (aax h2 (by decide))
theorem Qr:ao Tryz.prog 90 true (az [(0,.st 8)] λ((x:Raw),_)=>.nd (x.short 6) (.lf (aQ x.q))):=
 aN (C:=Cf2) (nL _ _) true 99 [(0,.st 8)] (λ((x:Raw),_)=>.nd (x.num.length<=1000000) (.nd (x.den.length<=1000000) (T7 x.neg (val x.num) (val x.den)))) (λ⟨(x:Raw),_⟩ r _ ⟨hs,h⟩=>by
  obtain rfl:aQ x.q=r:=h;exact⟨⟨aax hs.1 (by decide),aax hs.2 (by decide),vz (Hb hs.1) (Hb hs.2)⟩,.inl rfl⟩) Tryz.func90
def toB (x:lk):T XV:=.nd (x.2.1.length<=1000000/\av x.2.1<4294967296) (.nd (x.2.2.length<=1000000/\av x.2.2<4294967296) (.lf (aR (uJ x).raw)))
theorem Yk:ao Tryz.prog 202 true (az [(0,sQ)] λ((x:lk),_)=>.nd (FB 4294967296 x) (.lf (aR (uJ x).raw))):=
 aN (C:=Cf2) (nL _ _) true 99 [(0,sQ)] (λ((x:lk),_)=>toB x) (λ⟨(x:lk),_⟩ r _ ⟨hs,h⟩=>by
  obtain rfl:aR (uJ x).raw=r:=h;exact⟨⟨⟨aax (hs.n (m:=2^200) (by decide)).len (by decide),hs.2.1⟩,⟨aax (hs.d (m:=2^200) (by decide)).len (by decide),hs.2.2⟩,rfl⟩,.inl rfl⟩) Tryz.func202
def ofY (g:Bool) (u:Int):T XV:=.nd (0<=u/\u<18446744073709551616) (.nd ((0:Int)<=1/\(1:Int)<9223372036854775808) (T7 g u.toNat (Int.toNat 1)))
theorem Zh:ao Tryz.prog 204 true (az [(0,sI)] λ((n:Int),_)=>.nd (0<=n/\n<9223372036854775808) (.lf (aQ (dN false n.toNat 1)))):=
 aN (C:=Cf2) (nL _ _) true 99 [(0,sI)] (λ((n:Int),_)=>.br (decide (n<0)) (.nd (cw (n+1)) (ofY true (IntKind.u64.wrap (IntKind.u64.wrap (IntKind.i64.wrap (0-(n+1)))+1)))) (ofY false (IntKind.u64.wrap n))) (λ⟨(n:Int),_⟩ r _ ⟨hs,h⟩=>by
  obtain rfl:aQ (dN false n.toNat 1)=r:=h;refine⟨aK (decide_eq_false (by omega)) ?_,.inl rfl⟩;have e:IntKind.u64.wrap n=n:=by rw[IntKind.wrap_u64];omega
  rw[e];exact⟨⟨hs.1,by omega⟩,by decide,vz (abx (show n.toNat<9223372036854775808 by omega) (by decide)) (by decide)⟩) Tryz.func204
def LM (x y:Q):Q:=dN (x.neg !=y.neg) (x.n*y.d) (x.d*y.n)
def dvB (x y:lk):T XV:=.nd (x.2.1.length<=200/\y.2.2.length<=200) (.nd (x.2.2.length<=200/\y.2.1.length<=200) (T7 (x.1 !=y.1) (av x.2.1*av y.2.2) (av x.2.2*av y.2.1)))
theorem Iv {x y:Nat} (hx:x<2^100) (hy:y<2^100):x*y<2^200:=Nat.lt_of_lt_of_eq (Nat.mul_lt_mul'' hx hy) (by rw[<-Nat.pow_add])
theorem VN:ao Tryz.prog 203 true (az [(0,sQ),(1,sQ)] λ((x:lk),(y:lk),_)=>.nd (FB (2^100) x/\FB (2^100) y) (.lf (aQ (LM (uJ x) (uJ y))))):=
 aN (C:=Cf2) (nL _ _) true 99 [(0,sQ),(1,sQ)] (λ((x:lk),(y:lk),_)=>dvB x y) (λ⟨(x:lk),(y:lk),_⟩ r _ ⟨⟨hx,hy⟩,h⟩=>by
  obtain rfl:aQ (LM (uJ x) (uJ y))=r:=h;have l:2^100<=2^200:=acW (by omega) (by omega);exact⟨⟨⟨(hx.n l).len,(hy.d l).len⟩,⟨(hx.d l).len,(hy.n l).len⟩,vz (Iv hx.2.1 hy.2.2) (Iv hx.2.2 hy.2.1)⟩,.inl rfl⟩) Tryz.func203
def XI (n:Nat):ByteArray:=⟨(bq n).toArray⟩
def txE (s:ByteArray) (y:List Bool):T XV:=.nd ((0:Int)<=1/\(1:Int)<9223372036854775808) (.nd True (.br (!(jQ (av y) (av (bits (Int.toNat 1)))==0)) (.nd (nB (2^200) y) (.nd ((⟨#[47]⟩:ByteArray).size+(XI (av y)).size<=9223372036854775807) (.nd (s.size+((⟨#[47]⟩:ByteArray)++XI (av y)).size<=9223372036854775807) (.lf (aS (s++(⟨#[47]⟩++XI (av y)))))))) (.lf (aS s))))
def txT (x:lk):T XV:=.nd (nB (2^200) x.2.1) (.br x.1 (.nd ((⟨#[45]⟩:ByteArray).size+(XI (av x.2.1)).size<=9223372036854775807) (txE (⟨#[45]⟩++XI (av x.2.1)) x.2.2)) (txE (XI (av x.2.1)) x.2.2))
theorem DF {n:Nat} (h:n<2^200):(XI n).size<=202:=by
 show(bq n).toArray.size<=202;rw[acc];exact oL h
theorem He {s:List UInt8} {y:List Bool} (hy:nB (2^200) y) (hs:s.length<=1000):(txE ⟨s.toArray⟩ y).hit (aS ⟨(s++(if bq (av y)=[49] then[] else 47::bq (av y))).toArray⟩):=by
 have hl:=DF hy.2;refine⟨by decide,trivial,?_⟩;rw[bm];by_cases h:av y=1
 ·rw[if_pos (tC.2 h),acx];exact aK (by rw[h];rfl) rfl
 ·rw[if_neg λe=>h (tC.1 e)];refine aC ?_ ⟨hy,?_,?_,?_⟩
  ·unfold jQ;rw[show Int.toNat 1=1 from rfl];rcases Nat.lt_or_ge (av y) 1 with g|g
   ·rw[if_pos g];rfl
   ·rw[if_neg (by omega),if_neg h];rfl
  ·show 1+_<=_;omega
  ·rw[ac2];show s.toArray.size+(1+_)<=_;rw[acc];omega
  ·exact congrArg aS ((congrArg (λt=>_++t) (fG [47] _)).trans (fG _ _))
theorem Nf:ao Tryz.prog 89 false (az [(0,sQ)] λ((x:lk),_)=>.nd (FB (2^200) x) (.lf (aS ⟨(ib (uJ x)).toArray⟩))):=
 aN (C:=Cf2) (nL _ _) false 99 [(0,sQ)] (λ((x:lk),_)=>txT x) (λ⟨⟨(g:Bool),(x:List Bool),(y:List Bool)⟩,_⟩ r _ ⟨hs,h⟩=>by
  obtain rfl:aS ⟨(ib (uJ (g,x,y))).toArray⟩=r:=h;have hx:nB (2^200) x:=hs.n (aaG _);have hl:=oL hx.2;refine⟨⟨hx,?_⟩,.inr rfl⟩;unfold ib;cases g with
  | true=>
   refine aC rfl ⟨?_,?_⟩
   ·have:=DF hx.2;show 1+(XI (av x)).size<=_;omega
   ·have:=He (s:=[45]++bq (av x)) (hs.d (aaG _)) (by simp only[aaM,abA];omega);rw[<-fG] at this;exact this
  | false=>exact aK rfl (He (s:=bq (av x)) (hs.d (aaG _)) (by omega))) Tryz.func89
end Go.Proofs.YtdbpbfglhbiadaaGreatDoor
