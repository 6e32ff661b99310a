/- Tm3 Tm4 Tm5 Tf1 Tf2 -/
import Derived.Test.YtjlhbfbdcfajfaaGreatDoorW00
import Derived.Test.YtjlhbfbdcfajfaaGreatDoorW33
import Derived.Test.YtjlhbfbdcfajfaaGreatDoorW21
set_option maxHeartbeats 8000000
set_option maxRecDepth 100000
namespace Go.Proofs.YtjlhbfbdcfajfaaGreatDoor
open Go Go.RowKit
def I4 (k:ByteArray):List ByteArray→T XV
 | []=>.lf (.one (.val (.slice none 0 0)))
 | a::l=>.br (k.toList==a.toList) (.lf (.one (.list .str (aM a) true))) (I4 k l)
theorem zE {k:ByteArray}:∀{l:List ByteArray},(k∉l→aM k=[])→∃q,(I4 k l).hit q∧∀(w:World) (S:Nat→Prop) (v:Value),XR [] w S q v→XR [] w S (.one (.list .str (aM k) true)) v
 | [],h=>⟨_,rfl,fun w S v ⟨e,_⟩=>⟨none,0,0,e,by rw[h (by simp)];exact RS.nil _ _,fun _ _=>rfl⟩⟩
 | a::l,h=>by
  by_cases e:k=a
  ·subst e;exact⟨_,aX (by simp) rfl,fun _ _ _ h=>h⟩
  ·obtain⟨q,h1,h2⟩:=zE (k:=k) (l:=l) fun hl=>h (by simp[e,hl]);exact⟨q,bg (by rw[eE];exact decide_eq_false e) h1,h2⟩
theorem rH:av Tryz.prog 83 true (aU [(0,sS)] fun((s:ByteArray),_)=>.lf (.one (.list .str (aM s) true))):=
 av.imp (l0:=[(0,sS)]) (F:=fun((k:ByteArray),_)=>I4 k jb) (bz (C:=C1) (nL _ _) true 99 [(0,sS)] (fun((k:ByteArray),_)=>I4 k jb) (fun _ _ _ h=>⟨h,.inl rfl⟩) Tryz.func83) fun⟨(k:ByteArray),_⟩ r h=>by
  obtain rfl:XV.one (.list .str (aM k) true)=r:=h;refine zE fun h=>?_;simp only[jb,abq,abz,or_false,not_or] at h;obtain⟨h1,h2,h3,h4,h5,h6,h7⟩:=h;exact(if_neg h1).trans ((if_neg h2).trans ((if_neg h3).trans ((if_neg h4).trans ((if_neg h5).trans ((if_neg h6).trans (if_neg h7))))))
def nt (p:Int×Int) (no line:Int):Int×Int:=if p.1=0∧no≠0 then(no,line) else p
abbrev stN:List CS:=[.any,.any,.any,.any,.any,.any,.any,.any,.any,.any,.any,.any,.any,.any,.any,.any,.any,.d tI,.d tI]
abbrev sN:SS:=.box 104 stN
abbrev pN:List Nat:=[0,1,2,3,4,5,6,7,8,9,10,11,12,13,14,15,16,17]
abbrev sF:SS:=.st 0
abbrev gT:=eY stN
def mkN (p:Int×Int):gT:=((),(),(),(),(),(),(),(),(),(),(),(),(),(),(),(),(),p.1,p.2,())
def gT.f (x:gT):Int×Int:=(x.2.2.2.2.2.2.2.2.2.2.2.2.2.2.2.2.2.1,x.2.2.2.2.2.2.2.2.2.2.2.2.2.2.2.2.2.2.1)
def gT.err (x:gT):Int:=x.f.1
def gT.note (x:gT) (no line:Int):gT:=mkN (nt x.f no line)
def gT.setF (_:gT) (no line:Int):gT:=mkN (no,line)
theorem KS {p:Int×Int} {no:Int} (line:Int) (h:p.1=0) (hn:no≠0):nt p no line=(no,line):=if_pos ⟨h,hn⟩
theorem TB {p:Int×Int} (no line:Int) (h:p.1≠0):nt p no line=p:=if_neg fun q=>h q.1
theorem Of {p:Int×Int} (line:Int):nt p 0 line=p:=if_neg fun q=>q.2 rfl
theorem adu {p:Int×Int} {c d line xb:Int} (hc:c≠0):nt (nt p c line) d xb=nt p c line:=by
 by_cases h:p.1=0
 ·rw[KS line h hc];exact TB d xb hc
 ·rw[TB c line h,TB d xb h]
theorem Oh {x:gT} {no:Int} (line:Int) (h:x.err=0) (hn:no≠0):x.note no line=x.setF no line:=congrArg mkN (KS line h hn)
theorem Oi {x:gT} (no line:Int) (h:x.err≠0):x.note no line=x:=congrArg mkN (TB no line h)
theorem Bi {x:gT} (line:Int):x.note 0 line=x:=congrArg mkN (Of line)
abbrev an (r:XV) (x:gT):XV×gT×Unit:=(r,x,())
theorem kI:gh Tryz.prog 46 pN [(0,sN),(1,sI),(2,sI)] [(0,sN)] fun((x:gT),(no:Int),(line:Int),_)=>.nd ((0:Int)≠no) (.lf (an (.tup []) (x.note no line))):=
 kJ (C:=C1) (nL _ _) 99 [(0,sN),(1,sI),(2,sI)] [(0,sN)] (fun((x:gT),(no:Int),(line:Int),_)=>.br (x.err==0) (.lf (an (.tup []) (x.setF no line))) (.lf (an (.tup []) x)))
  (fun⟨(x:gT),no,line,_⟩ r _ ⟨hn,h⟩=>by
   obtain rfl:an (.tup []) (x.note no line)=r:=h;by_cases e:x.err=0
   ·exact aX (beq_iff_eq.2 e) (congrArg (an _) (Oh line e (aca hn)).symm)
   ·exact bg (beq_eq_false_iff_ne.2 e) (congrArg (an _) (Oi no line e).symm)) Tryz.func46
noncomputable def C2:hZ Tryz.prog:=dj uC [⟨_,_,_,find_ok⟩,⟨_,_,_,og⟩,⟨_,_,_,qO⟩,⟨_,_,_,Bl⟩,⟨_,_,_,oX⟩,⟨_,_,_,rH⟩] [⟨_,_,_,_,_,kI⟩]
theorem sW:gh Tryz.prog 140 pN [(0,sN),(1,sF)] [(0,sN)] fun((x:gT),(f:ao),_)=>.lf (an (aS (bj f.vals)) (x.note (dJ f.vals) f.line)):=
 kJ (C:=C2) (nL _ _) 99 [(0,sN),(1,sF)] [(0,sN)] (fun((x:gT),(f:ao),_)=>.br (!((f.vals.length:Int)==1)) (.nd ((0:Int)≠7) (.lf (an (aS ⟨#[]⟩) (x.note 7 f.line)))) (.nd ((0:Int)≤0∧(0:Int)<f.vals.length) (.lf (an (aS (f.vals.getD 0 ⟨#[]⟩)) x))))
  (fun⟨(x:gT),(f:ao),_⟩ r _ h=>by
   obtain rfl:an (aS (bj f.vals)) (x.note (dJ f.vals) f.line)=r:=h;by_cases e:f.vals.length=1
   ·refine bg (by rw[e];rfl) ⟨⟨by omega,by omega⟩,?_⟩;rw[bj,dJ,if_neg (by simp[e]),if_neg (by simp[e]),Bi];rfl
   ·refine aX (by simp;omega) ⟨by decide,?_⟩;rw[bj,dJ,if_pos e,if_pos e];rfl) Tryz.func140
noncomputable def C3:hZ Tryz.prog:=dj uC [⟨_,_,_,find_ok⟩,⟨_,_,_,og⟩,⟨_,_,_,qO⟩,⟨_,_,_,Bl⟩,⟨_,_,_,oX⟩,⟨_,_,_,rH⟩] [⟨_,_,_,_,_,kI⟩,⟨_,_,_,_,_,sW⟩]
theorem YG {x:gT} {no:Int} (line:Int) (h:x.err=0) (hn:no≠0):(x.note no line).err=no:=by rw[Oh line h hn];rfl
theorem Og {x:gT} {c d line xb:Int} (hc:c≠0):(x.note c line).note d xb=x.note c line:=congrArg mkN (adu hc)
theorem EW {x:gT} {a:XV} {c d e line:Int} (h:(if c=0 then d else c)=e):an a ((x.note c line).note d line)=an a (x.note e line):=by
 subst h;by_cases hc:c=0
 ·rw[if_pos hc,hc,Bi]
 ·rw[if_neg hc,Og hc]
theorem Ma {x:gT} {a:XV} {c e line:Int} (h:c=e):an a (x.note c line)=an a (x.note e line):=by rw[h]
theorem uf:∀(xs:List ByteArray) (s:ByteArray) (i:Nat),Lib.idxFromS xs s i≤i+xs.length
 | [],_,_=>by show(-1:Int)≤_;omega
 | x::l,s,i=>by
  unfold Lib.idxFromS;split
  ·simp only[abp];omega
  ·have:=uf l s (i+1);simp only[abp];omega
theorem O8:gh Tryz.prog 109 pN [(0,sN),(1,sF),(2,sI),(3,sI)] [(0,sN)] fun((x:gT),(f:ao),(a:Int),(b:Int),_)=>.nd ((bj f.vals).size≤9223372036854775807) (.lf (an (aI (jj f.vals)) (x.note (jA f.vals a b) f.line))):=
 kJ (C:=C3) (nL _ _) 99 [(0,sN),(1,sF),(2,sI),(3,sI)] [(0,sN)] (fun((x:gT),(f:ao),(a:Int),(b:Int),_)=>.nd ((bj f.vals).size≤9223372036854775807) (.br (!(dF (bj f.vals).data.toList).2) (.nd ((0:Int)≠5) (.lf (an (aI (jj f.vals)) ((x.note (dJ f.vals) f.line).note 5 f.line)))) (.br (decide (jj f.vals<a)) (.nd ((0:Int)≠4) (.lf (an (aI (jj f.vals)) ((x.note (dJ f.vals) f.line).note 4 f.line)))) (.br (decide (jj f.vals>b)) (.nd ((0:Int)≠4) (.lf (an (aI (jj f.vals)) ((x.note (dJ f.vals) f.line).note 4 f.line)))) (.lf (an (aI (jj f.vals)) (x.note (dJ f.vals) f.line)))))))
  (fun⟨(x:gT),(f:ao),(a:Int),(b:Int),_⟩ r _ ⟨hs,h⟩=>by
   obtain rfl:an (aI (jj f.vals)) (x.note (jA f.vals a b) f.line)=r:=h;refine⟨hs,fun h1=>⟨by decide,EW ?_⟩,fun h1=>⟨fun h2=>⟨by decide,EW ?_⟩,fun h2=>⟨fun h3=>⟨by decide,EW ?_⟩,fun h3=>?_⟩⟩⟩
   ·unfold jA dJ;split<;>simp_all
   ·unfold jA dJ;split<;>simp_all
   ·unfold jA dJ;split<;>simp_all
   ·refine Ma ?_;have:=of_decide_eq_false h2;have:=of_decide_eq_false h3;unfold jA dJ;split<;>simp_all) Tryz.func109
theorem Vz:gh Tryz.prog 108 pN [(0,sN),(1,sF),(2,sL)] [(0,sN)] fun((x:gT),(f:ao),(l:List ByteArray),_)=>.nd (l.length≤99) (.lf (an (aI (iO f.vals l)) (x.note (jC f.vals l) f.line))):=
 kJ (C:=C3) (nL _ _) 99 [(0,sN),(1,sF),(2,sL)] [(0,sN)] (fun((x:gT),(f:ao),(l:List ByteArray),_)=>.br (decide (Lib.idxOfS l (bj f.vals)<0)) (.nd ((0:Int)≠2) (.nd (cN (iO f.vals l)) (.lf (an (aI (iO f.vals l)) ((x.note (dJ f.vals) f.line).note 2 f.line))))) (.nd (cN (iO f.vals l)) (.lf (an (aI (iO f.vals l)) (x.note (dJ f.vals) f.line)))))
  (fun⟨(x:gT),(f:ao),(l:List ByteArray),_⟩ r _ ⟨hs,h⟩=>by
   obtain rfl:an (aI (iO f.vals l)) (x.note (jC f.vals l) f.line)=r:=h;have hb:cN (iO f.vals l):=by
    have:=uf l (bj f.vals) 0;have:=mY l (bj f.vals) 0;unfold iO cN Lib.idxOfS at*;omega
   refine⟨fun h1=>⟨by decide,hb,EW ?_⟩,fun h1=>⟨hb,?_⟩⟩
   ·unfold jC dJ;split<;>simp_all
   ·refine Ma ?_;unfold jC dJ;split<;>simp_all) Tryz.func108
theorem CU:gh Tryz.prog 112 pN [(0,sN),(1,sF)] [(0,sN)] fun((x:gT),(f:ao),_)=>.nd ((bj f.vals).size≤9223372036854775807) (.lf (an (aS (bj f.vals)) (x.note (kU f.vals) f.line))):=
 kJ (C:=C3) (nL _ _) 99 [(0,sN),(1,sF)] [(0,sN)] (fun((x:gT),(f:ao),_)=>.br (!((bj f.vals).toList==(⟨#[]⟩:ByteArray).toList)) (.nd ((bj f.vals).size≤9223372036854775807) (.br (!oo (bj f.vals)) (.nd ((0:Int)≠8) (.lf (an (aS (bj f.vals)) ((x.note (dJ f.vals) f.line).note 8 f.line)))) (.lf (an (aS (bj f.vals)) (x.note (dJ f.vals) f.line))))) (.lf (an (aS (bj f.vals)) (x.note (dJ f.vals) f.line))))
  (fun⟨(x:gT),(f:ao),_⟩ r _ ⟨hs,h⟩=>by
   obtain rfl:an (aS (bj f.vals)) (x.note (kU f.vals) f.line)=r:=h;refine⟨fun h1=>⟨hs,fun h2=>⟨by decide,EW ?_⟩,fun h2=>?_⟩,fun h1=>?_⟩
   ·rw[eE] at h1;unfold kU dJ;split<;>simp_all
   ·refine Ma ?_;rw[eE] at h1;unfold kU dJ;split<;>simp_all
   ·refine Ma ?_;rw[eE] at h1;unfold kU dJ;split<;>simp_all) Tryz.func112
abbrev Mj:SS:=.box 113 [.d .str,.d (.list .str),.d tI]
abbrev AH:=eY [.d .str,.d (.list .str),.d tI]
def AH.vs (f:AH):List ByteArray:=f.2.1
def AH.ln (f:AH):Int:=f.2.2.1
theorem Ot (s:ByteArray):oo s=dK s 1 24:=by
 unfold oo dK;cases fP s.data.toList<;>simp
abbrev FH (l:List ByteArray):Prop:=∀s∈l,s.size≤9223372036854775807
abbrev oq (x:gT) (f:AH):LE [(0,sN),(2,sI),(4,Mj),(7,sI)] [(0,sN),(4,Mj)] [(0,sN)]:=.out (x,f,())
abbrev wU (x:gT) (m:Int) (f:AH) (i:Int):LE [(0,sN),(2,sI),(4,Mj),(7,sI)] [(0,sN),(4,Mj)] [(0,sN)]:=.back (x,m,f,i,())
theorem DF (m:Int) (pre:List ByteArray) (s:ByteArray) (r:List ByteArray):fT m pre (s::r)=if(pre.length:Int)=m then 7 else if dK s 1 24=false then 8 else if Lib.containsS pre s then 3 else fT m (pre++[s]) r:=by rw[fT]
def IW (x:gT) (m:Int) (l:List ByteArray) (i:Int):Prop:=0≤i∧i≤l.length∧(x.err=0→i≤m)∧FH l
theorem Ub:eD (LB C3 Tryz.f85 pN) 0 0 [(0,sN),(2,sI),(4,Mj),(7,sI)] [(0,sN),(4,Mj)] [(0,sN)] fun((x:gT),(m:Int),(f:AH),(i:Int),_)=>
 .nd (IW x m f.vs i) (.lf (oq (x.note (fT m (f.vs.take i.toNat) (f.vs.drop i.toNat)) f.ln) f)):=by
  refine eG _ (nL _ _) 99 0 0 [(0,sN),(2,sI),(4,Mj),(7,sI)] [(0,sN),(4,Mj)] [(0,sN)] (fun((x:gT),(m:Int),(f:AH),(i:Int),_)=>.br (decide (i<f.vs.length)) (.br (x.err==0) (.br (decide (i≥m)) (.nd ((0:Int)≠7) (.nd (cN (i+1)) (.lf (wU (x.note 7 f.ln) m f (i+1))))) (.nd (0≤i∧i<f.vs.length) (.nd ((f.vs.getD i.toNat ⟨#[]⟩).size≤9223372036854775807) (.br (!oo (f.vs.getD i.toNat ⟨#[]⟩)) (.nd ((0:Int)≠8) (.nd (cN (i+1)) (.lf (wU (x.note 8 f.ln) m f (i+1))))) (.nd ((0:Int)≤0∧0≤i∧i≤f.vs.length) (.nd (0≤i∧i<f.vs.length) (.br (decide (Lib.idxOfS (f.vs.take i.toNat) (f.vs.getD i.toNat ⟨#[]⟩)≥0)) (.nd ((0:Int)≠3) (.nd (cN (i+1)) (.lf (wU (x.note 3 f.ln) m f (i+1))))) (.nd (cN (i+1)) (.lf (wU x m f (i+1))))))))))) (.lf (oq x f))) (.lf (oq x f)))
   (fun(_,_,(f:AH),(i:Int),_)=>f.vs.length-i.toNat) ?_
  rintro⟨(x:gT),(m:Int),(f:AH),(i:Int),_⟩ r sJ ⟨hn,hr⟩;obtain⟨h0,h1,h2,h3⟩:IW x m f.vs i:=hn;have hl:f.vs.length≤9223372036854775807:=sJ.2.2.1.2.1;obtain⟨k,rfl⟩:∃k:Nat,i=k:=⟨i.toNat,by omega⟩;obtain rfl:oq (x.note (fT m (f.vs.take k) (f.vs.drop k)) f.ln) f=r:=hr;by_cases hk:k<f.vs.length
  ·by_cases he:x.err=0
   ·have hx:=getD_drop (⟨#[]⟩:ByteArray) hk;have Cp:f.vs[k]?=some (f.vs.getD k ⟨#[]⟩):=by rw[aaQ,aac hk];rfl
    have hm:=h2 he;have hs:=h3 (f.vs.getD k ⟨#[]⟩) (ab9 Cp);have di:cN ((k:Int)+1):=⟨by omega,by omega⟩;have dec:f.vs.length-(k+1)<f.vs.length-k:=by omega
    have hp:oo (f.vs.getD k ⟨#[]⟩)=dK (f.vs.getD k ⟨#[]⟩) 1 24:=Ot _;have stop:∀c:Int,c≠0→fT m (f.vs.take k) (f.vs.drop k)=c→IW (x.note c f.ln) m f.vs ((k:Int)+1)∧oq ((x.note c f.ln).note (fT m (f.vs.take (k+1)) (f.vs.drop (k+1))) f.ln) f=oq (x.note (fT m (f.vs.take k) (f.vs.drop k)) f.ln) f:=fun c hc hg=>by
     refine⟨⟨by omega,by omega,fun q=>absurd q (by rw[YG _ he hc];exact hc),h3⟩,?_⟩;rw[hg,Og hc]
    rw[hx] at stop ⊢;rw[DF,abH,aen (by omega)] at stop ⊢;by_cases h7:(k:Int)=m
    ·rw[if_pos h7] at stop ⊢;exact⟨_,aX (decide_eq_true (by omega)) (aX (beq_iff_eq.2 he) (aX (decide_eq_true (by omega)) ⟨by decide,di,rfl⟩)),dec,stop 7 (by decide) rfl⟩
    rw[if_neg h7] at stop ⊢;have go:∀{y:T (LE [(0,sN),(2,sI),(4,Mj),(7,sI)] [(0,sN),(4,Mj)] [(0,sN)])} {q},y.hit q→_:=fun {y q} h=>aX (x:=T.br _ _ _) (y:=.lf (oq x f)) (b:=decide ((k:Int)<f.vs.length)) (decide_eq_true (by omega)) (aX (y:=.lf (oq x f)) (beq_iff_eq.2 he) (bg (b:=decide ((k:Int)≥m)) (x:=.nd ((0:Int)≠7) (.nd (cN ((k:Int)+1)) (.lf (wU (x.note 7 f.ln) m f (k+1))))) (y:=.nd (0≤(k:Int)∧(k:Int)<f.vs.length) (.nd ((f.vs.getD k ⟨#[]⟩).size≤9223372036854775807) y)) (decide_eq_false (by omega)) ⟨⟨by omega,by omega⟩,hs,h⟩));by_cases h8:dK (f.vs.getD k ⟨#[]⟩) 1 24=false
    ·rw[if_pos h8] at stop ⊢;exact⟨_,go (aX (by rw[aaR,hp,h8];rfl) ⟨by decide,di,rfl⟩),dec,stop 8 (by decide) rfl⟩
    rw[if_neg h8] at stop ⊢;by_cases Lo:Lib.containsS (f.vs.take k) (f.vs.getD k ⟨#[]⟩)
    ·rw[if_pos Lo] at stop ⊢;exact⟨_,go (bg (by rw[aaR,hp];simpa using h8) ⟨⟨by omega,by omega,by omega⟩,⟨by omega,by omega⟩,aX Lo ⟨by decide,di,rfl⟩⟩),dec,stop 3 (by decide) rfl⟩
    ·rw[if_neg Lo];refine⟨_,go (bg (by rw[aaR,hp];simpa using h8) ⟨⟨by omega,by omega,by omega⟩,⟨by omega,by omega⟩,bg (acA.2 Lo:Lib.containsS _ _=false) ⟨di,rfl⟩⟩),dec,⟨by omega,by omega,fun _=>by omega,h3⟩,?_⟩;show oq (x.note (fT m (f.vs.take (k+1)) (f.vs.drop (k+1))) f.ln) f=_;rw[ju Cp]
   ·exact⟨_,aX (decide_eq_true (by omega)) (bg (beq_eq_false_iff_ne.2 he) rfl),congrArg (fun z=>oq z f) (Oi _ _ he).symm⟩
  ·exact⟨_,bg (decide_eq_false (by omega)) rfl,congrArg (fun z=>oq z f) (by rw[abg (by omega)];exact(Bi _).symm)⟩
def lsR (l:List ByteArray):XV:=.one (.list .str (l.reverse++[]).reverse !(l.reverse++[]).isEmpty)
theorem YO (l:List ByteArray):lsR l=.one (.list .str l !l.isEmpty):=by unfold lsR;simp
def WE (x:gT) (m:Int) (l:List ByteArray) (ln:Int):T (XV×gT×Unit):=.nd (IW x m l 0) (.nd ((0+l.length)*17≤140737488355328) (.lf (an (lsR l) (x.note (fT m (l.take 0) (l.drop 0)) ln))))
theorem wY:gh Tryz.prog 85 pN [(0,sN),(1,sF),(2,sI)] [(0,sN)] fun((x:gT),(f:ao),(m:Int),_)=>.nd (FH f.vals∧0≤m∧f.vals.length≤1099511627776) (.lf (an (.one (.list .str f.vals !f.vals.isEmpty)) (x.note (eO f.vals m) f.line))):=by
 refine aay (C:=C3) (pb:=pN) [(12,[6])] ((nL _ _).add 0 _ Ub) 99 [(0,sN),(1,sF),(2,sI)] [(0,sN)] (fun((x:gT),(f:ao),(m:Int),_)=>.br ((f.vals.length:Int)==0) (.nd ((0:Int)≠7) (WE (x.note 7 f.line) m f.vals f.line)) (WE x m f.vals f.line)) ?_ Tryz.func85;rintro⟨(x:gT),(f:ao),(m:Int),_⟩ r _ ⟨⟨h1,h2,h3⟩,h⟩;obtain rfl:an (.one (.list .str f.vals !f.vals.isEmpty)) (x.note (eO f.vals m) f.line)=r:=h;rw[←YO];refine⟨fun e=>?_,fun e=>?_⟩
 ·have e:f.vals.length=0:=by have:=beq_iff_eq.1 e;omega
  have e2:=abs e;refine⟨by decide,⟨by omega,by omega,fun _=>h2,h1⟩,by omega,EW ?_⟩;rw[e2];rfl
 ·have e:f.vals≠[]:=fun q=>by rw[q] at e;cases e
  refine⟨⟨by omega,by omega,fun _=>h2,h1⟩,by omega,Ma ?_⟩;unfold eO;rw[if_neg e];rfl
abbrev stC:List CS:=[.d .str,.d tI,.d tI,.d tI,.d (.list .str),.own (.st 3) 95,.own (.st 10) 97,.d tI,.d tI,.d .bool,.d (.list .limb),.d (.list .limb),.d tI,.d .str,.own .str 9,.own (.st 7) 152,.own (.st 6) 151,.d tI,.d tI]
abbrev sT:SS:=.box 104 stC
abbrev bh:=eY stC
def bh.f (x:bh):Int×Int:=(x.2.2.2.2.2.2.2.2.2.2.2.2.2.2.2.2.2.1,x.2.2.2.2.2.2.2.2.2.2.2.2.2.2.2.2.2.2.1)
def bh.err (x:bh):Int:=x.f.1
def bh.setF (x:bh) (p:Int×Int):bh:=(x.1,x.2.1,x.2.2.1,x.2.2.2.1,x.2.2.2.2.1,x.2.2.2.2.2.1,x.2.2.2.2.2.2.1,x.2.2.2.2.2.2.2.1,x.2.2.2.2.2.2.2.2.1,x.2.2.2.2.2.2.2.2.2.1,x.2.2.2.2.2.2.2.2.2.2.1,x.2.2.2.2.2.2.2.2.2.2.2.1,x.2.2.2.2.2.2.2.2.2.2.2.2.1,x.2.2.2.2.2.2.2.2.2.2.2.2.2.1,x.2.2.2.2.2.2.2.2.2.2.2.2.2.2.1,x.2.2.2.2.2.2.2.2.2.2.2.2.2.2.2.1,x.2.2.2.2.2.2.2.2.2.2.2.2.2.2.2.2.1,p.1,p.2,())
def bh.note (x:bh) (no line:Int):bh:=x.setF (nt x.f no line)
theorem vj {x:bh} (line:Int):x.note 0 line=x:=congrArg x.setF (Of line)
abbrev JM (r:XV) (x:bh):XV×bh×Unit:=(r,x,())
abbrev sBb:SS:=.box 110 [.d .str,.d .str,.d (.list (.st 0)),.d tI]
abbrev sBk:SS:=.st 1
abbrev ka:=eY [.d .str,.d .str,.d (.list (.st 0)),.d tI]
def bh.cont (x:bh):List ai:=List.reverse (α:=ai) x.2.2.2.2.2.1
def bh.snm (x:bh):List ByteArray:=List.reverse (α:=ByteArray) x.2.2.2.2.2.2.1
def bh.styl (x:bh):List ax:=x.snm.map fun n=>⟨n,[],[]⟩
def bh.seen (x:bh):List ByteArray:=List.reverse (α:=ByteArray) x.2.2.2.2.2.2.2.2.2.2.2.2.2.2.1
def bh.lines (x:bh):List (Int×Int):=List.reverse (α:=Int×Int) x.2.2.2.2.2.2.2.2.2.2.2.2.2.2.2.1
def bh.names (x:bh):List (List ByteArray×List ByteArray):=List.reverse (α:=List ByteArray×List ByteArray) x.2.2.2.2.2.2.2.2.2.2.2.2.2.2.2.2.1
def bh.line (x:bh):Int:=x.f.2
def bh.e (x:bh):aa:=⟨x.1,x.2.1,x.2.2.1,x.2.2.2.1,x.2.2.2.2.1,x.cont,x.styl,x.2.2.2.2.2.2.2.1,x.2.2.2.2.2.2.2.2.1,⟨x.2.2.2.2.2.2.2.2.2.1,x.2.2.2.2.2.2.2.2.2.2.1,x.2.2.2.2.2.2.2.2.2.2.2.1⟩,x.2.2.2.2.2.2.2.2.2.2.2.2.1,x.2.2.2.2.2.2.2.2.2.2.2.2.2.1⟩
def bh.r (x:bh):fc:=⟨x.e,x.seen,x.lines,x.names,⟨x.err,x.line⟩⟩
section
variable {L:Type} (back:Bool→Int→Int→L) (out:Bool→Int→L) (len:Nat) (at':Nat→ByteArray) (c:Bool) (nm:ByteArray)
def hdB (same:Bool) (n i:Int):T L:=.br (decide (i<len)) (.br c (.br same (.nd (cN (n+1)) (.nd (cN (i+1)) (.lf (back true (n+1) (i+1))))) (.nd (0≤i∧i<len) (.nd (cN (n+1)) (.nd (cN (i+1)) (.lf (back ((at' i.toNat).toList==nm.toList) (n+1) (i+1))))))) (.lf (out same n))) (.lf (out same n))
def hdAny:Nat→Nat→Bool
 | 0,_=>false
 | k+1,i=>decide (at' i=nm)||hdAny k (i+1)
def PW (same:Bool) (i:Int):Bool:=same||(c&&hdAny at' nm (len-i.toNat) i.toNat)
def Ll (n:Int):Int:=bif c then len else n
def hdP (n i:Int):Prop:=0≤i∧i≤len∧(c=true→n=i)
theorem Ji {same:Bool} {n i:Int} (hl:len≤9223372036854775807) (hp:hdP len c n i):∃q,(hdB back out len at' c nm same n i).hit q∧(q=out (PW len at' c nm same i) (Ll len c n)∨∃s' n',q=back s' n' (i+1)∧i<len∧hdP len c n' (i+1)∧PW len at' c nm s' (i+1)=PW len at' c nm same i∧Ll len c n'=Ll len c n):=by
 obtain⟨h0,h1,h2⟩:=hp;obtain⟨k,rfl⟩:∃k:Nat,i=k:=⟨i.toNat,by omega⟩;by_cases hk:k<len
 ·cases c with
  | true=>
   obtain rfl:=h2 rfl;have e1:((k:Int)+1).toNat=k+1:=by omega
   have e2:len-k=(len-(k+1))+1:=by omega
   cases same with
   | true=>exact⟨_,aX (decide_eq_true (by omega)) (aX rfl (aX rfl ⟨⟨by omega,by omega⟩,⟨by omega,by omega⟩,rfl⟩)),.inr ⟨_,_,rfl,by omega,⟨by omega,by omega,fun _=>rfl⟩,rfl,rfl⟩⟩
   | false=>
    refine⟨_,aX (decide_eq_true (by omega)) (aX rfl (bg rfl ⟨⟨by omega,by omega⟩,⟨by omega,by omega⟩,⟨by omega,by omega⟩,rfl⟩)),.inr ⟨_,_,rfl,by omega,⟨by omega,by omega,fun _=>rfl⟩,?_,rfl⟩⟩;unfold PW;rw[e1,aaR,e2,eE];simp only[hdAny,abO,acp]
  | false=>exact⟨_,aX (decide_eq_true (by omega)) (bg rfl rfl),.inl (by unfold PW Ll;simp)⟩
 ·refine⟨_,bg (decide_eq_false (by omega)) rfl,.inl ?_⟩;unfold PW Ll;rw[aaR,show len-k=0 by omega];cases c with
  | true=>obtain rfl:=h2 rfl;simp only[hdAny,adz,Bool.or_false];congr 1;show(k:Int)=len;omega
  | false=>simp
end
theorem D6 {α:Type} (f:α→ByteArray) (d:α) (nm:ByteArray):∀(l:List α) (k:Nat),k≤l.length→hdAny (fun i=>f (l.getD i d)) nm (l.length-k) k=(l.drop k).any fun x=>decide (f x=nm):=by
 intro l k hk;obtain⟨j,hj⟩:∃j,l.length-k=j:=⟨_,rfl⟩;induction j generalizing k with
 | zero=>rw[hj,abg (by omega)];rfl
 | succ j ih=>
  rw[hj,getD_drop d (by omega),acb,←ih (k+1) (by omega) (by omega),show l.length-(k+1)=j by omega];rfl
abbrev hdL (s:Nat):List (Nat×SS):=[(0,sT),(3,sBb),(4,sB),(5,sB),(6,sI),(s,sI)]
abbrev hdO:List (Nat×SS):=[(0,sT),(3,sBb),(4,sB),(5,sB),(6,sI)]
def BJ (s:Nat) (x:bh) (b:ka) (dB same:Bool) (n i:Int):LE (hdL s) hdO [(0,sT)]:=.back (x,b,dB,same,n,i,())
def uk (s:Nat) (x:bh) (b:ka) (dB same:Bool) (n:Int):LE (hdL s) hdO [(0,sT)]:=.out (x,b,dB,same,n,())
def is (k:ByteArray) (b:ka):Bool:=b.1.toList==k.toList
theorem PR:eD (LB C3 Tryz.f82 [0]) 0 0 (hdL 7) hdO [(0,sT)] fun((x:bh),(b:ka),(dB:Bool),(same:Bool),(n:Int),(i:Int),_)=>
 .nd (hdP x.cont.length (is ah b) n i) (.lf (uk 7 x b dB (PW x.cont.length (fun i=>(x.cont.getD i ai.zero).name) (is ah b) b.2.1 same i) (Ll x.cont.length (is ah b) n))):=by
  refine eG _ (nL _ _) 99 0 0 (hdL 7) hdO [(0,sT)] (fun((x:bh),(b:ka),(dB:Bool),(same:Bool),(n:Int),(i:Int),_)=>hdB (BJ 7 x b dB) (uk 7 x b dB) (List.length (α:=ai) x.2.2.2.2.2.1) (fun i=>(x.cont.getD i ai.zero).name) (is ah b) b.2.1 same n i)
   (fun((x:bh),_,_,_,_,(i:Int),_)=>x.cont.length-i.toNat) ?_
  rintro⟨(x:bh),(b:ka),(dB:Bool),(same:Bool),(n:Int),(i:Int),_⟩ r sJ ⟨hp,hr⟩;have hl2:List.length (α:=ai) x.2.2.2.2.2.1=x.cont.length:=(aa9 (α:=ai)).symm;have hl:x.cont.length≤9223372036854775807:=hl2▸(sJ.1.2.2.2.2.2.1:List.length (α:=ai) x.2.2.2.2.2.1≤_);obtain⟨q,h1,h2⟩:=Ji (BJ 7 x b dB) (uk 7 x b dB) x.cont.length (fun i=>(x.cont.getD i ai.zero).name) (is ah b) b.2.1 (same:=same) hl hp;refine⟨q,by show T.hit (hdB _ _ (List.length (α:=ai) x.2.2.2.2.2.1) _ _ _ _ _ _) _;rw[hl2];exact h1,?_⟩;rcases h2 with rfl|⟨s',n',rfl,h3,h4,h5,h6⟩
  ·exact hr
  ·refine⟨?_,h4,?_⟩
   ·have:=hp.1;show x.cont.length-(i+1).toNat<x.cont.length-i.toNat;omega
   ·show uk _ _ _ _ _ _=_;rw[h5,h6];exact hr
theorem PQ:eD (LB C3 Tryz.f82 [0]) 1 2 (hdL 8) hdO [(0,sT)] fun((x:bh),(b:ka),(dB:Bool),(same:Bool),(n:Int),(i:Int),_)=>
 .nd (hdP x.snm.length (is aD b) n i) (.lf (uk 8 x b dB (PW x.snm.length (fun i=>x.snm.getD i ⟨#[]⟩) (is aD b) b.2.1 same i) (Ll x.snm.length (is aD b) n))):=by
  refine eG _ (nL _ _) 99 1 2 (hdL 8) hdO [(0,sT)] (fun((x:bh),(b:ka),(dB:Bool),(same:Bool),(n:Int),(i:Int),_)=>hdB (BJ 8 x b dB) (uk 8 x b dB) (List.length (α:=ByteArray) x.2.2.2.2.2.2.1) (fun i=>x.snm.getD i ⟨#[]⟩) (is aD b) b.2.1 same n i)
   (fun((x:bh),_,_,_,_,(i:Int),_)=>x.snm.length-i.toNat) ?_
  rintro⟨(x:bh),(b:ka),(dB:Bool),(same:Bool),(n:Int),(i:Int),_⟩ r sJ ⟨hp,hr⟩;have hl2:List.length (α:=ByteArray) x.2.2.2.2.2.2.1=x.snm.length:=(aa9 (α:=ByteArray)).symm;have hl:x.snm.length≤9223372036854775807:=hl2▸(sJ.1.2.2.2.2.2.2.1:List.length (α:=ByteArray) x.2.2.2.2.2.2.1≤_);obtain⟨q,h1,h2⟩:=Ji (BJ 8 x b dB) (uk 8 x b dB) x.snm.length (fun i=>x.snm.getD i ⟨#[]⟩) (is aD b) b.2.1 (same:=same) hl hp;refine⟨q,by show T.hit (hdB _ _ (List.length (α:=ByteArray) x.2.2.2.2.2.2.1) _ _ _ _ _ _) _;rw[hl2];exact h1,?_⟩;rcases h2 with rfl|⟨s',n',rfl,h3,h4,h5,h6⟩
  ·exact hr
  ·refine⟨?_,h4,?_⟩
   ·have:=hp.1;show x.snm.length-(i+1).toNat<x.snm.length-i.toNat;omega
   ·show uk _ _ _ _ _ _=_;rw[h5,h6];exact hr
abbrev SR:=XV×bh×Unit
def Ss (x:bh) (line c:Int):T SR:=.nd ((0:Int)≠c) (.lf (JM (.tup []) (x.note c line)))
def ZW (x:bh) (b:aw) (dB:Bool):T SR:=.br (!dB) (.br (decide (Lib.idxOfS x.seen b.kind≥0)) (Ss x b.line 3) (.lf (JM (.tup []) x))) (.lf (JM (.tup []) x))
def UQ (x:bh) (b:aw) (dB:Bool):T SR:=.br (!dB) (.br (!(b.name.toList==(⟨#[]⟩:ByteArray).toList)) (Ss x b.line 2) (ZW x b dB)) (ZW x b dB)
def PU (x:bh) (b:aw) (dB:Bool) (n:Int):T SR:=.br (b.kind.toList==aD.toList) (.br (decide (n≥6)) (Ss x b.line 7) (UQ x b dB)) (UQ x b dB)
def ZX (x:bh) (b:aw) (dB:Bool) (n:Int):T SR:=.br (b.kind.toList==ah.toList) (.br (decide (n≥4)) (Ss x b.line 7) (PU x b dB n)) (PU x b dB n)
def UR (x:bh) (b:aw) (dB same:Bool) (n:Int):T SR:=.br dB (.br same (Ss x b.line 3) (ZX x b dB n)) (ZX x b dB n)
def ZY (x:bh) (b:aw) (dB same:Bool) (n:Int):T SR:=.br dB (.nd (b.name.size≤9223372036854775807) (.br (!jc b.name.data.toList) (Ss x b.line 8) (.br (decide ((b.name.size:Int)>24)) (Ss x b.line 8) (UR x b dB same n)))) (UR x b dB same n)
def aeP (x:bh) (b:aw) (dB same:Bool) (n:Int):T SR:=.br dB (.br (b.name.toList==(⟨#[]⟩:ByteArray).toList) (Ss x b.line 6) (ZY x b dB same n)) (ZY x b dB same n)
def ZZ (x:bh) (b:aw) (dB same:Bool) (n:Int):T SR:=.br (aM b.kind).isEmpty (Ss x b.line 2) (aeP x b dB same n)
def PV (x:bh) (b:aw):Bool:=PW x.snm.length (fun i=>x.snm.getD i ⟨#[]⟩) (b.kind.toList==aD.toList) b.name (PW x.cont.length (fun i=>(x.cont.getD i ai.zero).name) (b.kind.toList==ah.toList) b.name false 0) 0
def GB (x:bh) (b:aw):Int:=Ll x.snm.length (b.kind.toList==aD.toList) (Ll x.cont.length (b.kind.toList==ah.toList) 0)
def Z0 (x:bh) (b:aw) (dB:Bool):T SR:=.nd (hdP x.cont.length (b.kind.toList==ah.toList) 0 0) (.nd (hdP x.snm.length (b.kind.toList==aD.toList) (Ll x.cont.length (b.kind.toList==ah.toList) 0) 0) (ZZ x b dB (PV x b) (GB x b)))
theorem qg {α:Type} {F:Int→α} {a b:Bool} {X Y:T α} {P:Prop} [Decidable P] {c d:Int} (hP:P↔a=true∧b=true) (hX:X.hit (F c)) (hY:Y.hit (F d)):(T.br a (.br b X Y) Y).hit (F (if P then c else d)):=by
 by_cases h:P
 ·rw[if_pos h];exact aX (hP.1 h).1 (aX (hP.1 h).2 hX)
 ·rw[if_neg h];cases a with
  | false=>exact bg rfl hY
  | true=>exact aX rfl (bg (by cases b with|false=>rfl|true=>exact absurd (hP.2 ⟨rfl,rfl⟩) h) hY)
theorem acL {α:Type} {F:Int→α} {a b:Bool} {X Y:T α} {P:Prop} [Decidable P] {c d:Int} (hP:P↔a=true∨b=true) (hX:X.hit (F c)) (hY:Y.hit (F d)):(T.br a X (.br b X Y)).hit (F (if P then c else d)):=by
 by_cases h:P
 ·rw[if_pos h];cases a with
  | true=>exact aX rfl hX
  | false=>exact bg rfl (aX (by cases b with|true=>rfl|false=>rcases hP.1 h with h|h<;>cases h) hX)
 ·rw[if_neg h];cases a with
  | true=>exact absurd (hP.2 (.inl rfl)) h
  | false=>exact bg rfl (bg (by cases b with|false=>rfl|true=>exact absurd (hP.2 (.inr rfl)) h) hY)
theorem Nj {α:Type} {F:Int→α} {a:Bool} {X Y:T α} {P:Prop} [Decidable P] {c d:Int} (hP:P↔a=true) (hX:X.hit (F c)) (hY:Y.hit (F d)):(T.br a X Y).hit (F (if P then c else d)):=by
 by_cases h:P
 ·rw[if_pos h];exact aX (hP.1 h) hX
 ·rw[if_neg h];exact bg (by cases a with|false=>rfl|true=>exact absurd (hP.2 rfl) h) hY
def Jj (x:bh) (line c:Int):SR:=JM (.tup []) (x.note c line)
theorem lv {x:bh} {line c:Int} (h:(0:Int)≠c):(Ss x line c).hit (Jj x line c):=⟨h,rfl⟩
theorem AK {x y:ByteArray}:(x.toList==y.toList)=true↔x=y:=by rw[eE,decide_eq_true_eq]
theorem UP (x:bh) (b:aw) (hs:b.name.size≤9223372036854775807) (dB:Bool) (hm:dB=ja b.kind):(ZZ x b dB (PV x b) (GB x b)).hit (Jj x b.line (j5 x.r b.kind b.name)):=by
 have fI:b.kind=ah→b.kind≠aD:=fun h e=>absurd (h.symm.trans e) (by decide);have hc:(b.kind.toList==ah.toList)=decide (b.kind=ah):=eE;have fV:(b.kind.toList==aD.toList)=decide (b.kind=aD):=eE;have hE:dB=true→(PV x b=true↔((b.kind=ah∧(x.cont.any fun c=>decide (c.name=b.name))=true)∨(b.kind=aD∧(x.styl.any fun c=>decide (c.name=b.name))=true))):=fun _=>by
  unfold PV PW;have fa:(x.styl.any fun c=>decide (c.name=b.name))=x.snm.any fun n=>decide (n=b.name):=by unfold bh.styl;rw[List.any_map];rfl
  rw[fa,hc,fV,Int.toNat_zero,D6 (fun s:ByteArray=>s) ⟨#[]⟩ b.name x.snm 0 (abK _),D6 (fun s:ai=>s.name) ai.zero b.name x.cont 0 (abK _),ab2,ab2];simp
 have hN1:b.kind=ah→GB x b=x.cont.length:=fun h=>by
  unfold GB Ll;rw[hc,fV,decide_eq_true h,decide_eq_false (fI h)];rfl
 have hN2:b.kind=aD→GB x b=x.styl.length:=fun h=>by
  unfold GB Ll bh.styl;rw[fV,decide_eq_true h,abU];rfl
 unfold ZZ j5;refine Nj (F:=Jj x b.line) (by rw[List.isEmpty_iff]) (lv (by decide)) ?_;unfold aeP;refine qg (F:=Jj x b.line) (by rw[hm,AK]) (lv (by decide)) ?_;have h4:(UR x b dB (PV x b) (GB x b)).hit (Jj x b.line (if ja b.kind=true∧((b.kind=ah∧(x.r.e.cont.any fun c=>decide (c.name=b.name))=true)∨(b.kind=aD∧(x.r.e.styl.any fun c=>decide (c.name=b.name))=true)) then 3 else if(b.kind=ah∧4≤x.r.e.cont.length)∨(b.kind=aD∧6≤x.r.e.styl.length) then 7 else if ja b.kind=false∧b.name≠⟨#[]⟩ then 2 else if ja b.kind=false∧bH x.r.seen b.kind=true then 3 else 0)):=by
  unfold UR;refine qg (F:=Jj x b.line) ⟨fun⟨h1,h2⟩=>⟨hm.trans h1,(hE (hm.trans h1)).2 h2⟩,fun⟨h1,h2⟩=>⟨hm.symm.trans h1,(hE h1).1 h2⟩⟩ (lv (by decide)) ?_;have h6:(UQ x b dB).hit (Jj x b.line (if ja b.kind=false∧b.name≠⟨#[]⟩ then 2 else if ja b.kind=false∧bH x.r.seen b.kind=true then 3 else 0)):=by
   unfold UQ;refine qg (F:=Jj x b.line) (by rw[hm,eE];simp) (lv (by decide)) ?_;unfold ZW;refine qg (F:=Jj x b.line) (by rw[hm];unfold bH;simp;exact fun _=>Iff.rfl) (lv (by decide)) ?_;exact congrArg (JM _) (vj _).symm
  unfold ZX PU;by_cases h1:b.kind=ah
  ·refine aX (by rw[hc];exact decide_eq_true h1) ?_;refine Nj (F:=Jj x b.line) ?_ (lv (by decide)) (bg (by rw[fV];exact decide_eq_false (fI h1)) h6);rw[hN1 h1,decide_eq_true_eq];exact⟨fun h=>h.elim (fun h=>Int.ofNat_le.2 h.2) fun h=>absurd h.1 (fI h1),fun h=>.inl ⟨h1,Int.ofNat_le.1 h⟩⟩
  ·refine bg (by rw[hc];exact decide_eq_false h1) ?_;refine qg (F:=Jj x b.line) ?_ (lv (by decide)) h6;rw[fV,decide_eq_true_eq,decide_eq_true_eq];exact⟨fun h=>h.elim (fun h=>absurd h.1 h1) fun h=>⟨h.1,by rw[hN2 h.1];exact Int.ofNat_le.2 h.2⟩,fun h=>.inr ⟨h.1,by have:=h.2;rw[hN2 h.1] at this;exact Int.ofNat_le.1 this⟩⟩
 unfold ZY;cases dB with
 | false=>
  refine bg rfl ?_;rw[if_neg (by rw[←hm];simp)];exact h4
 | true=>
  refine aX rfl ⟨hs,acL (F:=Jj x b.line) ?_ (lv (by decide)) h4⟩;rw[←hm];simp only[true_and,ab8,decide_eq_true_eq];exact or_congr Iff.rfl (by show 24<b.name.size↔(24:Int)<(b.name.size:Int);omega)
theorem PS:gh Tryz.prog 82 [0] [(0,sT),(1,sBk)] [(0,sT)] fun((x:bh),(b:aw),_)=>.nd (b.name.size≤9223372036854775807) (.lf (JM (.tup []) (x.note (j5 x.r b.kind b.name) b.line))):=by
 refine kJ (C:=C3) (pb:=[0]) (((nL _ _).add 0 _ PR).add 1 _ PQ) 99 [(0,sT),(1,sBk)] [(0,sT)] (fun((x:bh),(b:aw),_)=>.br (b.kind.toList==ah.toList) (Z0 x b true) (Z0 x b (b.kind.toList==aD.toList))) ?_ Tryz.func82;rintro⟨(x:bh),(b:aw),_⟩ r sJ ⟨hs,hr⟩;obtain rfl:Jj x b.line (j5 x.r b.kind b.name)=r:=hr;have h0:∀dB,dB=ja b.kind→(Z0 x b dB).hit (Jj x b.line (j5 x.r b.kind b.name)):=fun dB hm=>by
  refine⟨⟨by omega,by omega,fun _=>rfl⟩,⟨by omega,by omega,fun h=>?_⟩,UP x b hs dB hm⟩;unfold Ll;rw[eE,decide_eq_false fun e=>absurd (e.symm.trans (AK.1 h)) (by decide)];rfl
 by_cases h:b.kind=ah
 ·exact aX (AK.2 h) (h0 true (by unfold ja;rw[decide_eq_true h];rfl))
 ·refine bg (by rw[eE];exact decide_eq_false h) (h0 _ ?_);unfold ja;rw[decide_eq_false h,eE];rfl
abbrev XS:SS:=.box 95 [.d .str,.d (.list .str),.d tI,.d tI,.d tI,.d tI,.d tI,.d tI,.d tI]
abbrev adn:List Nat:=[0,1,2,3,4,5,6,7,8,9,10,11,12,13,14,15,16,17,18]
abbrev oT:=eY [.d .str,.d (.list .str),.d tI,.d tI,.d tI,.d tI,.d tI,.d tI,.d tI]
def Mq (c:ai):oT:=(c.name,c.cands,c.method,c.seats,c.ranks,c.digits,c.ties,c.over,c.skip,())
def Mr (c:oT):ai:=⟨c.1,c.2.1,c.2.2.1,c.2.2.2.1,c.2.2.2.2.1,c.2.2.2.2.2.1,c.2.2.2.2.2.2.1,c.2.2.2.2.2.2.2.1,c.2.2.2.2.2.2.2.2.1⟩
noncomputable def C4:hZ Tryz.prog:=dj uC [⟨_,_,_,find_ok⟩,⟨_,_,_,og⟩,⟨_,_,_,qO⟩,⟨_,_,_,Bl⟩,⟨_,_,_,oX⟩,⟨_,_,_,rH⟩] [⟨_,_,_,_,_,kI⟩,⟨_,_,_,_,_,sW⟩,⟨_,_,_,_,_,O8⟩,⟨_,_,_,_,_,Vz⟩,⟨_,_,_,_,_,CU⟩,⟨_,_,_,_,_,wY⟩]
def fOk (f:ao):Prop:=FH f.vals∧f.vals.length≤1099511627776
theorem CF {l:List ByteArray} (h:FH l):(bj l).size≤9223372036854775807:=by
 unfold bj;split
 ·exact abK _
 ·match l with
  | []=>exact abK _
  | x::_=>exact h x abh
theorem j7 {α β:Type} {F:α→β} {b:Bool} {X Y:T β} {P:Prop} [Decidable P] {c d:α} (hP:P↔b=true) (hX:X.hit (F c)) (hY:Y.hit (F d)):(T.br b X Y).hit (F (if P then c else d)):=by
 by_cases h:P
 ·rw[if_pos h];exact aX (hP.1 h) hX
 ·rw[if_neg h];exact bg (by cases b with|false=>rfl|true=>exact absurd (hP.2 rfl) h) hY
abbrev CR3:=XV×gT×oT×Unit
def Jy (x:gT) (line:Int) (v:ai×Int):CR3:=(.tup [],x.note v.2 line,Mq v.1,())
def ctI (x:gT) (f:ao) (v:ai×Int):T CR3:=.nd ((bj f.vals).size≤9223372036854775807) (.lf (Jy x f.line v))
def ctW (x:gT) (f:ao) (w:List ByteArray) (v:ai×Int):T CR3:=.nd (w.length≤99) (.lf (Jy x f.line v))
def QR (x:gT) (c:ai) (f:ao):T CR3:=
 .br (f.key.toList==aN.toList) (ctW x f eH ({ c with method:=iO f.vals eH },jC f.vals eH))
 (.br (f.key.toList==bf.toList) (ctI x f ({ c with seats:=jj f.vals },jA f.vals 1 5))
 (.br (f.key.toList==bS.toList) (ctI x f ({ c with ranks:=jj f.vals },jA f.vals 1 7))
 (.br (f.key.toList==az.toList) (ctI x f ({ c with digits:=jj f.vals },jA f.vals 1 6))
 (.br (f.key.toList==db.toList) (ctW x f iS ({ c with ties:=iO f.vals iS },jC f.vals iS))
 (.br (f.key.toList==aV.toList) (ctW x f iU ({ c with over:=iO f.vals iU },jC f.vals iU))
 (.br (f.key.toList==dc.toList) (ctW x f iT ({ c with skip:=iO f.vals iT },jC f.vals iT))
 (.nd (FH f.vals∧(0:Int)≤7∧f.vals.length≤1099511627776) (.lf (Jy x f.line ({ c with cands:=f.vals },eO f.vals 7))))))))))
theorem QQ:gh Tryz.prog 84 adn [(0,sN),(1,XS),(2,sF)] [(0,sN),(1,XS)] fun((x:gT),(c:oT),(f:ao),_)=>.nd (fOk f) (.lf (Jy x f.line (fE (Mr c) f))):=by
 refine kJ (C:=C4) (pb:=adn) (nL _ _) 99 [(0,sN),(1,XS),(2,sF)] [(0,sN),(1,XS)] (fun((x:gT),(c:oT),(f:ao),_)=>QR x (Mr c) f) ?_ Tryz.func84;rintro⟨(x:gT),(c:oT),(f:ao),_⟩ r _ ⟨⟨h1,h2⟩,hr⟩;obtain rfl:Jy x f.line (fE (Mr c) f)=r:=hr;have hi:∀v,(ctI x f v).hit (Jy x f.line v):=fun v=>⟨CF h1,rfl⟩;have hw:∀w v,w.length≤99→(ctW x f w v).hit (Jy x f.line v):=fun w v h=>⟨h,rfl⟩;show(QR x (Mr c) f).hit _;unfold QR fE;exact j7 (F:=Jy x f.line) AK.symm (hw _ _ (by decide)) (j7 (F:=Jy x f.line) AK.symm (hi _) (j7 (F:=Jy x f.line) AK.symm (hi _) (j7 (F:=Jy x f.line) AK.symm (hi _) (j7 (F:=Jy x f.line) AK.symm (hw _ _ (by decide)) (j7 (F:=Jy x f.line) AK.symm (hw _ _ (by decide)) (j7 (F:=Jy x f.line) AK.symm (hw _ _ (by decide)) ⟨⟨h1,by decide,h2⟩,rfl⟩))))))
theorem jR.fr {α:Type} [aG α] {w:World} {e:TypeId} {xs:List α} {en:Ending} {w':World} (h:jR w e xs en w'):∃A n c,en=.returned (.slice A n c)∧n=xs.length∧RS w' (cW w w') A n c xs∧Below w.heap.size w w':=by
 obtain⟨v,rfl,ho,hb⟩:=h;obtain⟨A,n,c,rfl,hn⟩:=ho.slice;exact⟨A,n,c,rfl,hn,ho.fresh (abi _),hb⟩
theorem MI (m:Nat) (hm:m<18446744073709551616) (w:World):Calls Tryz.prog 172 #[.int .u64 m] w (jR w 4 (bits m)):=by
 have hv:=Oe m hm;obtain⟨x,hx⟩:∃x,BitVec.ofNat 32 m=x:=⟨_,rfl⟩;obtain⟨y,hy⟩:∃y,BitVec.ofNat 32 (m/4294967296)=y:=⟨_,rfl⟩;have h1:IntKind.u32.wrap (m:Int)=(x.toNat:Int):=by rw[←hx,IntKind.wrap_u32,adH];omega
 have h2:IntKind.u32.wrap ((m:Int)/4294967296)=(y.toNat:Int):=by rw[←hy,IntKind.wrap_u32,adH];omega
 rw[hx,hy] at hv;have HV:=zH hv;clear hv hx hy;go_enter Tryz.func172,Tryz.ntmps172;go_wp2_with fail;have hb:Below w.heap.size w (w.alloc (.cells #[.int .u32 (x.toNat:Int),.int .u32 (y.toNat:Int)] 98)):=(Below.refl _ _).alloc (abi _) _;have hr:RS (w.alloc (.cells #[.int .u32 (x.toNat:Int),.int .u32 (y.toNat:Int)] 98)) (fun b=>b<(w.alloc (.cells #[.int .u32 (x.toNat:Int),.int .u32 (y.toNat:Int)] 98)).heap.size) (some ⟨w.heap.size,0,none⟩) 2 2 [x,y]:=
  RS.of_blk (t:=98) (cs:=#[.int .u32 (x.toNat:Int),.int .u32 (y.toNat:Int)]) (dE.new _ _ _) (Flat.limbs [x,y]) rfl (abi _) (by decide) (by simp)
 refine(Ef hr (fun _ h=>h) (by omega)).mono ?_;rintro e w2 ⟨v,rfl,ho,cj⟩;rw[HV.out] at ho;have HO:=zH (ho.base_le (abk hb.size (abi _)));have HB:=zH (ak hb cj);clear ho hb cj hr h1 h2;go_wp2_with fail;go_ret
 exact⟨_,rfl,HO.out,HB.out⟩
abbrev sBs:SS:=sD (.list .bool)
abbrev Ans (w:World) (S:Nat→Prop) (x:XV) (e:Ending) (w':World):Prop:=∃v S',e=.returned v∧Below w.heap.size w w'∧(∀b,S' b→(false=true∧S b)∨(w.heap.size≤b∧b<w'.heap.size))∧XR [] w' S' x v
section
variable {w w':World} {S:Nat→Prop} {ty:TypeId} {e:Ending} {P:Program} {f:FuncId}
theorem L8 {t:Ty} {xs:List (El t)} (h:jR w ty xs e w'):Ans w S (.one (.list t xs false)) e w':=by
 obtain⟨A,q,c,rfl,_,h1,h2⟩:=h.fr;exact⟨_,cW w w',rfl,h2,fun b q=>.inr q,A,q,c,rfl,h1,fun e=>by cases e⟩
theorem al7 {v:Value} (hv:v.oneCell'=true) (h:gU w v e w'):Ans w S (.one (.sym v)) e w':=⟨_,fun _=>False,h.1,h.2▸Below.refl _ _,fun _ q=>q.elim,rfl,hv⟩
abbrev L1 (t:Ty) (p:List (El t)→Prop) (F:List (El t)→XV):List XV→T XV:=aU [(0,sD (.list t))] fun((xs:List (El t)),_)=>.nd (p xs) (.lf (F xs))
abbrev L2 (t:Ty) (p:List (El t)→List (El t)→Prop) (F:List (El t)→List (El t)→XV):List XV→T XV:=aU [(0,sD (.list t)),(1,sD (.list t))] fun((xs:List (El t)),(ys:List (El t)),_)=>.nd (p xs ys) (.lf (F xs ys))
theorem aaT {t:Ty} {p:List (El t)→Prop} {F:List (El t)→XV} (h:∀(S:Nat→Prop) (A:Option Addr) (c:Nat) (xs:List (El t)) (w:World),p xs→RS w S A xs.length c xs→(∀b,S b→b<w.heap.size)→Calls P f #[.slice A xs.length c] w (Ans w S (F xs))):av P f false (L1 t p F):=
 gD fun w S x vs r hS he hl hr=>by
  obtain⟨(xs:List (El t)),_⟩:=x;obtain⟨v,h1,A,q,c,h2,h3,_⟩:=he 0 (.one (.list t xs false)) abh;obtain⟨hp,rfl⟩:=hr
  match vs,hl,h1 with
  | [v'],_,h1=>
   injection h1 with h1
   obtain rfl:=h3.len;subst h1 h2;exact h S A c xs w hp h3 hS
theorem VC {t:Ty} {p:List (El t)→List (El t)→Prop} {F:List (El t)→List (El t)→XV} (h:∀(S:Nat→Prop) (A:Option Addr) (c:Nat) (A2:Option Addr) (c2:Nat) (xs ys:List (El t)) (w:World),p xs ys→RS w S A xs.length c xs→RS w S A2 ys.length c2 ys→(∀b,S b→b<w.heap.size)→Calls P f #[.slice A xs.length c,.slice A2 ys.length c2] w (Ans w S (F xs ys))):av P f false (L2 t p F):=
 gD fun w S x vs r hS he hl hr=>by
  obtain⟨(xs:List (El t)),(ys:List (El t)),_⟩:=x;obtain⟨v,h1,A,q,c,h2,h3,_⟩:=he 0 (.one (.list t xs false)) abh;obtain⟨v',jl,A',q',c',Cv,Lo,_⟩:=he 1 (.one (.list t ys false)) (abr _ abh);obtain⟨hp,rfl⟩:=hr
  match vs,hl,h1,jl with
  | [u,u'],_,h1,jl=>
   injection h1 with h1
   injection jl with jl
   obtain rfl:=h3.len;obtain rfl:=Lo.len;subst h1 jl h2 Cv;exact h S A c A' c' xs ys w hp h3 Lo hS
end
abbrev aL (t:Ty) (xs:List (El t)):XV:=.one (.list t xs false)
abbrev aBs (n:Nat):XV:=aL .bool (bits n)
def nB (k:Nat) (x:List Bool):Prop:=bits (ar x)=x∧ar x<k
theorem IG {k n:Nat} (h:n<k):nB k (bits n):=⟨by rw[bE],by rw[bE];exact h⟩
theorem nB.len {x:List Bool} (h:nB (2^200) x):x.length≤200:=by rw[←h.1];exact ji h.2 (abi _)
theorem tc:av Tryz.prog 88 false (aU [(0,sI)] fun((n:Int),_)=>.nd (0≤n∧n<9223372036854775808) (.lf (.one (.list .bool (bits n.toNat) false)))):=
 gD fun w S x vs r hS he hl hr=>by
  obtain⟨(n:Int),_⟩:=x;obtain⟨v,h1,h2,_⟩:=he 0 (aI n) abh;obtain⟨⟨hn,hn2⟩,rfl⟩:=hr
  match vs,hl,h1 with
  | [u],_,h1=>
   injection h1 with h1
   subst h1 h2;obtain⟨m,rfl⟩:∃m:Nat,n=m:=⟨n.toNat,by omega⟩;exact Calls.mono (CO m (by omega) w) fun _ _ h=>L8 (t:=.bool) h
abbrev sU:SS:=sD (.int .u64)
theorem ME:av Tryz.prog 172 false (aU [(0,sU)] fun((n:Int),_)=>.nd (0≤n∧n<18446744073709551616) (.lf (aBs n.toNat))):=
 gD fun w S x vs r hS he hl hr=>by
  obtain⟨(n:Int),_⟩:=x;obtain⟨v,h1,h2,_⟩:=he 0 (.one (.sym (.int .u64 n))) abh;obtain⟨⟨hn,hn2⟩,rfl⟩:=hr
  match vs,hl,h1 with
  | [u],_,h1=>
   injection h1 with h1
   subst h1 h2;obtain⟨m,rfl⟩:∃m:Nat,n=m:=⟨n.toNat,by omega⟩;exact Calls.mono (MI m (by omega) w) fun _ _ h=>L8 (t:=.bool) h
theorem xK:av Tryz.prog 87 false (L1 .bool (fun(x:List Bool)=>nB (2^200) x) fun(x:List Bool)=>aS ⟨(bI (ar x)).toArray⟩):=
 aaT fun S A c (x:List Bool) w hp h hS=>Calls.mono (LJ (X:=ar x) (by rw[hp.1];exact h) hS 200 (by decide) hp.2) fun e w' h=>⟨_,fun _=>False,h.1,h.2,fun _ q=>q.elim,rfl,rfl⟩
theorem UZ:av Tryz.prog 115 false (L2 .bool (fun(x y:List Bool)=>nB (2^200) x∧nB (2^200) y) fun(x y:List Bool)=>aBs (Nat.gcd (ar x) (ar y))):=
 VC fun S A c A2 c2 (x y:List Bool) w hp h1 h2 hS=>Calls.mono (U0 (X:=ar x) (Y:=ar y) (by rw[hp.1.1];exact h1) (by rw[hp.2.1];exact h2) hS hS 200 (by decide) hp.1.2 hp.2.2) fun _ _ h=>L8 (t:=.bool) h
theorem TJ:av Tryz.prog 171 false (L2 .bool (fun(x y:List Bool)=>x.length≤200∧y.length≤200) fun(x y:List Bool)=>aBs (ar x*ar y)):=
 VC fun S A c A2 c2 (x y:List Bool) w (hp:x.length≤200∧y.length≤200) h1 h2 hS=>Calls.mono (TK (xs:=x) (ys:=y) h1 h2 hS hS (abk hp.1 (by decide)) (abk hp.2 (by decide))) fun _ _ h=>L8 (t:=.bool) h
def amc (q r:Nat):XV:=.tup [(false,[.list .bool (bits q) false]),(false,[.list .bool (bits r) false])]
theorem Rj:av Tryz.prog 113 false (L2 .bool (fun(x y:List Bool)=>x.length≤200∧y.length≤200∧0<ar y) fun(x y:List Bool)=>amc (ar x/ar y) (ar x%ar y)):=
 VC fun S A c A2 c2 (x y:List Bool) w (hp:x.length≤200∧y.length≤200∧0<ar y) h1 h2 hS=>Calls.mono (B7 (xs:=x) (ys:=y) h1 h2 hS hS (abk hp.1 (by decide)) (abk hp.2.1 (by decide)) hp.2.2) fun e w' ⟨v1,v2,e0,o1,o2,hb⟩=>by
  obtain⟨A1,m1,c1,rfl,_⟩:=o1.slice;obtain⟨A2,m2,c2,rfl,_⟩:=o2.slice;exact⟨_,cW w w',e0,hb,fun b q=>.inr q,[_,_],rfl,.cons ⟨_,rfl,_,_,_,rfl,o1.fresh (abi _),fun e=>by cases e⟩ (.cons ⟨_,rfl,_,_,_,rfl,o2.fresh (abi _),fun e=>by cases e⟩ .nil)⟩
theorem Rp:av Tryz.prog 89 false (L2 .bool (fun _ _=>True) fun(x y:List Bool)=>aI (kM (ar x) (ar y))):=
 VC fun _ _ _ _ _ (x y:List Bool) _ _ h1 h2 _=>Calls.mono (JB (xs:=x) (ys:=y) h1 h2) fun _ _=>al7 rfl
theorem L5:av Tryz.prog 91 false (L1 .limb (fun(x:List (BitVec 32))=>x.length≤1000000) fun(x:List (BitVec 32))=>aBs (val x)):=
 aaT fun _ _ _ (x:List (BitVec 32)) _ hp h hS=>Calls.mono (Ef (xs:=x) h hS hp) fun _ _ h=>L8 (t:=.bool) h
theorem VD:av Tryz.prog 170 false (L1 .bool (fun(x:List Bool)=>x.length≤1000000∧ar x<4294967296) fun(x:List Bool)=>aL .limb (dm (ar x))):=
 aaT fun _ _ _ (x:List Bool) _ (hp:x.length≤1000000∧ar x<4294967296) h _=>Calls.mono (XJ (xs:=x) h hp.1 hp.2) fun _ _ h=>L8 (t:=.limb) h
abbrev mK:=Bool×List Bool×List Bool
def QT (q:Q):mK:=(q.neg,bits q.n,bits q.d)
def vR (x:mK):Q:=⟨x.1,ar x.2.1,ar x.2.2⟩
theorem sX (q:Q):vR (QT q)=q:=by unfold vR QT;simp only[bE]
abbrev sQ:SS:=.st 9
def aQ (q:Q):XV:=.agg (lJ (.st 9) (QT q))
def aR (r:Raw):XV:=.agg (lJ (.st 8) r)
noncomputable def Cf1:hZ Tryz.prog:=dj uC [⟨_,_,_,tc⟩,⟨_,_,_,UZ⟩,⟨_,_,_,Rj⟩] []
def adv:T XV:=.nd ((0:Int)≤1∧(1:Int)<9223372036854775808) (.lf (.agg [.sym (.bool false),.val (.slice none 0 0),.list .bool (bits (Int.toNat 1)) false]))
def ai4 (g:Bool) (x y d:List Bool):T XV:=.nd (x.length≤200∧d.length≤200∧0<ar d) (.nd (y.length≤200∧d.length≤200∧0<ar d) (.lf (.agg [.sym (.bool g),.list .bool (bits (ar x/ar d)) false,.list .bool (bits (ar y/ar d)) false])))
def YF (g:Bool) (x y:List Bool):T XV:=.br ((x.length:Int)==0) adv (.br ((y.length:Int)==0) adv (.nd (nB (2^200) x∧nB (2^200) y) (ai4 g x y (bits (Nat.gcd (ar x) (ar y))))))
theorem ahY {w:World} {S:Nat→Prop} {v:Value} {a b:AV} (h:XR [] w S (.agg [a,.val (.slice none 0 0),b]) v):XR [] w S (.agg [a,.list .bool [] false,b]) v:=by
 obtain⟨vs,rfl,h⟩:=h;cases h with
 | cons h1 h=>
  cases h with
  | cons h2 h=>exact⟨_,rfl,.cons h1 (.cons ⟨none,0,0,h2.1,RS.nil _ _,fun e=>by cases e⟩ h)⟩
theorem nB.zero {k:Nat} {x:List Bool} (h:nB k x):((x.length:Int)==0)=decide (ar x=0):=by
 by_cases h0:ar x=0
 ·have:=h.1;rw[h0,ey] at this;subst this;rfl
 ·rw[decide_eq_false h0,beq_eq_false_iff_ne];intro e;obtain rfl:=abs (aes.1 e);exact h0 rfl
theorem Oj:av Tryz.prog 90 true (aU [(0,sB),(1,sBs),(2,sBs)] fun((g:Bool),(x:List Bool),(y:List Bool),_)=>.nd (nB (2^200) x∧nB (2^200) y) (.lf (aQ (ez g (ar x) (ar y))))):=
 (bz (C:=Cf1) (nL _ _) true 99 [(0,sB),(1,sBs),(2,sBs)] (fun((g:Bool),(x:List Bool),(y:List Bool),_)=>YF g x y) (fun _ _ _ h=>⟨h,.inl rfl⟩) Tryz.func90).imp fun⟨(g:Bool),(x:List Bool),(y:List Bool),_⟩ r ⟨⟨hx,hy⟩,h⟩=>by
  obtain rfl:aQ (ez g (ar x) (ar y))=r:=h;show∃q,(YF g x y).hit q∧_;unfold YF;rw[hx.zero,hy.zero];by_cases h0:ar x=0∨ar y=0
  ·have e:aQ (ez g (ar x) (ar y))=.agg [.sym (.bool false),.list .bool [] false,.list .bool (bits (Int.toNat 1)) false]:=by
    unfold ez;rw[if_pos h0];unfold aQ QT;rw[ey];rfl
   rw[e];refine⟨_,?_,fun w S v h=>ahY h⟩;rcases h0 with h0|h0
   ·exact aX (decide_eq_true h0) ⟨by decide,rfl⟩
   ·by_cases h1:ar x=0
    ·exact aX (decide_eq_true h1) ⟨by decide,rfl⟩
    ·exact bg (decide_eq_false h1) (aX (decide_eq_true h0) ⟨by decide,rfl⟩)
  ·have h1:ar x≠0:=fun e=>h0 (.inl e);have h2:ar y≠0:=fun e=>h0 (.inr e);have hg:0<Nat.gcd (ar x) (ar y):=Nat.gcd_pos_of_pos_left _ (by omega);have hl:(bits (Nat.gcd (ar x) (ar y))).length≤200:=ji (Nat.lt_of_le_of_lt (Nat.gcd_le_left _ (by omega)) hx.2) (abi _);refine⟨_,bg (decide_eq_false h1) (bg (decide_eq_false h2) ⟨⟨hx,hy⟩,⟨hx.len,hl,by rw[bE];exact hg⟩,⟨hy.len,hl,by rw[bE];exact hg⟩,rfl⟩),fun w S v h=>?_⟩;rw[bE] at h;unfold ez;rw[if_neg h0];exact h
theorem uv {d:Nat}:bI d=[49]↔d=1:=by
 constructor
 ·intro h;unfold bI at h;split at h
  ·cases h
  ·rename_i h0;have h1:=congrArg List.reverse h;rw[aa7,gy,dif_neg h0] at h1;injection h1 with h2 h3
   have h4:d/10=0:=by
    by_cases h:d/10=0
    ·exact h
    ·rw[gy,dif_neg h] at h3;cases h3
   have h5:=congrArg UInt8.toNat h2;unfold Fp at h5;simp at h5;omega
 ·intro h;subst h;show(if(1:Nat)=0 then[48] else(gy 1).reverse)=[49];rw[if_neg (by omega),gy,dif_neg (by omega),show 1/10=0 from rfl,gS];rfl
theorem pW {X L:Nat} (h:X<2^L):(bI X).length≤L+2:=by
 unfold bI;split
 ·simp
 ·rw[aa9];have:=xJ h;omega
def F8 (n:Nat) (x:mK):Prop:=QT (vR x)=x∧(vR x).n<n∧(vR x).d<n
theorem F8.n {k m:Nat} {x:mK} (h:F8 k x) (hk:k≤m):nB m x.2.1:=⟨congrArg (fun x=>x.2.1) h.1,abw h.2.1 hk⟩
theorem F8.d {k m:Nat} {x:mK} (h:F8 k x) (hk:k≤m):nB m x.2.2:=⟨congrArg (fun x=>x.2.2) h.1,abw h.2.2 hk⟩
noncomputable def Cf2:hZ Tryz.prog:=dj uC [⟨_,_,_,tc⟩,⟨_,_,_,Oj⟩,⟨_,_,_,TJ⟩,⟨_,_,_,L5⟩,⟨_,_,_,VD⟩,⟨_,_,_,ME⟩,⟨_,_,_,xK⟩,⟨_,_,_,Rp⟩] []
def TC (g:Bool) (x y:Nat):T XV:=.nd (nB (2^200) (bits x)∧nB (2^200) (bits y)) (.lf (aQ (ez g (ar (bits x)) (ar (bits y)))))
theorem wK {g:Bool} {x y:Nat} (hx:x<2^200) (hy:y<2^200):(TC g x y).hit (aQ (ez g x y)):=⟨⟨IG hx,IG hy⟩,by rw[bE,bE];rfl⟩
theorem Hw {l:List (BitVec 32)} (h:l.length≤6):val l<2^200:=by
 have h1:=eJ l;have h2:4294967296^l.length≤4294967296^6:=acv (by omega) h;exact abw h1 (abk h2 (by decide))
theorem Qo:av Tryz.prog 55 true (aU [(0,.st 8)] fun((x:Raw),_)=>.nd (x.short 6) (.lf (aQ x.q))):=
 bz (C:=Cf2) (nL _ _) true 99 [(0,.st 8)] (fun((x:Raw),_)=>.nd (x.num.length≤1000000) (.nd (x.den.length≤1000000) (TC x.neg (val x.num) (val x.den)))) (fun⟨(x:Raw),_⟩ r _ ⟨hs,h⟩=>by
  obtain rfl:aQ x.q=r:=h;exact⟨⟨abk hs.1 (by decide),abk hs.2 (by decide),wK (Hw hs.1) (Hw hs.2)⟩,.inl rfl⟩) Tryz.func55
def toB (x:mK):T XV:=.nd (x.2.1.length≤1000000∧ar x.2.1<4294967296) (.nd (x.2.2.length≤1000000∧ar x.2.2<4294967296) (.lf (aR (vR x).raw)))
theorem XI:av Tryz.prog 142 true (aU [(0,sQ)] fun((x:mK),_)=>.nd (F8 4294967296 x) (.lf (aR (vR x).raw))):=
 bz (C:=Cf2) (nL _ _) true 99 [(0,sQ)] (fun((x:mK),_)=>toB x) (fun⟨(x:mK),_⟩ r _ ⟨hs,h⟩=>by
  obtain rfl:aR (vR x).raw=r:=h;exact⟨⟨⟨abk (hs.n (m:=2^200) (by decide)).len (by decide),hs.2.1⟩,⟨abk (hs.d (m:=2^200) (by decide)).len (by decide),hs.2.2⟩,rfl⟩,.inl rfl⟩) Tryz.func142
def ofY (g:Bool) (u:Int):T XV:=.nd (0≤u∧u<18446744073709551616) (.nd ((0:Int)≤1∧(1:Int)<9223372036854775808) (TC g u.toNat (Int.toNat 1)))
theorem YC:av Tryz.prog 144 true (aU [(0,sI)] fun((n:Int),_)=>.nd (0≤n∧n<9223372036854775808) (.lf (aQ (ez false n.toNat 1)))):=
 bz (C:=Cf2) (nL _ _) true 99 [(0,sI)] (fun((n:Int),_)=>.br (decide (n<0)) (.nd (cN (n+1)) (ofY true (IntKind.u64.wrap (IntKind.u64.wrap (IntKind.i64.wrap (0-(n+1)))+1)))) (ofY false (IntKind.u64.wrap n))) (fun⟨(n:Int),_⟩ r _ ⟨hs,h⟩=>by
  obtain rfl:aQ (ez false n.toNat 1)=r:=h;refine⟨bg (decide_eq_false (by omega)) ?_,.inl rfl⟩;have e:IntKind.u64.wrap n=n:=by rw[IntKind.wrap_u64];omega
  rw[e];exact⟨⟨hs.1,by omega⟩,by decide,wK (abw (show n.toNat<9223372036854775808 by omega) (by decide)) (by decide)⟩) Tryz.func144
def LG (x y:Q):Q:=ez (x.neg !=y.neg) (x.n*y.d) (x.d*y.n)
def dvB (x y:mK):T XV:=.nd (x.2.1.length≤200∧y.2.2.length≤200) (.nd (x.2.2.length≤200∧y.2.1.length≤200) (TC (x.1 !=y.1) (ar x.2.1*ar y.2.2) (ar x.2.2*ar y.2.1)))
theorem IH {x y:Nat} (hx:x<2^100) (hy:y<2^100):x*y<2^200:=Nat.lt_of_lt_of_eq (Nat.mul_lt_mul'' hx hy) (by rw[←Nat.pow_add])
theorem Vm:av Tryz.prog 143 true (aU [(0,sQ),(1,sQ)] fun((x:mK),(y:mK),_)=>.nd (F8 (2^100) x∧F8 (2^100) y) (.lf (aQ (LG (vR x) (vR y))))):=
 bz (C:=Cf2) (nL _ _) true 99 [(0,sQ),(1,sQ)] (fun((x:mK),(y:mK),_)=>dvB x y) (fun⟨(x:mK),(y:mK),_⟩ r _ ⟨⟨hx,hy⟩,h⟩=>by
  obtain rfl:aQ (LG (vR x) (vR y))=r:=h;have l:2^100≤2^200:=acv (by omega) (by omega);exact⟨⟨⟨(hx.n l).len,(hy.d l).len⟩,⟨(hx.d l).len,(hy.n l).len⟩,wK (IH hx.2.1 hy.2.2) (IH hx.2.2 hy.2.1)⟩,.inl rfl⟩) Tryz.func143
def Xk (n:Nat):ByteArray:=⟨(bI n).toArray⟩
def txE (s:ByteArray) (y:List Bool):T XV:=.nd ((0:Int)≤1∧(1:Int)<9223372036854775808) (.nd True (.br (!(kM (ar y) (ar (bits (Int.toNat 1)))==0)) (.nd (nB (2^200) y) (.nd ((⟨#[47]⟩:ByteArray).size+(Xk (ar y)).size≤9223372036854775807) (.nd (s.size+((⟨#[47]⟩:ByteArray)++Xk (ar y)).size≤9223372036854775807) (.lf (aS (s++(⟨#[47]⟩++Xk (ar y)))))))) (.lf (aS s))))
def txT (x:mK):T XV:=.nd (nB (2^200) x.2.1) (.br x.1 (.nd ((⟨#[45]⟩:ByteArray).size+(Xk (ar x.2.1)).size≤9223372036854775807) (txE (⟨#[45]⟩++Xk (ar x.2.1)) x.2.2)) (txE (Xk (ar x.2.1)) x.2.2))
theorem Ex {n:Nat} (h:n<2^200):(Xk n).size≤202:=by
 show(bI n).toArray.size≤202;rw[abM];exact pW h
theorem Hz {s:List UInt8} {y:List Bool} (hy:nB (2^200) y) (hs:s.length≤1000):(txE ⟨s.toArray⟩ y).hit (aS ⟨(s++(if bI (ar y)=[49] then[] else 47::bI (ar y))).toArray⟩):=by
 have hl:=Ex hy.2;refine⟨by decide,trivial,?_⟩;rw[bE];by_cases h:ar y=1
 ·rw[if_pos (uv.2 h),abZ];exact bg (by rw[h];rfl) rfl
 ·rw[if_neg fun e=>h (uv.1 e)];refine aX ?_ ⟨hy,?_,?_,?_⟩
  ·unfold kM;rw[show Int.toNat 1=1 from rfl];rcases Nat.lt_or_ge (ar y) 1 with g|g
   ·rw[if_pos g];rfl
   ·rw[if_neg (by omega),if_neg h];rfl
  ·show 1+_≤_;omega
  ·rw[ByteArray.size_append];show s.toArray.size+(1+_)≤_;rw[abM];omega
  ·exact congrArg aS ((congrArg (fun t=>_++t) (gl [47] _)).trans (gl _ _))
theorem M0:av Tryz.prog 54 false (aU [(0,sQ)] fun((x:mK),_)=>.nd (F8 (2^200) x) (.lf (aS ⟨(iE (vR x)).toArray⟩))):=
 bz (C:=Cf2) (nL _ _) false 99 [(0,sQ)] (fun((x:mK),_)=>txT x) (fun⟨⟨(g:Bool),(x:List Bool),(y:List Bool)⟩,_⟩ r _ ⟨hs,h⟩=>by
  obtain rfl:aS ⟨(iE (vR (g,x,y))).toArray⟩=r:=h;have hx:nB (2^200) x:=hs.n (abi _);have hl:=pW hx.2;refine⟨⟨hx,?_⟩,.inr rfl⟩;unfold iE;cases g with
  | true=>
   refine aX rfl ⟨?_,?_⟩
   ·have:=Ex hx.2;show 1+(Xk (ar x)).size≤_;omega
   ·have:=Hz (s:=[45]++bI (ar x)) (hs.d (abi _)) (by simp only[abm,abN];omega);rw[←gl] at this;exact this
  | false=>exact bg rfl (Hz (s:=bI (ar x)) (hs.d (abi _)) (by omega))) Tryz.func54
end Go.Proofs.YtjlhbfbdcfajfaaGreatDoor
