/- Tm3 Tm4 Tm5 Tf1 Tf2 -/
import Derived.Test.YtdbpbfglhbiadaaGreatDoorL00
import Derived.Test.YtdbpbfglhbiadaaGreatDoorL34
import Derived.Test.YtdbpbfglhbiadaaGreatDoorL21
set_option maxHeartbeats 8000000
set_option maxRecDepth 100000
namespace Go.Proofs.YtdbpbfglhbiadaaGreatDoor
open Go Go.RowKit
def Jc (k:ByteArray):List ByteArray→T XV
 | []=>.lf (.one (.val (.slice none 0 0)))
 | a::l=>.br (k.toList==a.toList) (.lf (.one (.list .str (aD a) true))) (Jc k l)
theorem zY {k:ByteArray}:∀{l:List ByteArray},(k∉l→aD k=[])→∃q,(Jc k l).hit q∧∀(w:World) (S:Nat→Prop) (v:Value),XR [] w S q v→XR [] w S (.one (.list .str (aD k) true)) v
 | [],h=>⟨_,rfl,fun w S v ⟨e,_⟩=>⟨none,0,0,e,by rw[h (by simp)];exact RS.nil _ _,fun _ _=>rfl⟩⟩
 | a::l,h=>by
  by_cases e:k=a
  ·subst e;exact⟨_,aZ (by simp) rfl,fun _ _ _ h=>h⟩
  ·obtain⟨q,h1,h2⟩:=zY (k:=k) (l:=l) fun hl=>h (by simp[e,hl]);exact⟨q,bh (by rw[eG];exact decide_eq_false e) h1,h2⟩
theorem rX:av Tryz.prog 111 true (aU [(0,sS)] fun((s:ByteArray),_)=>.lf (.one (.list .str (aD s) true))):=
 av.imp (l0:=[(0,sS)]) (F:=fun((k:ByteArray),_)=>Jc k i9) (bC (C:=C1) (nL _ _) true 99 [(0,sS)] (fun((k:ByteArray),_)=>Jc k i9) (fun _ _ _ h=>⟨h,.inl rfl⟩) Tryz.func111) fun⟨(k:ByteArray),_⟩ r h=>by
  obtain rfl:XV.one (.list .str (aD k) true)=r:=h;refine zY fun h=>?_;simp only[i9,aaP,abL,or_false,not_or] at h;obtain⟨h1,h2,h3,h4,h5,h6,h7⟩:=h;exact(if_neg h1).trans ((if_neg h2).trans ((if_neg h3).trans ((if_neg h4).trans ((if_neg h5).trans ((if_neg h6).trans (if_neg h7))))))
def nt (p:Int×Int) (no line:Int):Int×Int:=if p.1=0∧no≠0 then(no,line) else p
abbrev stN:List CS:=[.any,.any,.any,.any,.any,.any,.any,.any,.any,.any,.any,.any,.any,.any,.any,.any,.any,.d tI,.d tI]
abbrev sN:SS:=.box 118 stN
abbrev pN:List Nat:=[0,1,2,3,4,5,6,7,8,9,10,11,12,13,14,15,16,17]
abbrev sF:SS:=.st 0
abbrev gV:=eT stN
def mkN (p:Int×Int):gV:=((),(),(),(),(),(),(),(),(),(),(),(),(),(),(),(),(),p.1,p.2,())
def gV.f (x:gV):Int×Int:=(x.2.2.2.2.2.2.2.2.2.2.2.2.2.2.2.2.2.1,x.2.2.2.2.2.2.2.2.2.2.2.2.2.2.2.2.2.2.1)
def gV.err (x:gV):Int:=x.f.1
def gV.note (x:gV) (no line:Int):gV:=mkN (nt x.f no line)
def gV.setF (_:gV) (no line:Int):gV:=mkN (no,line)
theorem K1 {p:Int×Int} {no:Int} (line:Int) (h:p.1=0) (hn:no≠0):nt p no line=(no,line):=if_pos ⟨h,hn⟩
theorem TF {p:Int×Int} (no line:Int) (h:p.1≠0):nt p no line=p:=if_neg fun q=>h q.1
theorem Ow {p:Int×Int} (line:Int):nt p 0 line=p:=if_neg fun q=>q.2 rfl
theorem ad8 {p:Int×Int} {c d line xq:Int} (hc:c≠0):nt (nt p c line) d xq=nt p c line:=by
 by_cases h:p.1=0
 ·rw[K1 line h hc];exact TF d xq hc
 ·rw[TF c line h,TF d xq h]
theorem Oy {x:gV} {no:Int} (line:Int) (h:x.err=0) (hn:no≠0):x.note no line=x.setF no line:=congrArg mkN (K1 line h hn)
theorem Oz {x:gV} (no line:Int) (h:x.err≠0):x.note no line=x:=congrArg mkN (TF no line h)
theorem Bv {x:gV} (line:Int):x.note 0 line=x:=congrArg mkN (Ow line)
abbrev an (r:XV) (x:gV):XV×gV×Unit:=(r,x,())
theorem kK:gi Tryz.prog 62 pN [(0,sN),(1,sI),(2,sI)] [(0,sN)] fun((x:gV),(no:Int),(line:Int),_)=>.nd ((0:Int)≠no) (.lf (an (.tup []) (x.note no line))):=
 kM (C:=C1) (nL _ _) 99 [(0,sN),(1,sI),(2,sI)] [(0,sN)] (fun((x:gV),(no:Int),(line:Int),_)=>.br (x.err==0) (.lf (an (.tup []) (x.setF no line))) (.lf (an (.tup []) x)))
  (fun⟨(x:gV),no,line,_⟩ r _ ⟨hn,h⟩=>by
   obtain rfl:an (.tup []) (x.note no line)=r:=h;by_cases e:x.err=0
   ·exact aZ (beq_iff_eq.2 e) (congrArg (an _) (Oy line e (acp hn)).symm)
   ·exact bh (beq_eq_false_iff_ne.2 e) (congrArg (an _) (Oz no line e).symm)) Tryz.func62
noncomputable def C2:ik Tryz.prog:=dE uT [⟨_,_,_,find_ok⟩,⟨_,_,_,ol⟩,⟨_,_,_,qZ⟩,⟨_,_,_,By⟩,⟨_,_,_,oZ⟩,⟨_,_,_,rX⟩] [⟨_,_,_,_,_,kK⟩]
theorem tq:gi Tryz.prog 200 pN [(0,sN),(1,sF)] [(0,sN)] fun((x:gV),(f:ar),_)=>.lf (an (aS (bj f.vals)) (x.note (dM f.vals) f.line)):=
 kM (C:=C2) (nL _ _) 99 [(0,sN),(1,sF)] [(0,sN)] (fun((x:gV),(f:ar),_)=>.br (!((f.vals.length:Int)==1)) (.nd ((0:Int)≠7) (.lf (an (aS ⟨#[]⟩) (x.note 7 f.line)))) (.nd ((0:Int)≤0∧(0:Int)<f.vals.length) (.lf (an (aS (f.vals.getD 0 ⟨#[]⟩)) x))))
  (fun⟨(x:gV),(f:ar),_⟩ r _ h=>by
   obtain rfl:an (aS (bj f.vals)) (x.note (dM f.vals) f.line)=r:=h;by_cases e:f.vals.length=1
   ·refine bh (by rw[e];rfl) ⟨⟨by omega,by omega⟩,?_⟩;rw[bj,dM,if_neg (by simp[e]),if_neg (by simp[e]),Bv];rfl
   ·refine aZ (by simp;omega) ⟨by decide,?_⟩;rw[bj,dM,if_pos e,if_pos e];rfl) Tryz.func200
noncomputable def C3:ik Tryz.prog:=dE uT [⟨_,_,_,find_ok⟩,⟨_,_,_,ol⟩,⟨_,_,_,qZ⟩,⟨_,_,_,By⟩,⟨_,_,_,oZ⟩,⟨_,_,_,rX⟩] [⟨_,_,_,_,_,kK⟩,⟨_,_,_,_,_,tq⟩]
theorem Y0 {x:gV} {no:Int} (line:Int) (h:x.err=0) (hn:no≠0):(x.note no line).err=no:=by rw[Oy line h hn];rfl
theorem Ox {x:gV} {c d line xq:Int} (hc:c≠0):(x.note c line).note d xq=x.note c line:=congrArg mkN (ad8 hc)
theorem Fb {x:gV} {a:XV} {c d e line:Int} (h:(if c=0 then d else c)=e):an a ((x.note c line).note d line)=an a (x.note e line):=by
 subst h;by_cases hc:c=0
 ·rw[if_pos hc,hc,Bv]
 ·rw[if_neg hc,Ox hc]
theorem Mq {x:gV} {a:XV} {c e line:Int} (h:c=e):an a (x.note c line)=an a (x.note e line):=by rw[h]
theorem uB:∀(xs:List ByteArray) (s:ByteArray) (i:Nat),Lib.idxFromS xs s i≤i+xs.length
 | [],_,_=>by show(-1:Int)≤_;omega
 | x::l,s,i=>by
  unfold Lib.idxFromS;split
  ·simp only[aaO];omega
  ·have:=uB l s (i+1);simp only[aaO];omega
theorem Pu:gi Tryz.prog 152 pN [(0,sN),(1,sF),(2,sI),(3,sI)] [(0,sN)] fun((x:gV),(f:ar),(a:Int),(b:Int),_)=>.nd ((bj f.vals).size≤9223372036854775807) (.lf (an (aI (jh f.vals)) (x.note (jz f.vals a b) f.line))):=
 kM (C:=C3) (nL _ _) 99 [(0,sN),(1,sF),(2,sI),(3,sI)] [(0,sN)] (fun((x:gV),(f:ar),(a:Int),(b:Int),_)=>.nd ((bj f.vals).size≤9223372036854775807) (.br (!(dJ (bj f.vals).data.toList).2) (.nd ((0:Int)≠5) (.lf (an (aI (jh f.vals)) ((x.note (dM f.vals) f.line).note 5 f.line)))) (.br (decide (jh f.vals<a)) (.nd ((0:Int)≠4) (.lf (an (aI (jh f.vals)) ((x.note (dM f.vals) f.line).note 4 f.line)))) (.br (decide (jh f.vals>b)) (.nd ((0:Int)≠4) (.lf (an (aI (jh f.vals)) ((x.note (dM f.vals) f.line).note 4 f.line)))) (.lf (an (aI (jh f.vals)) (x.note (dM f.vals) f.line)))))))
  (fun⟨(x:gV),(f:ar),(a:Int),(b:Int),_⟩ r _ ⟨hs,h⟩=>by
   obtain rfl:an (aI (jh f.vals)) (x.note (jz f.vals a b) f.line)=r:=h;refine⟨hs,fun h1=>⟨by decide,Fb ?_⟩,fun h1=>⟨fun h2=>⟨by decide,Fb ?_⟩,fun h2=>⟨fun h3=>⟨by decide,Fb ?_⟩,fun h3=>?_⟩⟩⟩
   ·unfold jz dM;split<;>simp_all
   ·unfold jz dM;split<;>simp_all
   ·unfold jz dM;split<;>simp_all
   ·refine Mq ?_;have:=of_decide_eq_false h2;have:=of_decide_eq_false h3;unfold jz dM;split<;>simp_all) Tryz.func152
theorem VB:gi Tryz.prog 151 pN [(0,sN),(1,sF),(2,sL)] [(0,sN)] fun((x:gV),(f:ar),(l:List ByteArray),_)=>.nd (l.length≤99) (.lf (an (aI (iN f.vals l)) (x.note (jA f.vals l) f.line))):=
 kM (C:=C3) (nL _ _) 99 [(0,sN),(1,sF),(2,sL)] [(0,sN)] (fun((x:gV),(f:ar),(l:List ByteArray),_)=>.br (decide (Lib.idxOfS l (bj f.vals)<0)) (.nd ((0:Int)≠2) (.nd (cf (iN f.vals l)) (.lf (an (aI (iN f.vals l)) ((x.note (dM f.vals) f.line).note 2 f.line))))) (.nd (cf (iN f.vals l)) (.lf (an (aI (iN f.vals l)) (x.note (dM f.vals) f.line)))))
  (fun⟨(x:gV),(f:ar),(l:List ByteArray),_⟩ r _ ⟨hs,h⟩=>by
   obtain rfl:an (aI (iN f.vals l)) (x.note (jA f.vals l) f.line)=r:=h;have hb:cf (iN f.vals l):=by
    have:=uB l (bj f.vals) 0;have:=mZ l (bj f.vals) 0;unfold iN cf Lib.idxOfS at*;omega
   refine⟨fun h1=>⟨by decide,hb,Fb ?_⟩,fun h1=>⟨hb,?_⟩⟩
   ·unfold jA dM;split<;>simp_all
   ·refine Mq ?_;unfold jA dM;split<;>simp_all) Tryz.func151
theorem Dd:gi Tryz.prog 155 pN [(0,sN),(1,sF)] [(0,sN)] fun((x:gV),(f:ar),_)=>.nd ((bj f.vals).size≤9223372036854775807) (.lf (an (aS (bj f.vals)) (x.note (kX f.vals) f.line))):=
 kM (C:=C3) (nL _ _) 99 [(0,sN),(1,sF)] [(0,sN)] (fun((x:gV),(f:ar),_)=>.br (!((bj f.vals).toList==(⟨#[]⟩:ByteArray).toList)) (.nd ((bj f.vals).size≤9223372036854775807) (.br (!ox (bj f.vals)) (.nd ((0:Int)≠8) (.lf (an (aS (bj f.vals)) ((x.note (dM f.vals) f.line).note 8 f.line)))) (.lf (an (aS (bj f.vals)) (x.note (dM f.vals) f.line))))) (.lf (an (aS (bj f.vals)) (x.note (dM f.vals) f.line))))
  (fun⟨(x:gV),(f:ar),_⟩ r _ ⟨hs,h⟩=>by
   obtain rfl:an (aS (bj f.vals)) (x.note (kX f.vals) f.line)=r:=h;refine⟨fun h1=>⟨hs,fun h2=>⟨by decide,Fb ?_⟩,fun h2=>?_⟩,fun h1=>?_⟩
   ·rw[eG] at h1;unfold kX dM;split<;>simp_all
   ·refine Mq ?_;rw[eG] at h1;unfold kX dM;split<;>simp_all
   ·refine Mq ?_;rw[eG] at h1;unfold kX dM;split<;>simp_all) Tryz.func155
abbrev My:SS:=.box 93 [.d .str,.d (.list .str),.d tI]
abbrev AO:=eT [.d .str,.d (.list .str),.d tI]
def AO.vs (f:AO):List ByteArray:=f.2.1
def AO.ln (f:AO):Int:=f.2.2.1
theorem OG (s:ByteArray):ox s=dN s 1 24:=by
 unfold ox dN;cases fQ s.data.toList<;>simp
abbrev FT (l:List ByteArray):Prop:=∀s∈l,s.size≤9223372036854775807
abbrev oz (x:gV) (f:AO):LE [(0,sN),(2,sI),(4,My),(7,sI)] [(0,sN),(4,My)] [(0,sN)]:=.out (x,f,())
abbrev xj (x:gV) (m:Int) (f:AO) (i:Int):LE [(0,sN),(2,sI),(4,My),(7,sI)] [(0,sN),(4,My)] [(0,sN)]:=.back (x,m,f,i,())
theorem DX (m:Int) (pre:List ByteArray) (s:ByteArray) (r:List ByteArray):fp m pre (s::r)=if(pre.length:Int)=m then 7 else if dN s 1 24=false then 8 else if Lib.containsS pre s then 3 else fp m (pre++[s]) r:=by rw[fp]
def I3 (x:gV) (m:Int) (l:List ByteArray) (i:Int):Prop:=0≤i∧i≤l.length∧(x.err=0→i≤m)∧FT l
theorem Uh:eS (LU C3 Tryz.f113 pN) 0 0 [(0,sN),(2,sI),(4,My),(7,sI)] [(0,sN),(4,My)] [(0,sN)] fun((x:gV),(m:Int),(f:AO),(i:Int),_)=>
 .nd (I3 x m f.vs i) (.lf (oz (x.note (fp m (f.vs.take i.toNat) (f.vs.drop i.toNat)) f.ln) f)):=by
  refine eY _ (nL _ _) 99 0 0 [(0,sN),(2,sI),(4,My),(7,sI)] [(0,sN),(4,My)] [(0,sN)] (fun((x:gV),(m:Int),(f:AO),(i:Int),_)=>.br (decide (i<f.vs.length)) (.br (x.err==0) (.br (decide (i≥m)) (.nd ((0:Int)≠7) (.nd (cf (i+1)) (.lf (xj (x.note 7 f.ln) m f (i+1))))) (.nd (0≤i∧i<f.vs.length) (.nd ((f.vs.getD i.toNat ⟨#[]⟩).size≤9223372036854775807) (.br (!ox (f.vs.getD i.toNat ⟨#[]⟩)) (.nd ((0:Int)≠8) (.nd (cf (i+1)) (.lf (xj (x.note 8 f.ln) m f (i+1))))) (.nd ((0:Int)≤0∧0≤i∧i≤f.vs.length) (.nd (0≤i∧i<f.vs.length) (.br (decide (Lib.idxOfS (f.vs.take i.toNat) (f.vs.getD i.toNat ⟨#[]⟩)≥0)) (.nd ((0:Int)≠3) (.nd (cf (i+1)) (.lf (xj (x.note 3 f.ln) m f (i+1))))) (.nd (cf (i+1)) (.lf (xj x m f (i+1))))))))))) (.lf (oz x f))) (.lf (oz x f)))
   (fun(_,_,(f:AO),(i:Int),_)=>f.vs.length-i.toNat) ?_
  rintro⟨(x:gV),(m:Int),(f:AO),(i:Int),_⟩ r tj ⟨hn,hr⟩;obtain⟨h0,h1,h2,h3⟩:I3 x m f.vs i:=hn;have hl:f.vs.length≤9223372036854775807:=tj.2.2.1.2.1;obtain⟨k,rfl⟩:∃k:Nat,i=k:=⟨i.toNat,by omega⟩;obtain rfl:oz (x.note (fp m (f.vs.take k) (f.vs.drop k)) f.ln) f=r:=hr;by_cases hk:k<f.vs.length
  ·by_cases he:x.err=0
   ·have hx:=getD_drop (⟨#[]⟩:ByteArray) hk;have Cw:f.vs[k]?=some (f.vs.getD k ⟨#[]⟩):=by rw[aai,aae hk];rfl
    have hm:=h2 he;have hs:=h3 (f.vs.getD k ⟨#[]⟩) (ack Cw);have dj:cf ((k:Int)+1):=⟨by omega,by omega⟩;have dec:f.vs.length-(k+1)<f.vs.length-k:=by omega
    have hp:ox (f.vs.getD k ⟨#[]⟩)=dN (f.vs.getD k ⟨#[]⟩) 1 24:=OG _;have stop:∀c:Int,c≠0→fp m (f.vs.take k) (f.vs.drop k)=c→I3 (x.note c f.ln) m f.vs ((k:Int)+1)∧oz ((x.note c f.ln).note (fp m (f.vs.take (k+1)) (f.vs.drop (k+1))) f.ln) f=oz (x.note (fp m (f.vs.take k) (f.vs.drop k)) f.ln) f:=fun c hc hg=>by
     refine⟨⟨by omega,by omega,fun q=>absurd q (by rw[Y0 _ he hc];exact hc),h3⟩,?_⟩;rw[hg,Ox hc]
    rw[hx] at stop ⊢;rw[DX,acb,adz (by omega)] at stop ⊢;by_cases h7:(k:Int)=m
    ·rw[if_pos h7] at stop ⊢;exact⟨_,aZ (decide_eq_true (by omega)) (aZ (beq_iff_eq.2 he) (aZ (decide_eq_true (by omega)) ⟨by decide,dj,rfl⟩)),dec,stop 7 (by decide) rfl⟩
    rw[if_neg h7] at stop ⊢;have go:∀{y:T (LE [(0,sN),(2,sI),(4,My),(7,sI)] [(0,sN),(4,My)] [(0,sN)])} {q},y.hit q→_:=fun {y q} h=>aZ (x:=T.br _ _ _) (y:=.lf (oz x f)) (b:=decide ((k:Int)<f.vs.length)) (decide_eq_true (by omega)) (aZ (y:=.lf (oz x f)) (beq_iff_eq.2 he) (bh (b:=decide ((k:Int)≥m)) (x:=.nd ((0:Int)≠7) (.nd (cf ((k:Int)+1)) (.lf (xj (x.note 7 f.ln) m f (k+1))))) (y:=.nd (0≤(k:Int)∧(k:Int)<f.vs.length) (.nd ((f.vs.getD k ⟨#[]⟩).size≤9223372036854775807) y)) (decide_eq_false (by omega)) ⟨⟨by omega,by omega⟩,hs,h⟩));by_cases h8:dN (f.vs.getD k ⟨#[]⟩) 1 24=false
    ·rw[if_pos h8] at stop ⊢;exact⟨_,go (aZ (by rw[aak,hp,h8];rfl) ⟨by decide,dj,rfl⟩),dec,stop 8 (by decide) rfl⟩
    rw[if_neg h8] at stop ⊢;by_cases LF:Lib.containsS (f.vs.take k) (f.vs.getD k ⟨#[]⟩)
    ·rw[if_pos LF] at stop ⊢;exact⟨_,go (bh (by rw[aak,hp];simpa using h8) ⟨⟨by omega,by omega,by omega⟩,⟨by omega,by omega⟩,aZ LF ⟨by decide,dj,rfl⟩⟩),dec,stop 3 (by decide) rfl⟩
    ·rw[if_neg LF];refine⟨_,go (bh (by rw[aak,hp];simpa using h8) ⟨⟨by omega,by omega,by omega⟩,⟨by omega,by omega⟩,bh (acI.2 LF:Lib.containsS _ _=false) ⟨dj,rfl⟩⟩),dec,⟨by omega,by omega,fun _=>by omega,h3⟩,?_⟩;show oz (x.note (fp m (f.vs.take (k+1)) (f.vs.drop (k+1))) f.ln) f=_;rw[js Cw]
   ·exact⟨_,aZ (decide_eq_true (by omega)) (bh (beq_eq_false_iff_ne.2 he) rfl),congrArg (fun z=>oz z f) (Oz _ _ he).symm⟩
  ·exact⟨_,bh (decide_eq_false (by omega)) rfl,congrArg (fun z=>oz z f) (by rw[aaL (by omega)];exact(Bv _).symm)⟩
def lsR (l:List ByteArray):XV:=.one (.list .str (l.reverse++[]).reverse !(l.reverse++[]).isEmpty)
theorem Y9 (l:List ByteArray):lsR l=.one (.list .str l !l.isEmpty):=by unfold lsR;simp
def WN (x:gV) (m:Int) (l:List ByteArray) (ln:Int):T (XV×gV×Unit):=.nd (I3 x m l 0) (.nd ((0+l.length)*17≤140737488355328) (.lf (an (lsR l) (x.note (fp m (l.take 0) (l.drop 0)) ln))))
theorem xn:gi Tryz.prog 113 pN [(0,sN),(1,sF),(2,sI)] [(0,sN)] fun((x:gV),(f:ar),(m:Int),_)=>.nd (FT f.vals∧0≤m∧f.vals.length≤1099511627776) (.lf (an (.one (.list .str f.vals !f.vals.isEmpty)) (x.note (db f.vals m) f.line))):=by
 refine abe (C:=C3) (pb:=pN) [(12,[6])] ((nL _ _).add 0 _ Uh) 99 [(0,sN),(1,sF),(2,sI)] [(0,sN)] (fun((x:gV),(f:ar),(m:Int),_)=>.br ((f.vals.length:Int)==0) (.nd ((0:Int)≠7) (WN (x.note 7 f.line) m f.vals f.line)) (WN x m f.vals f.line)) ?_ Tryz.func113;rintro⟨(x:gV),(f:ar),(m:Int),_⟩ r _ ⟨⟨h1,h2,h3⟩,h⟩;obtain rfl:an (.one (.list .str f.vals !f.vals.isEmpty)) (x.note (db f.vals m) f.line)=r:=h;rw[←Y9];refine⟨fun e=>?_,fun e=>?_⟩
 ·have e:f.vals.length=0:=by have:=beq_iff_eq.1 e;omega
  have e2:=aaS e;refine⟨by decide,⟨by omega,by omega,fun _=>h2,h1⟩,by omega,Fb ?_⟩;rw[e2];rfl
 ·have e:f.vals≠[]:=fun q=>by rw[q] at e;cases e
  refine⟨⟨by omega,by omega,fun _=>h2,h1⟩,by omega,Mq ?_⟩;unfold db;rw[if_neg e];rfl
abbrev stC:List CS:=[.d .str,.d tI,.d tI,.d tI,.d (.list .str),.own (.st 3) 87,.own (.st 10) 42,.d tI,.d tI,.d .bool,.d (.list .limb),.d (.list .limb),.d tI,.d .str,.own .str 9,.own (.st 7) 189,.own (.st 6) 188,.d tI,.d tI]
abbrev sT:SS:=.box 118 stC
abbrev bf:=eT stC
def bf.f (x:bf):Int×Int:=(x.2.2.2.2.2.2.2.2.2.2.2.2.2.2.2.2.2.1,x.2.2.2.2.2.2.2.2.2.2.2.2.2.2.2.2.2.2.1)
def bf.err (x:bf):Int:=x.f.1
def bf.setF (x:bf) (p:Int×Int):bf:=(x.1,x.2.1,x.2.2.1,x.2.2.2.1,x.2.2.2.2.1,x.2.2.2.2.2.1,x.2.2.2.2.2.2.1,x.2.2.2.2.2.2.2.1,x.2.2.2.2.2.2.2.2.1,x.2.2.2.2.2.2.2.2.2.1,x.2.2.2.2.2.2.2.2.2.2.1,x.2.2.2.2.2.2.2.2.2.2.2.1,x.2.2.2.2.2.2.2.2.2.2.2.2.1,x.2.2.2.2.2.2.2.2.2.2.2.2.2.1,x.2.2.2.2.2.2.2.2.2.2.2.2.2.2.1,x.2.2.2.2.2.2.2.2.2.2.2.2.2.2.2.1,x.2.2.2.2.2.2.2.2.2.2.2.2.2.2.2.2.1,p.1,p.2,())
def bf.note (x:bf) (no line:Int):bf:=x.setF (nt x.f no line)
theorem vK {x:bf} (line:Int):x.note 0 line=x:=congrArg x.setF (Ow line)
abbrev JU (r:XV) (x:bf):XV×bf×Unit:=(r,x,())
abbrev sBb:SS:=.box 91 [.d .str,.d .str,.d (.list (.st 0)),.d tI]
abbrev sBk:SS:=.st 1
abbrev kd:=eT [.d .str,.d .str,.d (.list (.st 0)),.d tI]
def bf.cont (x:bf):List ae:=List.reverse (α:=ae) x.2.2.2.2.2.1
def bf.snm (x:bf):List ByteArray:=List.reverse (α:=ByteArray) x.2.2.2.2.2.2.1
def bf.styl (x:bf):List aj:=x.snm.map fun n=>⟨n,[],[]⟩
def bf.seen (x:bf):List ByteArray:=List.reverse (α:=ByteArray) x.2.2.2.2.2.2.2.2.2.2.2.2.2.2.1
def bf.lines (x:bf):List (Int×Int):=List.reverse (α:=Int×Int) x.2.2.2.2.2.2.2.2.2.2.2.2.2.2.2.1
def bf.names (x:bf):List (List ByteArray×List ByteArray):=List.reverse (α:=List ByteArray×List ByteArray) x.2.2.2.2.2.2.2.2.2.2.2.2.2.2.2.2.1
def bf.line (x:bf):Int:=x.f.2
def bf.e (x:bf):aa:=⟨x.1,x.2.1,x.2.2.1,x.2.2.2.1,x.2.2.2.2.1,x.cont,x.styl,x.2.2.2.2.2.2.2.1,x.2.2.2.2.2.2.2.2.1,⟨x.2.2.2.2.2.2.2.2.2.1,x.2.2.2.2.2.2.2.2.2.2.1,x.2.2.2.2.2.2.2.2.2.2.2.1⟩,x.2.2.2.2.2.2.2.2.2.2.2.2.1,x.2.2.2.2.2.2.2.2.2.2.2.2.2.1⟩
def bf.r (x:bf):fe:=⟨x.e,x.seen,x.lines,x.names,⟨x.err,x.line⟩⟩
section
variable {L:Type} (back:Bool→Int→Int→L) (out:Bool→Int→L) (len:Nat) (at':Nat→ByteArray) (c:Bool) (nm:ByteArray)
def hdB (same:Bool) (n i:Int):T L:=.br (decide (i<len)) (.br c (.br same (.nd (cf (n+1)) (.nd (cf (i+1)) (.lf (back true (n+1) (i+1))))) (.nd (0≤i∧i<len) (.nd (cf (n+1)) (.nd (cf (i+1)) (.lf (back ((at' i.toNat).toList==nm.toList) (n+1) (i+1))))))) (.lf (out same n))) (.lf (out same n))
def hdAny:Nat→Nat→Bool
 | 0,_=>false
 | k+1,i=>decide (at' i=nm)||hdAny k (i+1)
def Qh (same:Bool) (i:Int):Bool:=same||(c&&hdAny at' nm (len-i.toNat) i.toNat)
def LB (n:Int):Int:=bif c then len else n
def hdP (n i:Int):Prop:=0≤i∧i≤len∧(c=true→n=i)
theorem Jr {same:Bool} {n i:Int} (hl:len≤9223372036854775807) (hp:hdP len c n i):∃q,(hdB back out len at' c nm same n i).hit q∧(q=out (Qh len at' c nm same i) (LB len c n)∨∃s' n',q=back s' n' (i+1)∧i<len∧hdP len c n' (i+1)∧Qh len at' c nm s' (i+1)=Qh len at' c nm same i∧LB len c n'=LB len c n):=by
 obtain⟨h0,h1,h2⟩:=hp;obtain⟨k,rfl⟩:∃k:Nat,i=k:=⟨i.toNat,by omega⟩;by_cases hk:k<len
 ·cases c with
  | true=>
   obtain rfl:=h2 rfl;have e1:((k:Int)+1).toNat=k+1:=by omega
   have e2:len-k=(len-(k+1))+1:=by omega
   cases same with
   | true=>exact⟨_,aZ (decide_eq_true (by omega)) (aZ rfl (aZ rfl ⟨⟨by omega,by omega⟩,⟨by omega,by omega⟩,rfl⟩)),.inr ⟨_,_,rfl,by omega,⟨by omega,by omega,fun _=>rfl⟩,rfl,rfl⟩⟩
   | false=>
    refine⟨_,aZ (decide_eq_true (by omega)) (aZ rfl (bh rfl ⟨⟨by omega,by omega⟩,⟨by omega,by omega⟩,⟨by omega,by omega⟩,rfl⟩)),.inr ⟨_,_,rfl,by omega,⟨by omega,by omega,fun _=>rfl⟩,?_,rfl⟩⟩;unfold Qh;rw[e1,aak,e2,eG];simp only[hdAny,acB,acH]
  | false=>exact⟨_,aZ (decide_eq_true (by omega)) (bh rfl rfl),.inl (by unfold Qh LB;simp)⟩
 ·refine⟨_,bh (decide_eq_false (by omega)) rfl,.inl ?_⟩;unfold Qh LB;rw[aak,show len-k=0 by omega];cases c with
  | true=>obtain rfl:=h2 rfl;simp only[hdAny,Bool.and_false,Bool.or_false];congr 1;show(k:Int)=len;omega
  | false=>simp
end
theorem Eh {α:Type} (f:α→ByteArray) (d:α) (nm:ByteArray):∀(l:List α) (k:Nat),k≤l.length→hdAny (fun i=>f (l.getD i d)) nm (l.length-k) k=(l.drop k).any fun x=>decide (f x=nm):=by
 intro l k hk;obtain⟨j,hj⟩:∃j,l.length-k=j:=⟨_,rfl⟩;induction j generalizing k with
 | zero=>rw[hj,aaL (by omega)];rfl
 | succ j ih=>
  rw[hj,getD_drop d (by omega),acL,←ih (k+1) (by omega) (by omega),show l.length-(k+1)=j by omega];rfl
abbrev hdL (s:Nat):List (Nat×SS):=[(0,sT),(3,sBb),(4,sB),(5,sB),(6,sI),(s,sI)]
abbrev hdO:List (Nat×SS):=[(0,sT),(3,sBb),(4,sB),(5,sB),(6,sI)]
def BU (s:Nat) (x:bf) (b:kd) (dF same:Bool) (n i:Int):LE (hdL s) hdO [(0,sT)]:=.back (x,b,dF,same,n,i,())
def uF (s:Nat) (x:bf) (b:kd) (dF same:Bool) (n:Int):LE (hdL s) hdO [(0,sT)]:=.out (x,b,dF,same,n,())
def is (k:ByteArray) (b:kd):Bool:=b.1.toList==k.toList
theorem Qb:eS (LU C3 Tryz.f110 [0]) 0 0 (hdL 7) hdO [(0,sT)] fun((x:bf),(b:kd),(dF:Bool),(same:Bool),(n:Int),(i:Int),_)=>
 .nd (hdP x.cont.length (is ah b) n i) (.lf (uF 7 x b dF (Qh x.cont.length (fun i=>(x.cont.getD i ae.zero).name) (is ah b) b.2.1 same i) (LB x.cont.length (is ah b) n))):=by
  refine eY _ (nL _ _) 99 0 0 (hdL 7) hdO [(0,sT)] (fun((x:bf),(b:kd),(dF:Bool),(same:Bool),(n:Int),(i:Int),_)=>hdB (BU 7 x b dF) (uF 7 x b dF) (List.length (α:=ae) x.2.2.2.2.2.1) (fun i=>(x.cont.getD i ae.zero).name) (is ah b) b.2.1 same n i)
   (fun((x:bf),_,_,_,_,(i:Int),_)=>x.cont.length-i.toNat) ?_
  rintro⟨(x:bf),(b:kd),(dF:Bool),(same:Bool),(n:Int),(i:Int),_⟩ r tj ⟨hp,hr⟩;have hl2:List.length (α:=ae) x.2.2.2.2.2.1=x.cont.length:=(aaH (α:=ae)).symm;have hl:x.cont.length≤9223372036854775807:=hl2▸(tj.1.2.2.2.2.2.1:List.length (α:=ae) x.2.2.2.2.2.1≤_);obtain⟨q,h1,h2⟩:=Jr (BU 7 x b dF) (uF 7 x b dF) x.cont.length (fun i=>(x.cont.getD i ae.zero).name) (is ah b) b.2.1 (same:=same) hl hp;refine⟨q,by show T.hit (hdB _ _ (List.length (α:=ae) x.2.2.2.2.2.1) _ _ _ _ _ _) _;rw[hl2];exact h1,?_⟩;rcases h2 with rfl|⟨s',n',rfl,h3,h4,h5,h6⟩
  ·exact hr
  ·refine⟨?_,h4,?_⟩
   ·have:=hp.1;show x.cont.length-(i+1).toNat<x.cont.length-i.toNat;omega
   ·show uF _ _ _ _ _ _=_;rw[h5,h6];exact hr
theorem Qa:eS (LU C3 Tryz.f110 [0]) 1 2 (hdL 8) hdO [(0,sT)] fun((x:bf),(b:kd),(dF:Bool),(same:Bool),(n:Int),(i:Int),_)=>
 .nd (hdP x.snm.length (is aC b) n i) (.lf (uF 8 x b dF (Qh x.snm.length (fun i=>x.snm.getD i ⟨#[]⟩) (is aC b) b.2.1 same i) (LB x.snm.length (is aC b) n))):=by
  refine eY _ (nL _ _) 99 1 2 (hdL 8) hdO [(0,sT)] (fun((x:bf),(b:kd),(dF:Bool),(same:Bool),(n:Int),(i:Int),_)=>hdB (BU 8 x b dF) (uF 8 x b dF) (List.length (α:=ByteArray) x.2.2.2.2.2.2.1) (fun i=>x.snm.getD i ⟨#[]⟩) (is aC b) b.2.1 same n i)
   (fun((x:bf),_,_,_,_,(i:Int),_)=>x.snm.length-i.toNat) ?_
  rintro⟨(x:bf),(b:kd),(dF:Bool),(same:Bool),(n:Int),(i:Int),_⟩ r tj ⟨hp,hr⟩;have hl2:List.length (α:=ByteArray) x.2.2.2.2.2.2.1=x.snm.length:=(aaH (α:=ByteArray)).symm;have hl:x.snm.length≤9223372036854775807:=hl2▸(tj.1.2.2.2.2.2.2.1:List.length (α:=ByteArray) x.2.2.2.2.2.2.1≤_);obtain⟨q,h1,h2⟩:=Jr (BU 8 x b dF) (uF 8 x b dF) x.snm.length (fun i=>x.snm.getD i ⟨#[]⟩) (is aC b) b.2.1 (same:=same) hl hp;refine⟨q,by show T.hit (hdB _ _ (List.length (α:=ByteArray) x.2.2.2.2.2.2.1) _ _ _ _ _ _) _;rw[hl2];exact h1,?_⟩;rcases h2 with rfl|⟨s',n',rfl,h3,h4,h5,h6⟩
  ·exact hr
  ·refine⟨?_,h4,?_⟩
   ·have:=hp.1;show x.snm.length-(i+1).toNat<x.snm.length-i.toNat;omega
   ·show uF _ _ _ _ _ _=_;rw[h5,h6];exact hr
abbrev SR:=XV×bf×Unit
def SD (x:bf) (line c:Int):T SR:=.nd ((0:Int)≠c) (.lf (JU (.tup []) (x.note c line)))
def aar (x:bf) (b:aw) (dF:Bool):T SR:=.br (!dF) (.br (decide (Lib.idxOfS x.seen b.kind≥0)) (SD x b.line 3) (.lf (JU (.tup []) x))) (.lf (JU (.tup []) x))
def UV (x:bf) (b:aw) (dF:Bool):T SR:=.br (!dF) (.br (!(b.name.toList==(⟨#[]⟩:ByteArray).toList)) (SD x b.line 2) (aar x b dF)) (aar x b dF)
def Qf (x:bf) (b:aw) (dF:Bool) (n:Int):T SR:=.br (b.kind.toList==aC.toList) (.br (decide (n≥6)) (SD x b.line 7) (UV x b dF)) (UV x b dF)
def aas (x:bf) (b:aw) (dF:Bool) (n:Int):T SR:=.br (b.kind.toList==ah.toList) (.br (decide (n≥4)) (SD x b.line 7) (Qf x b dF n)) (Qf x b dF n)
def UW (x:bf) (b:aw) (dF same:Bool) (n:Int):T SR:=.br dF (.br same (SD x b.line 3) (aas x b dF n)) (aas x b dF n)
def aat (x:bf) (b:aw) (dF same:Bool) (n:Int):T SR:=.br dF (.nd (b.name.size≤9223372036854775807) (.br (!ja b.name.data.toList) (SD x b.line 8) (.br (decide ((b.name.size:Int)>24)) (SD x b.line 8) (UW x b dF same n)))) (UW x b dF same n)
def afB (x:bf) (b:aw) (dF same:Bool) (n:Int):T SR:=.br dF (.br (b.name.toList==(⟨#[]⟩:ByteArray).toList) (SD x b.line 6) (aat x b dF same n)) (aat x b dF same n)
def aau (x:bf) (b:aw) (dF same:Bool) (n:Int):T SR:=.br (aD b.kind).isEmpty (SD x b.line 2) (afB x b dF same n)
def Qg (x:bf) (b:aw):Bool:=Qh x.snm.length (fun i=>x.snm.getD i ⟨#[]⟩) (b.kind.toList==aC.toList) b.name (Qh x.cont.length (fun i=>(x.cont.getD i ae.zero).name) (b.kind.toList==ah.toList) b.name false 0) 0
def GN (x:bf) (b:aw):Int:=LB x.snm.length (b.kind.toList==aC.toList) (LB x.cont.length (b.kind.toList==ah.toList) 0)
def aav (x:bf) (b:aw) (dF:Bool):T SR:=.nd (hdP x.cont.length (b.kind.toList==ah.toList) 0 0) (.nd (hdP x.snm.length (b.kind.toList==aC.toList) (LB x.cont.length (b.kind.toList==ah.toList) 0) 0) (aau x b dF (Qg x b) (GN x b)))
theorem qi {α:Type} {F:Int→α} {a b:Bool} {X Y:T α} {P:Prop} [Decidable P] {c d:Int} (hP:P↔a=true∧b=true) (hX:X.hit (F c)) (hY:Y.hit (F d)):(T.br a (.br b X Y) Y).hit (F (if P then c else d)):=by
 by_cases h:P
 ·rw[if_pos h];exact aZ (hP.1 h).1 (aZ (hP.1 h).2 hX)
 ·rw[if_neg h];cases a with
  | false=>exact bh rfl hY
  | true=>exact aZ rfl (bh (by cases b with|false=>rfl|true=>exact absurd (hP.2 ⟨rfl,rfl⟩) h) hY)
theorem adj {α:Type} {F:Int→α} {a b:Bool} {X Y:T α} {P:Prop} [Decidable P] {c d:Int} (hP:P↔a=true∨b=true) (hX:X.hit (F c)) (hY:Y.hit (F d)):(T.br a X (.br b X Y)).hit (F (if P then c else d)):=by
 by_cases h:P
 ·rw[if_pos h];cases a with
  | true=>exact aZ rfl hX
  | false=>exact bh rfl (aZ (by cases b with|true=>rfl|false=>rcases hP.1 h with h|h<;>cases h) hX)
 ·rw[if_neg h];cases a with
  | true=>exact absurd (hP.2 (.inl rfl)) h
  | false=>exact bh rfl (bh (by cases b with|false=>rfl|true=>exact absurd (hP.2 (.inr rfl)) h) hY)
theorem Ny {α:Type} {F:Int→α} {a:Bool} {X Y:T α} {P:Prop} [Decidable P] {c d:Int} (hP:P↔a=true) (hX:X.hit (F c)) (hY:Y.hit (F d)):(T.br a X Y).hit (F (if P then c else d)):=by
 by_cases h:P
 ·rw[if_pos h];exact aZ (hP.1 h) hX
 ·rw[if_neg h];exact bh (by cases a with|false=>rfl|true=>exact absurd (hP.2 rfl) h) hY
def Js (x:bf) (line c:Int):SR:=JU (.tup []) (x.note c line)
theorem ly {x:bf} {line c:Int} (h:(0:Int)≠c):(SD x line c).hit (Js x line c):=⟨h,rfl⟩
theorem AT {x y:ByteArray}:(x.toList==y.toList)=true↔x=y:=by rw[eG,decide_eq_true_eq]
theorem UU (x:bf) (b:aw) (hs:b.name.size≤9223372036854775807) (dF:Bool) (hm:dF=i7 b.kind):(aau x b dF (Qg x b) (GN x b)).hit (Js x b.line (j6 x.r b.kind b.name)):=by
 have fG:b.kind=ah→b.kind≠aC:=fun h e=>absurd (h.symm.trans e) (by decide);have hc:(b.kind.toList==ah.toList)=decide (b.kind=ah):=eG;have fV:(b.kind.toList==aC.toList)=decide (b.kind=aC):=eG;have hE:dF=true→(Qg x b=true↔((b.kind=ah∧(x.cont.any fun c=>decide (c.name=b.name))=true)∨(b.kind=aC∧(x.styl.any fun c=>decide (c.name=b.name))=true))):=fun _=>by
  unfold Qg Qh;have fb:(x.styl.any fun c=>decide (c.name=b.name))=x.snm.any fun n=>decide (n=b.name):=by unfold bf.styl;rw[List.any_map];rfl
  rw[fb,hc,fV,Int.toNat_zero,Eh (fun s:ByteArray=>s) ⟨#[]⟩ b.name x.snm 0 (ab0 _),Eh (fun s:ae=>s.name) ae.zero b.name x.cont 0 (ab0 _),acr,acr];simp
 have hN1:b.kind=ah→GN x b=x.cont.length:=fun h=>by
  unfold GN LB;rw[hc,fV,decide_eq_true h,decide_eq_false (fG h)];rfl
 have hN2:b.kind=aC→GN x b=x.styl.length:=fun h=>by
  unfold GN LB bf.styl;rw[fV,decide_eq_true h,ace];rfl
 unfold aau j6;refine Ny (F:=Js x b.line) (by rw[List.isEmpty_iff]) (ly (by decide)) ?_;unfold afB;refine qi (F:=Js x b.line) (by rw[hm,AT]) (ly (by decide)) ?_;have h4:(UW x b dF (Qg x b) (GN x b)).hit (Js x b.line (if i7 b.kind=true∧((b.kind=ah∧(x.r.e.cont.any fun c=>decide (c.name=b.name))=true)∨(b.kind=aC∧(x.r.e.styl.any fun c=>decide (c.name=b.name))=true)) then 3 else if(b.kind=ah∧4≤x.r.e.cont.length)∨(b.kind=aC∧6≤x.r.e.styl.length) then 7 else if i7 b.kind=false∧b.name≠⟨#[]⟩ then 2 else if i7 b.kind=false∧bI x.r.seen b.kind=true then 3 else 0)):=by
  unfold UW;refine qi (F:=Js x b.line) ⟨fun⟨h1,h2⟩=>⟨hm.trans h1,(hE (hm.trans h1)).2 h2⟩,fun⟨h1,h2⟩=>⟨hm.symm.trans h1,(hE h1).1 h2⟩⟩ (ly (by decide)) ?_;have h6:(UV x b dF).hit (Js x b.line (if i7 b.kind=false∧b.name≠⟨#[]⟩ then 2 else if i7 b.kind=false∧bI x.r.seen b.kind=true then 3 else 0)):=by
   unfold UV;refine qi (F:=Js x b.line) (by rw[hm,eG];simp) (ly (by decide)) ?_;unfold aar;refine qi (F:=Js x b.line) (by rw[hm];unfold bI;simp;exact fun _=>Iff.rfl) (ly (by decide)) ?_;exact congrArg (JU _) (vK _).symm
  unfold aas Qf;by_cases h1:b.kind=ah
  ·refine aZ (by rw[hc];exact decide_eq_true h1) ?_;refine Ny (F:=Js x b.line) ?_ (ly (by decide)) (bh (by rw[fV];exact decide_eq_false (fG h1)) h6);rw[hN1 h1,decide_eq_true_eq];exact⟨fun h=>h.elim (fun h=>Int.ofNat_le.2 h.2) fun h=>absurd h.1 (fG h1),fun h=>.inl ⟨h1,Int.ofNat_le.1 h⟩⟩
  ·refine bh (by rw[hc];exact decide_eq_false h1) ?_;refine qi (F:=Js x b.line) ?_ (ly (by decide)) h6;rw[fV,decide_eq_true_eq,decide_eq_true_eq];exact⟨fun h=>h.elim (fun h=>absurd h.1 h1) fun h=>⟨h.1,by rw[hN2 h.1];exact Int.ofNat_le.2 h.2⟩,fun h=>.inr ⟨h.1,by have:=h.2;rw[hN2 h.1] at this;exact Int.ofNat_le.1 this⟩⟩
 unfold aat;cases dF with
 | false=>
  refine bh rfl ?_;rw[if_neg (by rw[←hm];simp)];exact h4
 | true=>
  refine aZ rfl ⟨hs,adj (F:=Js x b.line) ?_ (ly (by decide)) h4⟩;rw[←hm];simp only[true_and,aco,decide_eq_true_eq];exact or_congr Iff.rfl (by show 24<b.name.size↔(24:Int)<(b.name.size:Int);omega)
theorem Qc:gi Tryz.prog 110 [0] [(0,sT),(1,sBk)] [(0,sT)] fun((x:bf),(b:aw),_)=>.nd (b.name.size≤9223372036854775807) (.lf (JU (.tup []) (x.note (j6 x.r b.kind b.name) b.line))):=by
 refine kM (C:=C3) (pb:=[0]) (((nL _ _).add 0 _ Qb).add 1 _ Qa) 99 [(0,sT),(1,sBk)] [(0,sT)] (fun((x:bf),(b:aw),_)=>.br (b.kind.toList==ah.toList) (aav x b true) (aav x b (b.kind.toList==aC.toList))) ?_ Tryz.func110;rintro⟨(x:bf),(b:aw),_⟩ r tj ⟨hs,hr⟩;obtain rfl:Js x b.line (j6 x.r b.kind b.name)=r:=hr;have h0:∀dF,dF=i7 b.kind→(aav x b dF).hit (Js x b.line (j6 x.r b.kind b.name)):=fun dF hm=>by
  refine⟨⟨by omega,by omega,fun _=>rfl⟩,⟨by omega,by omega,fun h=>?_⟩,UU x b hs dF hm⟩;unfold LB;rw[eG,decide_eq_false fun e=>absurd (e.symm.trans (AT.1 h)) (by decide)];rfl
 by_cases h:b.kind=ah
 ·exact aZ (AT.2 h) (h0 true (by unfold i7;rw[decide_eq_true h];rfl))
 ·refine bh (by rw[eG];exact decide_eq_false h) (h0 _ ?_);unfold i7;rw[decide_eq_false h,eG];rfl
abbrev X9:SS:=.box 87 [.d .str,.d (.list .str),.d tI,.d tI,.d tI,.d tI,.d tI,.d tI,.d tI]
abbrev ad2:List Nat:=[0,1,2,3,4,5,6,7,8,9,10,11,12,13,14,15,16,17,18]
abbrev oV:=eT [.d .str,.d (.list .str),.d tI,.d tI,.d tI,.d tI,.d tI,.d tI,.d tI]
def MF (c:ae):oV:=(c.name,c.cands,c.method,c.seats,c.ranks,c.digits,c.ties,c.over,c.skip,())
def MG (c:oV):ae:=⟨c.1,c.2.1,c.2.2.1,c.2.2.2.1,c.2.2.2.2.1,c.2.2.2.2.2.1,c.2.2.2.2.2.2.1,c.2.2.2.2.2.2.2.1,c.2.2.2.2.2.2.2.2.1⟩
noncomputable def C4:ik Tryz.prog:=dE uT [⟨_,_,_,find_ok⟩,⟨_,_,_,ol⟩,⟨_,_,_,qZ⟩,⟨_,_,_,By⟩,⟨_,_,_,oZ⟩,⟨_,_,_,rX⟩] [⟨_,_,_,_,_,kK⟩,⟨_,_,_,_,_,tq⟩,⟨_,_,_,_,_,Pu⟩,⟨_,_,_,_,_,VB⟩,⟨_,_,_,_,_,Dd⟩,⟨_,_,_,_,_,xn⟩]
def fOk (f:ar):Prop:=FT f.vals∧f.vals.length≤1099511627776
theorem CL {l:List ByteArray} (h:FT l):(bj l).size≤9223372036854775807:=by
 unfold bj;split
 ·exact ab0 _
 ·match l with
  | []=>exact ab0 _
  | x::_=>exact h x aaw
theorem j8 {α β:Type} {F:α→β} {b:Bool} {X Y:T β} {P:Prop} [Decidable P] {c d:α} (hP:P↔b=true) (hX:X.hit (F c)) (hY:Y.hit (F d)):(T.br b X Y).hit (F (if P then c else d)):=by
 by_cases h:P
 ·rw[if_pos h];exact aZ (hP.1 h) hX
 ·rw[if_neg h];exact bh (by cases b with|false=>rfl|true=>exact absurd (hP.2 rfl) h) hY
abbrev CR3:=XV×gV×oV×Unit
def JE (x:gV) (line:Int) (v:ae×Int):CR3:=(.tup [],x.note v.2 line,MF v.1,())
def ctI (x:gV) (f:ar) (v:ae×Int):T CR3:=.nd ((bj f.vals).size≤9223372036854775807) (.lf (JE x f.line v))
def ctW (x:gV) (f:ar) (w:List ByteArray) (v:ae×Int):T CR3:=.nd (w.length≤99) (.lf (JE x f.line v))
def QX (x:gV) (c:ae) (f:ar):T CR3:=
 .br (f.key.toList==aM.toList) (ctW x f eH ({ c with method:=iN f.vals eH },jA f.vals eH))
 (.br (f.key.toList==bb.toList) (ctI x f ({ c with seats:=jh f.vals },jz f.vals 1 5))
 (.br (f.key.toList==bM.toList) (ctI x f ({ c with ranks:=jh f.vals },jz f.vals 1 7))
 (.br (f.key.toList==ay.toList) (ctI x f ({ c with digits:=jh f.vals },jz f.vals 1 6))
 (.br (f.key.toList==cT.toList) (ctW x f iR ({ c with ties:=iN f.vals iR },jA f.vals iR))
 (.br (f.key.toList==aP.toList) (ctW x f iT ({ c with over:=iN f.vals iT },jA f.vals iT))
 (.br (f.key.toList==cU.toList) (ctW x f iS ({ c with skip:=iN f.vals iS },jA f.vals iS))
 (.nd (FT f.vals∧(0:Int)≤7∧f.vals.length≤1099511627776) (.lf (JE x f.line ({ c with cands:=f.vals },db f.vals 7))))))))))
theorem QW:gi Tryz.prog 112 ad2 [(0,sN),(1,X9),(2,sF)] [(0,sN),(1,X9)] fun((x:gV),(c:oV),(f:ar),_)=>.nd (fOk f) (.lf (JE x f.line (fA (MG c) f))):=by
 refine kM (C:=C4) (pb:=ad2) (nL _ _) 99 [(0,sN),(1,X9),(2,sF)] [(0,sN),(1,X9)] (fun((x:gV),(c:oV),(f:ar),_)=>QX x (MG c) f) ?_ Tryz.func112;rintro⟨(x:gV),(c:oV),(f:ar),_⟩ r _ ⟨⟨h1,h2⟩,hr⟩;obtain rfl:JE x f.line (fA (MG c) f)=r:=hr;have hi:∀v,(ctI x f v).hit (JE x f.line v):=fun v=>⟨CL h1,rfl⟩;have hw:∀w v,w.length≤99→(ctW x f w v).hit (JE x f.line v):=fun w v h=>⟨h,rfl⟩;show(QX x (MG c) f).hit _;unfold QX fA;exact j8 (F:=JE x f.line) AT.symm (hw _ _ (by decide)) (j8 (F:=JE x f.line) AT.symm (hi _) (j8 (F:=JE x f.line) AT.symm (hi _) (j8 (F:=JE x f.line) AT.symm (hi _) (j8 (F:=JE x f.line) AT.symm (hw _ _ (by decide)) (j8 (F:=JE x f.line) AT.symm (hw _ _ (by decide)) (j8 (F:=JE x f.line) AT.symm (hw _ _ (by decide)) ⟨⟨h1,by decide,h2⟩,rfl⟩))))))
theorem jQ.fr {α:Type} [aF α] {w:World} {e:TypeId} {xs:List α} {en:Ending} {w':World} (h:jQ w e xs en w'):∃A n c,en=.returned (.slice A n c)∧n=xs.length∧RS w' (cY w w') A n c xs∧Below w.heap.size w w':=by
 obtain⟨v,rfl,ho,hb⟩:=h;obtain⟨A,n,c,rfl,hn⟩:=ho.slice;exact⟨A,n,c,rfl,hn,ho.fresh (aaJ _),hb⟩
theorem MX (m:Nat) (hm:m<18446744073709551616) (w:World):Calls Tryz.prog 237 #[.int .u64 m] w (jQ w 4 (bits m)):=by
 have hv:=Ov m hm;obtain⟨x,hx⟩:∃x,BitVec.ofNat 32 m=x:=⟨_,rfl⟩;obtain⟨y,hy⟩:∃y,BitVec.ofNat 32 (m/4294967296)=y:=⟨_,rfl⟩;have h1:IntKind.u32.wrap (m:Int)=(x.toNat:Int):=by rw[←hx,IntKind.wrap_u32,BitVec.toNat_ofNat];omega
 have h2:IntKind.u32.wrap ((m:Int)/4294967296)=(y.toNat:Int):=by rw[←hy,IntKind.wrap_u32,BitVec.toNat_ofNat];omega
 rw[hx,hy] at hv;have HV:=zH hv;clear hv hx hy;go_enter Tryz.func237,Tryz.ntmps237;go_wp2_with fail;have hb:Below w.heap.size w (w.alloc (.cells #[.int .u32 (x.toNat:Int),.int .u32 (y.toNat:Int)] 172)):=(Below.refl _ _).alloc (aaJ _) _;have hr:RS (w.alloc (.cells #[.int .u32 (x.toNat:Int),.int .u32 (y.toNat:Int)] 172)) (fun b=>b<(w.alloc (.cells #[.int .u32 (x.toNat:Int),.int .u32 (y.toNat:Int)] 172)).heap.size) (some ⟨w.heap.size,0,none⟩) 2 2 [x,y]:=
  RS.of_blk (t:=172) (cs:=#[.int .u32 (x.toNat:Int),.int .u32 (y.toNat:Int)]) (dI.new _ _ _) (Flat.limbs [x,y]) rfl (aaJ _) (by decide) (by simp)
 refine(Et hr (fun _ h=>h) (by omega)).mono ?_;rintro e w2 ⟨v,rfl,ho,cm⟩;rw[HV.out] at ho;have HO:=zH (ho.base_le (aaM hb.size (aaJ _)));have HB:=zH (ao hb cm);clear ho hb cm hr h1 h2;go_wp2_with fail;go_ret
 exact⟨_,rfl,HO.out,HB.out⟩
abbrev sBs:SS:=sD (.list .bool)
abbrev Ans (w:World) (S:Nat→Prop) (x:XV) (e:Ending) (w':World):Prop:=∃v S',e=.returned v∧Below w.heap.size w w'∧(∀b,S' b→(false=true∧S b)∨(w.heap.size≤b∧b<w'.heap.size))∧XR [] w' S' x v
section
variable {w w':World} {S:Nat→Prop} {ty:TypeId} {e:Ending} {P:Program} {f:FuncId}
theorem Mo {t:Ty} {xs:List (El t)} (h:jQ w ty xs e w'):Ans w S (.one (.list t xs false)) e w':=by
 obtain⟨A,q,c,rfl,_,h1,h2⟩:=h.fr;exact⟨_,cY w w',rfl,h2,fun b q=>.inr q,A,q,c,rfl,h1,fun e=>by cases e⟩
theorem aml {v:Value} (hv:v.oneCell'=true) (h:gW w v e w'):Ans w S (.one (.sym v)) e w':=⟨_,fun _=>False,h.1,h.2▸Below.refl _ _,fun _ q=>q.elim,rfl,hv⟩
abbrev L1 (t:Ty) (p:List (El t)→Prop) (F:List (El t)→XV):List XV→T XV:=aU [(0,sD (.list t))] fun((xs:List (El t)),_)=>.nd (p xs) (.lf (F xs))
abbrev L2 (t:Ty) (p:List (El t)→List (El t)→Prop) (F:List (El t)→List (El t)→XV):List XV→T XV:=aU [(0,sD (.list t)),(1,sD (.list t))] fun((xs:List (El t)),(ys:List (El t)),_)=>.nd (p xs ys) (.lf (F xs ys))
theorem aby {t:Ty} {p:List (El t)→Prop} {F:List (El t)→XV} (h:∀(S:Nat→Prop) (A:Option Addr) (c:Nat) (xs:List (El t)) (w:World),p xs→RS w S A xs.length c xs→(∀b,S b→b<w.heap.size)→Calls P f #[.slice A xs.length c] w (Ans w S (F xs))):av P f false (L1 t p F):=
 gH fun w S x vs r hS he hl hr=>by
  obtain⟨(xs:List (El t)),_⟩:=x;obtain⟨v,h1,A,q,c,h2,h3,_⟩:=he 0 (.one (.list t xs false)) aaw;obtain⟨hp,rfl⟩:=hr
  match vs,hl,h1 with
  | [v'],_,h1=>
   injection h1 with h1
   obtain rfl:=h3.len;subst h1 h2;exact h S A c xs w hp h3 hS
theorem VE {t:Ty} {p:List (El t)→List (El t)→Prop} {F:List (El t)→List (El t)→XV} (h:∀(S:Nat→Prop) (A:Option Addr) (c:Nat) (A2:Option Addr) (c2:Nat) (xs ys:List (El t)) (w:World),p xs ys→RS w S A xs.length c xs→RS w S A2 ys.length c2 ys→(∀b,S b→b<w.heap.size)→Calls P f #[.slice A xs.length c,.slice A2 ys.length c2] w (Ans w S (F xs ys))):av P f false (L2 t p F):=
 gH fun w S x vs r hS he hl hr=>by
  obtain⟨(xs:List (El t)),(ys:List (El t)),_⟩:=x;obtain⟨v,h1,A,q,c,h2,h3,_⟩:=he 0 (.one (.list t xs false)) aaw;obtain⟨v',jj,A',q',c',CF,LF,_⟩:=he 1 (.one (.list t ys false)) (aaN _ aaw);obtain⟨hp,rfl⟩:=hr
  match vs,hl,h1,jj with
  | [u,u'],_,h1,jj=>
   injection h1 with h1
   injection jj with jj
   obtain rfl:=h3.len;obtain rfl:=LF.len;subst h1 jj h2 CF;exact h S A c A' c' xs ys w hp h3 LF hS
end
abbrev aL (t:Ty) (xs:List (El t)):XV:=.one (.list t xs false)
abbrev aBs (n:Nat):XV:=aL .bool (bits n)
def nB (k:Nat) (x:List Bool):Prop:=bits (au x)=x∧au x<k
theorem IQ {k n:Nat} (h:n<k):nB k (bits n):=⟨by rw[bE],by rw[bE];exact h⟩
theorem nB.len {x:List Bool} (h:nB (2^200) x):x.length≤200:=by rw[←h.1];exact jg h.2 (aaJ _)
theorem tu:av Tryz.prog 128 false (aU [(0,sI)] fun((n:Int),_)=>.nd (0≤n∧n<9223372036854775808) (.lf (.one (.list .bool (bits n.toNat) false)))):=
 gH fun w S x vs r hS he hl hr=>by
  obtain⟨(n:Int),_⟩:=x;obtain⟨v,h1,h2,_⟩:=he 0 (aI n) aaw;obtain⟨⟨hn,hn2⟩,rfl⟩:=hr
  match vs,hl,h1 with
  | [u],_,h1=>
   injection h1 with h1
   subst h1 h2;obtain⟨m,rfl⟩:∃m:Nat,n=m:=⟨n.toNat,by omega⟩;exact Calls.mono (Da m (by omega) w) fun _ _ h=>Mo (t:=.bool) h
abbrev sU:SS:=sD (.int .u64)
theorem MS:av Tryz.prog 237 false (aU [(0,sU)] fun((n:Int),_)=>.nd (0≤n∧n<18446744073709551616) (.lf (aBs n.toNat))):=
 gH fun w S x vs r hS he hl hr=>by
  obtain⟨(n:Int),_⟩:=x;obtain⟨v,h1,h2,_⟩:=he 0 (.one (.sym (.int .u64 n))) aaw;obtain⟨⟨hn,hn2⟩,rfl⟩:=hr
  match vs,hl,h1 with
  | [u],_,h1=>
   injection h1 with h1
   subst h1 h2;obtain⟨m,rfl⟩:∃m:Nat,n=m:=⟨n.toNat,by omega⟩;exact Calls.mono (MX m (by omega) w) fun _ _ h=>Mo (t:=.bool) h
theorem xX:av Tryz.prog 127 false (L1 .bool (fun(x:List Bool)=>nB (2^200) x) fun(x:List Bool)=>aS ⟨(bJ (au x)).toArray⟩):=
 aby fun S A c (x:List Bool) w hp h hS=>Calls.mono (L3 (X:=au x) (by rw[hp.1];exact h) hS 200 (by decide) hp.2) fun e w' h=>⟨_,fun _=>False,h.1,h.2,fun _ q=>q.elim,rfl,rfl⟩
theorem U6:av Tryz.prog 176 false (L2 .bool (fun(x y:List Bool)=>nB (2^200) x∧nB (2^200) y) fun(x y:List Bool)=>aBs (Nat.gcd (au x) (au y))):=
 VE fun S A c A2 c2 (x y:List Bool) w hp h1 h2 hS=>Calls.mono (U7 (X:=au x) (Y:=au y) (by rw[hp.1.1];exact h1) (by rw[hp.2.1];exact h2) hS hS 200 (by decide) hp.1.2 hp.2.2) fun _ _ h=>Mo (t:=.bool) h
theorem TN:av Tryz.prog 236 false (L2 .bool (fun(x y:List Bool)=>x.length≤200∧y.length≤200) fun(x y:List Bool)=>aBs (au x*au y)):=
 VE fun S A c A2 c2 (x y:List Bool) w (hp:x.length≤200∧y.length≤200) h1 h2 hS=>Calls.mono (TO (xs:=x) (ys:=y) h1 h2 hS hS (aaM hp.1 (by decide)) (aaM hp.2 (by decide))) fun _ _ h=>Mo (t:=.bool) h
def amo (q r:Nat):XV:=.tup [(false,[.list .bool (bits q) false]),(false,[.list .bool (bits r) false])]
theorem Ro:av Tryz.prog 174 false (L2 .bool (fun(x y:List Bool)=>x.length≤200∧y.length≤200∧0<au y) fun(x y:List Bool)=>amo (au x/au y) (au x%au y)):=
 VE fun S A c A2 c2 (x y:List Bool) w (hp:x.length≤200∧y.length≤200∧0<au y) h1 h2 hS=>Calls.mono (Cf (xs:=x) (ys:=y) h1 h2 hS hS (aaM hp.1 (by decide)) (aaM hp.2.1 (by decide)) hp.2.2) fun e w' ⟨v1,v2,e0,o1,o2,hb⟩=>by
  obtain⟨A1,m1,c1,rfl,_⟩:=o1.slice;obtain⟨A2,m2,c2,rfl,_⟩:=o2.slice;exact⟨_,cY w w',e0,hb,fun b q=>.inr q,[_,_],rfl,.cons ⟨_,rfl,_,_,_,rfl,o1.fresh (aaJ _),fun e=>by cases e⟩ (.cons ⟨_,rfl,_,_,_,rfl,o2.fresh (aaJ _),fun e=>by cases e⟩ .nil)⟩
theorem Rv:av Tryz.prog 129 false (L2 .bool (fun _ _=>True) fun(x y:List Bool)=>aI (kP (au x) (au y))):=
 VE fun _ _ _ _ _ (x y:List Bool) _ _ h1 h2 _=>Calls.mono (JH (xs:=x) (ys:=y) h1 h2) fun _ _=>aml rfl
theorem Mm:av Tryz.prog 131 false (L1 .limb (fun(x:List (BitVec 32))=>x.length≤1000000) fun(x:List (BitVec 32))=>aBs (val x)):=
 aby fun _ _ _ (x:List (BitVec 32)) _ hp h hS=>Calls.mono (Et (xs:=x) h hS hp) fun _ _ h=>Mo (t:=.bool) h
theorem VF:av Tryz.prog 235 false (L1 .bool (fun(x:List Bool)=>x.length≤1000000∧au x<4294967296) fun(x:List Bool)=>aL .limb (du (au x))):=
 aby fun _ _ _ (x:List Bool) _ (hp:x.length≤1000000∧au x<4294967296) h _=>Calls.mono (XN (xs:=x) h hp.1 hp.2) fun _ _ h=>Mo (t:=.limb) h
abbrev mO:=Bool×List Bool×List Bool
def QT (q:Q):mO:=(q.neg,bits q.n,bits q.d)
def wt (x:mO):Q:=⟨x.1,au x.2.1,au x.2.2⟩
theorem tr (q:Q):wt (QT q)=q:=by unfold wt QT;simp only[bE]
abbrev sQ:SS:=.st 9
def aQ (q:Q):XV:=.agg (kS (.st 9) (QT q))
def aR (r:Raw):XV:=.agg (kS (.st 8) r)
noncomputable def Cf1:ik Tryz.prog:=dE uT [⟨_,_,_,tu⟩,⟨_,_,_,U6⟩,⟨_,_,_,Ro⟩] []
def ad9:T XV:=.nd ((0:Int)≤1∧(1:Int)<9223372036854775808) (.lf (.agg [.sym (.bool false),.val (.slice none 0 0),.list .bool (bits (Int.toNat 1)) false]))
def ajb (g:Bool) (x y d:List Bool):T XV:=.nd (x.length≤200∧d.length≤200∧0<au d) (.nd (y.length≤200∧d.length≤200∧0<au d) (.lf (.agg [.sym (.bool g),.list .bool (bits (au x/au d)) false,.list .bool (bits (au y/au d)) false])))
def YZ (g:Bool) (x y:List Bool):T XV:=.br ((x.length:Int)==0) ad9 (.br ((y.length:Int)==0) ad9 (.nd (nB (2^200) x∧nB (2^200) y) (ajb g x y (bits (Nat.gcd (au x) (au y))))))
theorem aim {w:World} {S:Nat→Prop} {v:Value} {a b:AV} (h:XR [] w S (.agg [a,.val (.slice none 0 0),b]) v):XR [] w S (.agg [a,.list .bool [] false,b]) v:=by
 obtain⟨vs,rfl,h⟩:=h;cases h with
 | cons h1 h=>
  cases h with
  | cons h2 h=>exact⟨_,rfl,.cons h1 (.cons ⟨none,0,0,h2.1,RS.nil _ _,fun e=>by cases e⟩ h)⟩
theorem nB.zero {k:Nat} {x:List Bool} (h:nB k x):((x.length:Int)==0)=decide (au x=0):=by
 by_cases h0:au x=0
 ·have:=h.1;rw[h0,eA] at this;subst this;rfl
 ·rw[decide_eq_false h0,beq_eq_false_iff_ne];intro e;obtain rfl:=aaS (Int.natCast_inj.1 e);exact h0 rfl
theorem OA:av Tryz.prog 130 true (aU [(0,sB),(1,sBs),(2,sBs)] fun((g:Bool),(x:List Bool),(y:List Bool),_)=>.nd (nB (2^200) x∧nB (2^200) y) (.lf (aQ (eB g (au x) (au y))))):=
 (bC (C:=Cf1) (nL _ _) true 99 [(0,sB),(1,sBs),(2,sBs)] (fun((g:Bool),(x:List Bool),(y:List Bool),_)=>YZ g x y) (fun _ _ _ h=>⟨h,.inl rfl⟩) Tryz.func130).imp fun⟨(g:Bool),(x:List Bool),(y:List Bool),_⟩ r ⟨⟨hx,hy⟩,h⟩=>by
  obtain rfl:aQ (eB g (au x) (au y))=r:=h;show∃q,(YZ g x y).hit q∧_;unfold YZ;rw[hx.zero,hy.zero];by_cases h0:au x=0∨au y=0
  ·have e:aQ (eB g (au x) (au y))=.agg [.sym (.bool false),.list .bool [] false,.list .bool (bits (Int.toNat 1)) false]:=by
    unfold eB;rw[if_pos h0];unfold aQ QT;rw[eA];rfl
   rw[e];refine⟨_,?_,fun w S v h=>aim h⟩;rcases h0 with h0|h0
   ·exact aZ (decide_eq_true h0) ⟨by decide,rfl⟩
   ·by_cases h1:au x=0
    ·exact aZ (decide_eq_true h1) ⟨by decide,rfl⟩
    ·exact bh (decide_eq_false h1) (aZ (decide_eq_true h0) ⟨by decide,rfl⟩)
  ·have h1:au x≠0:=fun e=>h0 (.inl e);have h2:au y≠0:=fun e=>h0 (.inr e);have hg:0<Nat.gcd (au x) (au y):=Nat.gcd_pos_of_pos_left _ (by omega);have hl:(bits (Nat.gcd (au x) (au y))).length≤200:=jg (Nat.lt_of_le_of_lt (Nat.gcd_le_left _ (by omega)) hx.2) (aaJ _);refine⟨_,bh (decide_eq_false h1) (bh (decide_eq_false h2) ⟨⟨hx,hy⟩,⟨hx.len,hl,by rw[bE];exact hg⟩,⟨hy.len,hl,by rw[bE];exact hg⟩,rfl⟩),fun w S v h=>?_⟩;rw[bE] at h;unfold eB;rw[if_neg h0];exact h
theorem uL {d:Nat}:bJ d=[49]↔d=1:=by
 constructor
 ·intro h;unfold bJ at h;split at h
  ·cases h
  ·rename_i h0;have h1:=congrArg List.reverse h;rw[aap,gC,dif_neg h0] at h1;injection h1 with h2 h3
   have h4:d/10=0:=by
    by_cases h:d/10=0
    ·exact h
    ·rw[gC,dif_neg h] at h3;cases h3
   have h5:=congrArg UInt8.toNat h2;unfold FA at h5;simp at h5;omega
 ·intro h;subst h;show(if(1:Nat)=0 then[48] else(gC 1).reverse)=[49];rw[if_neg (by omega),gC,dif_neg (by omega),show 1/10=0 from rfl,gT];rfl
theorem pY {X L:Nat} (h:X<2^L):(bJ X).length≤L+2:=by
 unfold bJ;split
 ·simp
 ·rw[aaH];have:=xW h;omega
def Gi (n:Nat) (x:mO):Prop:=QT (wt x)=x∧(wt x).n<n∧(wt x).d<n
theorem Gi.n {k m:Nat} {x:mO} (h:Gi k x) (hk:k≤m):nB m x.2.1:=⟨congrArg (fun x=>x.2.1) h.1,abc h.2.1 hk⟩
theorem Gi.d {k m:Nat} {x:mO} (h:Gi k x) (hk:k≤m):nB m x.2.2:=⟨congrArg (fun x=>x.2.2) h.1,abc h.2.2 hk⟩
noncomputable def Cf2:ik Tryz.prog:=dE uT [⟨_,_,_,tu⟩,⟨_,_,_,OA⟩,⟨_,_,_,TN⟩,⟨_,_,_,Mm⟩,⟨_,_,_,VF⟩,⟨_,_,_,MS⟩,⟨_,_,_,xX⟩,⟨_,_,_,Rv⟩] []
def TG (g:Bool) (x y:Nat):T XV:=.nd (nB (2^200) (bits x)∧nB (2^200) (bits y)) (.lf (aQ (eB g (au (bits x)) (au (bits y)))))
theorem xa {g:Bool} {x y:Nat} (hx:x<2^200) (hy:y<2^200):(TG g x y).hit (aQ (eB g x y)):=⟨⟨IQ hx,IQ hy⟩,by rw[bE,bE];rfl⟩
theorem Ig {l:List (BitVec 32)} (h:l.length≤6):val l<2^200:=by
 have h1:=eI l;have h2:4294967296^l.length≤4294967296^6:=acE (by omega) h;exact abc h1 (aaM h2 (by decide))
theorem Qx:av Tryz.prog 90 true (aU [(0,.st 8)] fun((x:Raw),_)=>.nd (x.short 6) (.lf (aQ x.q))):=
 bC (C:=Cf2) (nL _ _) true 99 [(0,.st 8)] (fun((x:Raw),_)=>.nd (x.num.length≤1000000) (.nd (x.den.length≤1000000) (TG x.neg (val x.num) (val x.den)))) (fun⟨(x:Raw),_⟩ r _ ⟨hs,h⟩=>by
  obtain rfl:aQ x.q=r:=h;exact⟨⟨aaM hs.1 (by decide),aaM hs.2 (by decide),xa (Ig hs.1) (Ig hs.2)⟩,.inl rfl⟩) Tryz.func90
def toB (x:mO):T XV:=.nd (x.2.1.length≤1000000∧au x.2.1<4294967296) (.nd (x.2.2.length≤1000000∧au x.2.2<4294967296) (.lf (aR (wt x).raw)))
theorem XM:av Tryz.prog 202 true (aU [(0,sQ)] fun((x:mO),_)=>.nd (Gi 4294967296 x) (.lf (aR (wt x).raw))):=
 bC (C:=Cf2) (nL _ _) true 99 [(0,sQ)] (fun((x:mO),_)=>toB x) (fun⟨(x:mO),_⟩ r _ ⟨hs,h⟩=>by
  obtain rfl:aR (wt x).raw=r:=h;exact⟨⟨⟨aaM (hs.n (m:=2^200) (by decide)).len (by decide),hs.2.1⟩,⟨aaM (hs.d (m:=2^200) (by decide)).len (by decide),hs.2.2⟩,rfl⟩,.inl rfl⟩) Tryz.func202
def ofY (g:Bool) (u:Int):T XV:=.nd (0≤u∧u<18446744073709551616) (.nd ((0:Int)≤1∧(1:Int)<9223372036854775808) (TG g u.toNat (Int.toNat 1)))
theorem YW:av Tryz.prog 204 true (aU [(0,sI)] fun((n:Int),_)=>.nd (0≤n∧n<9223372036854775808) (.lf (aQ (eB false n.toNat 1)))):=
 bC (C:=Cf2) (nL _ _) true 99 [(0,sI)] (fun((n:Int),_)=>.br (decide (n<0)) (.nd (cf (n+1)) (ofY true (IntKind.u64.wrap (IntKind.u64.wrap (IntKind.i64.wrap (0-(n+1)))+1)))) (ofY false (IntKind.u64.wrap n))) (fun⟨(n:Int),_⟩ r _ ⟨hs,h⟩=>by
  obtain rfl:aQ (eB false n.toNat 1)=r:=h;refine⟨bh (decide_eq_false (by omega)) ?_,.inl rfl⟩;have e:IntKind.u64.wrap n=n:=by rw[IntKind.wrap_u64];omega
  rw[e];exact⟨⟨hs.1,by omega⟩,by decide,xa (abc (show n.toNat<9223372036854775808 by omega) (by decide)) (by decide)⟩) Tryz.func204
def LY (x y:Q):Q:=eB (x.neg !=y.neg) (x.n*y.d) (x.d*y.n)
def dvB (x y:mO):T XV:=.nd (x.2.1.length≤200∧y.2.2.length≤200) (.nd (x.2.2.length≤200∧y.2.1.length≤200) (TG (x.1 !=y.1) (au x.2.1*au y.2.2) (au x.2.2*au y.2.1)))
theorem IR {x y:Nat} (hx:x<2^100) (hy:y<2^100):x*y<2^200:=Nat.lt_of_lt_of_eq (Nat.mul_lt_mul'' hx hy) (by rw[←Nat.pow_add])
theorem Vp:av Tryz.prog 203 true (aU [(0,sQ),(1,sQ)] fun((x:mO),(y:mO),_)=>.nd (Gi (2^100) x∧Gi (2^100) y) (.lf (aQ (LY (wt x) (wt y))))):=
 bC (C:=Cf2) (nL _ _) true 99 [(0,sQ),(1,sQ)] (fun((x:mO),(y:mO),_)=>dvB x y) (fun⟨(x:mO),(y:mO),_⟩ r _ ⟨⟨hx,hy⟩,h⟩=>by
  obtain rfl:aQ (LY (wt x) (wt y))=r:=h;have l:2^100≤2^200:=acE (by omega) (by omega);exact⟨⟨⟨(hx.n l).len,(hy.d l).len⟩,⟨(hx.d l).len,(hy.n l).len⟩,xa (IR hx.2.1 hy.2.2) (IR hx.2.2 hy.2.1)⟩,.inl rfl⟩) Tryz.func203
def Xm (n:Nat):ByteArray:=⟨(bJ n).toArray⟩
def txE (s:ByteArray) (y:List Bool):T XV:=.nd ((0:Int)≤1∧(1:Int)<9223372036854775808) (.nd True (.br (!(kP (au y) (au (bits (Int.toNat 1)))==0)) (.nd (nB (2^200) y) (.nd ((⟨#[47]⟩:ByteArray).size+(Xm (au y)).size≤9223372036854775807) (.nd (s.size+((⟨#[47]⟩:ByteArray)++Xm (au y)).size≤9223372036854775807) (.lf (aS (s++(⟨#[47]⟩++Xm (au y)))))))) (.lf (aS s))))
def txT (x:mO):T XV:=.nd (nB (2^200) x.2.1) (.br x.1 (.nd ((⟨#[45]⟩:ByteArray).size+(Xm (au x.2.1)).size≤9223372036854775807) (txE (⟨#[45]⟩++Xm (au x.2.1)) x.2.2)) (txE (Xm (au x.2.1)) x.2.2))
theorem EH {n:Nat} (h:n<2^200):(Xm n).size≤202:=by
 show(bJ n).toArray.size≤202;rw[ab6];exact pY h
theorem Ii {s:List UInt8} {y:List Bool} (hy:nB (2^200) y) (hs:s.length≤1000):(txE ⟨s.toArray⟩ y).hit (aS ⟨(s++(if bJ (au y)=[49] then[] else 47::bJ (au y))).toArray⟩):=by
 have hl:=EH hy.2;refine⟨by decide,trivial,?_⟩;rw[bE];by_cases h:au y=1
 ·rw[if_pos (uL.2 h),acn];exact bh (by rw[h];rfl) rfl
 ·rw[if_neg fun e=>h (uL.1 e)];refine aZ ?_ ⟨hy,?_,?_,?_⟩
  ·unfold kP;rw[show Int.toNat 1=1 from rfl];rcases Nat.lt_or_ge (au y) 1 with g|g
   ·rw[if_pos g];rfl
   ·rw[if_neg (by omega),if_neg h];rfl
  ·show 1+_≤_;omega
  ·rw[ByteArray.size_append];show s.toArray.size+(1+_)≤_;rw[ab6];omega
  ·exact congrArg aS ((congrArg (fun t=>_++t) (gm [47] _)).trans (gm _ _))
theorem Nj:av Tryz.prog 89 false (aU [(0,sQ)] fun((x:mO),_)=>.nd (Gi (2^200) x) (.lf (aS ⟨(iC (wt x)).toArray⟩))):=
 bC (C:=Cf2) (nL _ _) false 99 [(0,sQ)] (fun((x:mO),_)=>txT x) (fun⟨⟨(g:Bool),(x:List Bool),(y:List Bool)⟩,_⟩ r _ ⟨hs,h⟩=>by
  obtain rfl:aS ⟨(iC (wt (g,x,y))).toArray⟩=r:=h;have hx:nB (2^200) x:=hs.n (aaJ _);have hl:=pY hx.2;refine⟨⟨hx,?_⟩,.inr rfl⟩;unfold iC;cases g with
  | true=>
   refine aZ rfl ⟨?_,?_⟩
   ·have:=EH hx.2;show 1+(Xm (au x)).size≤_;omega
   ·have:=Ii (s:=[45]++bJ (au x)) (hs.d (aaJ _)) (by simp only[aaD,abE];omega);rw[←gm] at this;exact this
  | false=>exact bh rfl (Ii (s:=bJ (au x)) (hs.d (aaJ _)) (by omega))) Tryz.func89
end Go.Proofs.YtdbpbfglhbiadaaGreatDoor
