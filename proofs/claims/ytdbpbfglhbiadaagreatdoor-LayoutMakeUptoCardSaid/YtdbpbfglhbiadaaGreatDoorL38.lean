/- Tm9 Tm16 Tm10 Tm11 Tm17 Law1 -/
import Derived.Test.YtdbpbfglhbiadaaGreatDoorL00
import Derived.Test.YtdbpbfglhbiadaaGreatDoorL36
import Derived.Test.YtdbpbfglhbiadaaGreatDoorL11
import Derived.Test.YtdbpbfglhbiadaaGreatDoorL18
set_option maxHeartbeats 8000000
set_option maxRecDepth 100000
namespace Go.Proofs.YtdbpbfglhbiadaaGreatDoor
open Go Go.RowKit
noncomputable def C9b:ik Tryz.prog:=dE uT [⟨_,_,_,tu⟩,⟨_,_,_,xX⟩] []
theorem Vq:av Tryz.prog 86 false (aU [(0,sI)] fun((n:Int),_)=>.lf (aS (EG n))):=
 bC (C:=C9b) (nL _ _) false 99 [(0,sI)] (fun((n:Int),_)=>.br (decide (n<0)) (.lf (aS ⟨#[]⟩)) (.br (decide (n>999999)) (.lf (aS ⟨#[]⟩)) (.nd (0≤n∧n<9223372036854775808) (.nd (bits (au (bits n.toNat))=bits n.toNat∧au (bits n.toNat)<2^200) (.lf (aS ⟨(bJ (au (bits n.toNat))).toArray⟩))))))
  (fun⟨(n:Int),_⟩ r _ h=>by
   obtain rfl:aS (EG n)=r:=h;refine⟨?_,.inr rfl⟩;unfold EG;by_cases h1:n<0
   ·rw[if_pos (.inl h1)];exact aZ (decide_eq_true h1) rfl
   ·by_cases h2:999999<n
    ·rw[if_pos (.inr h2)];exact bh (decide_eq_false h1) (aZ (decide_eq_true h2) rfl)
    ·rw[if_neg (by omega)];refine bh (decide_eq_false h1) (bh (decide_eq_false (by omega)) ⟨⟨by omega,by omega⟩,?_⟩);rw[bE];exact⟨⟨rfl,abc (show n.toNat<1000000 by omega) (by decide)⟩,rfl⟩) Tryz.func86
theorem MU:av Tryz.prog 87 false (aU [(0,sI),(1,sL)] fun((n:Int),(l:List ByteArray),_)=>.lf (aS (pO n l))):=
 bC (C:=C9b) (nL _ _) false 99 [(0,sI),(1,sL)] (fun((n:Int),(l:List ByteArray),_)=>.br (decide (n<1)) (.lf (aS ⟨#[]⟩)) (.br (decide (n>l.length)) (.lf (aS ⟨#[]⟩)) (.nd (cf (n-1)) (.nd (0≤n-1∧n-1<l.length) (.lf (aS (l.getD (n-1).toNat ⟨#[]⟩)))))))
  (fun⟨(n:Int),(l:List ByteArray),_⟩ r ⟨_,hl,_⟩ h=>by
   obtain rfl:aS (pO n l)=r:=h;have hl:l.length≤9223372036854775807:=hl;refine⟨?_,.inr rfl⟩;unfold pO;by_cases h1:n<1
   ·rw[if_pos (.inl h1)];exact aZ (decide_eq_true h1) rfl
   ·by_cases h2:(l.length:Int)<n
    ·rw[if_pos (.inr h2)];exact bh (decide_eq_false h1) (aZ (decide_eq_true h2) rfl)
    ·rw[if_neg (by omega)];refine bh (decide_eq_false h1) (bh (decide_eq_false (by omega)) ⟨⟨by omega,by omega⟩,⟨by omega,by omega⟩,?_⟩);rw[show(n-1).toNat=n.toNat-1 by omega];rfl) Tryz.func87
theorem TD:av Tryz.prog 85 true (aU [(0,sS),(1,sS)] fun((k:ByteArray),(s:ByteArray),_)=>.lf (.agg (kS (.st 0) (⟨k,[s],0⟩:ar)))):=by
 refine av.imp (l0:=[(0,sS),(1,sS)]) (F:=fun((k:ByteArray),(s:ByteArray),_)=>.lf (.agg [.sym (.string k),.list .str [s] true,.sym (.int .i64 0)])) (bC (C:=C9b) (nL _ _) true 99 [(0,sS),(1,sS)] (fun((k:ByteArray),(s:ByteArray),_)=>.lf (.agg [.sym (.string k),.list .str [s] true,.sym (.int .i64 0)])) (fun _ _ _ h=>⟨h,.inl rfl⟩) Tryz.func85) ?_;rintro⟨(k:ByteArray),(s:ByteArray),_⟩ r h;obtain rfl:XV.agg (kS (.st 0) (⟨k,[s],0⟩:ar))=r:=h;refine⟨_,rfl,fun w S v h=>?_⟩;obtain⟨vs,rfl,h⟩:=h;refine⟨vs,rfl,?_⟩;cases h with
 | cons h1 h2=>cases h2 with
  | cons h2 h3=>
   obtain⟨A,n,c,e,h2,_⟩:=h2;exact .cons h1 (.cons ⟨A,n,c,e,h2,fun e=>by cases e⟩ h3)
abbrev sOs:SS:=.c (.own .str 9)
abbrev sIs:SS:=sD (.list tI)
abbrev pkL:List (Nat×SS):=[(0,sL),(1,sIs),(5,sOs),(6,sI)]
abbrev PkE:=LE pkL [(5,sOs)] []
def IJ (rs:List ByteArray):PkE:=.out (rs,())
def Br (xs:List ByteArray) (ix:List Int) (i:Int) (rs:List ByteArray) (s:ByteArray):T PkE:=.nd ((rs.length+1)*17≤140737488355328) (.nd (cf (i+1)) (.lf (.back (xs,ix,s::rs,i+1,()))))
def pkB (xs:List ByteArray) (ix:List Int) (rs:List ByteArray) (i:Int):T PkE:=.br (decide (i<ix.length)) (.nd (0≤i∧i<ix.length) (.br (decide (ix.getD i.toNat 0<0)) (Br xs ix i rs ⟨#[]⟩) (.nd (0≤i∧i<ix.length) (.br (decide (ix.getD i.toNat 0≥xs.length)) (Br xs ix i rs ⟨#[]⟩)
 (.nd (0≤i∧i<ix.length) (.nd (0≤ix.getD i.toNat 0∧ix.getD i.toNat 0<xs.length) (Br xs ix i rs (xs.getD (ix.getD i.toNat 0).toNat ⟨#[]⟩)))))))) (.lf (.out (rs,())))
def pkN (ix:List Int) (rs:List ByteArray) (i:Int):Prop:=0≤i∧i≤ix.length∧(rs.length:Int)=i∧ix.length≤1099511627776
theorem Tz:eS (vI C0 Tryz.f88) 0 0 pkL [(5,sOs)] [] fun((xs:List ByteArray),(ix:List Int),(rs:List ByteArray),(i:Int),_)=>.nd (pkN ix rs i) (.lf (IJ ((dO (ix.drop i.toNat) xs).reverse++rs))):=by
 refine eY _ (nL _ _) 99 0 0 pkL [(5,sOs)] [] (fun((xs:List ByteArray),(ix:List Int),(rs:List ByteArray),(i:Int),_)=>pkB xs ix rs i) (fun(_,(ix:List Int),_,(i:Int),_)=>ix.length-i.toNat) ?_;rintro⟨(xs:List ByteArray),(ix:List Int),(rs:List ByteArray),(i:Int),_⟩ r _ ⟨⟨h0,h1,h2,h3⟩,hr⟩;obtain⟨k,rfl⟩:∃k:Nat,i=k:=⟨i.toNat,by omega⟩;have hr:IJ ((dO (ix.drop k) xs).reverse++rs)=r:=hr;subst hr;show∃q,(pkB xs ix rs k).hit q∧_;unfold pkB;by_cases hk:k<ix.length
 ·rw[getD_drop 0 hk];obtain⟨n,hn⟩:∃n,nameAt xs (ix.getD k 0)=n:=⟨_,rfl⟩;have nx:pkN ix (n::rs) ((k:Int)+1):=⟨by omega,by omega,by rw[aaO];omega,h3⟩;have eq:IJ ((dO (ix.drop (k+1)) xs).reverse++n::rs)=IJ ((dO (ix.getD k 0::ix.drop (k+1)) xs).reverse++rs):=by
   unfold dO;rw[acg,ab8,abP,hn];rfl
  have dec:ix.length-(k+1)<ix.length-k:=by omega
  have bk:(Br xs ix k rs n).hit (.back (xs,ix,n::rs,(k:Int)+1,())):=⟨by omega,⟨by omega,by omega⟩,rfl⟩;have hZ:0≤(k:Int)∧(k:Int)<ix.length:=⟨by omega,by omega⟩;by_cases h4:ix.getD k 0<0
  ·rw[show n=⟨#[]⟩ by rw[←hn];exact if_neg (by omega)] at nx eq bk;exact⟨_,aZ (decide_eq_true (by omega)) ⟨hZ,aZ (decide_eq_true h4) bk⟩,dec,nx,eq⟩
  by_cases h5:(xs.length:Int)≤ix.getD k 0
  ·rw[show n=⟨#[]⟩ by rw[←hn];exact if_neg (by omega)] at nx eq bk;exact⟨_,aZ (decide_eq_true (by omega)) ⟨hZ,bh (decide_eq_false h4) ⟨hZ,aZ (decide_eq_true h5) bk⟩⟩,dec,nx,eq⟩
  ·rw[show n=xs.getD (ix.getD k 0).toNat ⟨#[]⟩ by rw[←hn];exact if_pos ⟨by omega,by omega⟩] at nx eq bk;exact⟨_,aZ (decide_eq_true (by omega)) ⟨hZ,bh (decide_eq_false h4) ⟨hZ,bh (decide_eq_false h5) ⟨hZ,⟨by rw[aak];omega,by rw[aak];omega⟩,bk⟩⟩⟩,dec,nx,eq⟩
 ·exact⟨_,bh (decide_eq_false (by omega)) rfl,by rw[aaL (by omega)];rfl⟩
def rvR (l:List ByteArray):XV:=.one (.list .str l.reverse !l.isEmpty)
theorem Oj:av Tryz.prog 88 true (aU [(0,sL),(1,sIs)] fun((xs:List ByteArray),(ix:List Int),_)=>.nd (ix.length≤1099511627776) (.lf (.one (.list .str (dO ix xs) !(dO ix xs).isEmpty)))):=
 bC (C:=C0) ((nL _ _).add 0 _ Tz) true 99 [(0,sL),(1,sIs)] (fun((xs:List ByteArray),(ix:List Int),_)=>.nd (pkN ix [] 0) (.lf (rvR ((dO (ix.drop 0) xs).reverse++[]))))
  (fun⟨(xs:List ByteArray),(ix:List Int),_⟩ r _ ⟨h1,h⟩=>by
   obtain rfl:XV.one (.list .str (dO ix xs) !(dO ix xs).isEmpty)=r:=h;refine⟨⟨⟨by omega,by omega,rfl,h1⟩,?_⟩,.inl rfl⟩;show rvR _=_;unfold rvR;rw[acr,acn,aap,List.isEmpty_reverse]) Tryz.func88
noncomputable def Wp (t:TypeId):Option Ty:=List.lookup t [(9,.str),(3,tI),(93,.st 0),(91,.st 1)]
noncomputable def C12:ik Tryz.prog:=dE Wp [⟨_,_,_,Vq⟩,⟨_,_,_,TD⟩,⟨_,_,_,MU⟩,⟨_,_,_,Oj⟩,⟨_,_,_,Qx⟩,⟨_,_,_,Nj⟩] []
noncomputable abbrev X7:=Tryz.f40
noncomputable abbrev Tk:Rg Tryz.prog X7.ntmps:=Qw (vI C12 X7) [(17,[4])]
abbrev seC:List CS:=[.d .str,.d tI,.d tI,.d tI,.d (.list .str),.d (.list (.st 3)),.d (.list (.st 4)),.d tI,.d tI,.d .bool,.d (.list .limb),.d (.list .limb),.d tI,.d .str]
abbrev ssC:List CS:=[.d .str,.own (.st 1) 91]
abbrev sEs:SS:=.box 30 seC
abbrev sSs:SS:=.box 33 ssC
abbrev vz:=eT seC
abbrev uQ:=eT ssC
def vz.co (e:vz):List ae:=e.2.2.2.2.2.1
def vz.sy (e:vz):List aj:=e.2.2.2.2.2.2.1
def vz.pr (e:vz):List ByteArray:=e.2.2.2.2.1
def uQ.bs (s:uQ):List aw:=s.2.1
def uQ.put (s:uQ) (b:aw):uQ:=(s.1,b::s.bs,())
abbrev sVs:SS:=.box 33 [.d .str,.d (.list (.st 1))]
abbrev JX:=eT [.d .str,.d (.list (.st 1))]
abbrev Yb:List (Nat×SS):=[(1,sEs),(2,sVs),(3,sSs),(4,sOs),(5,sI)]
abbrev Ya:List (Nat×SS):=[(1,sEs),(2,sVs),(3,sSs),(4,sOs)]
def Vy (c:ae) (l:List ar):aw:=
 ⟨ah,c.name,[gg aM c.method eH,ez bb c.seats,ez bM c.ranks]++l++[gg cT c.ties iR,gg aP c.over iT,gg cU c.skip iS,⟨bY,(c.cands.reverse++[]).reverse,0⟩],0⟩
def F8 (e:vz) (v:JX) (s:uQ) (l:List ByteArray) (i:Int):LE Yb Ya []:=.back (e,v,s,l,i,())
def Ix (e:vz) (v:JX) (s:uQ) (l:List ByteArray):LE Yb Ya []:=.out (e,v,s,l,())
def s0E (e:vz) (v:JX) (s:uQ) (l:List ByteArray) (i:Int) (c:ae) (n:Nat) (ds:List ar):T (LE Yb Ya []):=.nd ((n+3)*49≤140737488355328) (.nd ((0+c.cands.length)*17≤140737488355328) (.nd ((n+3+1)*49≤140737488355328) (.nd ((s.bs.length+1)*65≤140737488355328) (.nd (cf (i+1)) (.lf (F8 e v (s.put (Vy c ds)) (c.name::l) (i+1)))))))
def s0B (e:vz) (v:JX) (s:uQ) (l:List ByteArray) (i:Int) (c:ae):T (LE Yb Ya []):=.br (c.method==2) (.nd ((3+1)*49≤140737488355328) (s0E e v s l i c 4 [ez ay c.digits])) (s0E e v s l i c 3 [])
def s0T (e:vz) (v:JX) (s:uQ) (l:List ByteArray) (i:Int):T (LE Yb Ya []):=.br (decide (i<e.co.length)) (.nd (0≤i∧i<e.co.length) (.nd ((l.length+1)*17≤140737488355328) (s0B e v s l i (e.co.getD i.toNat ae.zero)))) (.lf (Ix e v s l))
theorem Vx (c:ae):em c=Vy c (if c.method=2 then[ez ay c.digits] else[]):=by
 unfold em Vy;rw[acn,aap]
def s0N (e:vz) (s:uQ) (l:List ByteArray) (i:Int):Prop:=0≤i∧i≤e.co.length∧e.co.length≤1048576∧(∀c∈e.co,c.cands.length≤1048576)∧(l.length:Int)=i∧s.bs.length≤3+i
theorem F1:eS Tk 0 0 Yb Ya [] fun((e:vz),(v:JX),(s:uQ),(l:List ByteArray),(i:Int),_)=>.nd (s0N e s l i) (.lf (Ix e v (s.1,((e.co.drop i.toNat).map em).reverse++s.bs,()) (((e.co.drop i.toNat).map (·.name)).reverse++l))):=by
 refine eY _ (nL _ _) 99 0 0 Yb Ya [] (fun((e:vz),(v:JX),(s:uQ),(l:List ByteArray),(i:Int),_)=>s0T e v s l i)
  (fun((e:vz),_,_,_,(i:Int),_)=>e.co.length-i.toNat) ?_
 rintro⟨(e:vz),(v:JX),(s:uQ),(l:List ByteArray),(i:Int),_⟩ r _ ⟨⟨h0,h1,h2,h3,h4,h5⟩,hr⟩;have hr:Ix e v (s.1,((e.co.drop i.toNat).map em).reverse++s.bs,()) (((e.co.drop i.toNat).map (·.name)).reverse++l)=r:=hr;obtain rfl:=hr;obtain⟨k,rfl⟩:∃k:Nat,i=k:=⟨i.toNat,by omega⟩;rw[aak];show∃q,(s0T e v s l k).hit q∧_;unfold s0T;by_cases hk:k<e.co.length
 ·rw[getD_drop ae.zero hk,aak];obtain⟨c,hc⟩:∃c,e.co.getD k ae.zero=c:=⟨_,rfl⟩;have hcc:=h3 c (by rw[←hc,aai,aae hk];exact abF hk);rw[hc];have key:∀(n:Nat) (ds:List ar),n≤4→em c=Vy c ds→(s0E e v s l k c n ds).hit (F8 e v (s.put (em c)) (c.name::l) (k+1)):=fun n ds hn he=>⟨by omega,by omega,by omega,by omega,⟨by omega,by omega⟩,by rw[he];rfl⟩;refine⟨F8 e v (s.put (em c)) (c.name::l) (k+1),aZ (decide_eq_true (by omega)) ⟨⟨by omega,by omega⟩,by omega,?_⟩,?_,⟨by omega,by omega,h2,h3,by rw[aaO];omega,?_⟩,?_⟩
  ·unfold s0B;have he:=Vx c;by_cases hm:c.method=2
   ·rw[if_pos hm] at he;exact aZ (beq_iff_eq.2 hm) ⟨by omega,key 4 _ (by omega) he⟩
   ·rw[if_neg hm] at he;exact bh (beq_eq_false_iff_ne.2 hm) (key 3 _ (by omega) he)
  ·show e.co.length-(k+1)<e.co.length-k;omega
  ·have:(s.put (em c)).bs.length=s.bs.length+1:=rfl;omega
  ·show Ix e v (s.1,((e.co.drop (k+1)).map em).reverse++(em c::s.bs),()) (((e.co.drop (k+1)).map (·.name)).reverse++(c.name::l))=_;rw[acg,acg,ab8,ab8,abP,abP];rfl
 ·rw[aaL (by omega)];exact⟨_,bh (decide_eq_false (by omega)) rfl,rfl⟩
abbrev s1L:List (Nat×SS):=[(1,sEs),(2,sVs),(3,sSs),(4,sL),(8,sI)]
abbrev s1O:List (Nat×SS):=[(1,sEs),(2,sVs),(3,sSs)]
def aj.nul:aj:=⟨⟨#[]⟩,[],[]⟩
def Iw (e:vz) (v:JX) (s:uQ):LE s1L s1O []:=.out (e,v,s,())
def s1E (e:vz) (v:JX) (s:uQ) (l:List ByteArray) (i:Int) (y:aj):T (LE s1L s1O []):=.nd (y.prec.length≤1099511627776) (.nd (y.cont.length≤1099511627776) (.nd ((s.bs.length+1)*65≤140737488355328) (.nd (cf (i+1)) (.lf (.back (e,v,s.put (fw e.pr l y),l,i+1,()))))))
def s1T (e:vz) (v:JX) (s:uQ) (l:List ByteArray) (i:Int):T (LE s1L s1O []):=.br (decide (i<e.sy.length)) (.nd (0≤i∧i<e.sy.length) (s1E e v s l i (e.sy.getD i.toNat aj.nul))) (.lf (Iw e v s))
def s1N (e:vz) (s:uQ) (i:Int):Prop:=0≤i∧i≤e.sy.length∧e.sy.length≤1048576∧(∀y∈e.sy,y.prec.length≤1048576∧y.cont.length≤1048576)∧s.bs.length≤2097152+i
theorem F0:eS Tk 1 2 s1L s1O [] fun((e:vz),(v:JX),(s:uQ),(l:List ByteArray),(i:Int),_)=>.nd (s1N e s i) (.lf (Iw e v (s.1,((e.sy.drop i.toNat).map (fw e.pr l)).reverse++s.bs,()))):=by
 refine eY _ (nL _ _) 99 1 2 s1L s1O [] (fun((e:vz),(v:JX),(s:uQ),(l:List ByteArray),(i:Int),_)=>s1T e v s l i)
  (fun((e:vz),_,_,_,(i:Int),_)=>e.sy.length-i.toNat) ?_
 rintro⟨(e:vz),(v:JX),(s:uQ),(l:List ByteArray),(i:Int),_⟩ r _ ⟨⟨h0,h1,h2,h3,h5⟩,hr⟩;have hr:Iw e v (s.1,((e.sy.drop i.toNat).map (fw e.pr l)).reverse++s.bs,())=r:=hr;obtain rfl:=hr;obtain⟨k,rfl⟩:∃k:Nat,i=k:=⟨i.toNat,by omega⟩;rw[aak];show∃q,(s1T e v s l k).hit q∧_;unfold s1T;by_cases hk:k<e.sy.length
 ·rw[getD_drop aj.nul hk,aak];obtain⟨y,hy⟩:∃y,e.sy.getD k aj.nul=y:=⟨_,rfl⟩;obtain⟨WU,Sg⟩:=h3 y (by rw[←hy,aai,aae hk];exact abF hk);rw[hy];refine⟨_,aZ (decide_eq_true (by omega)) ⟨⟨by omega,by omega⟩,by omega,by omega,by omega,⟨by omega,by omega⟩,rfl⟩,?_,⟨by omega,by omega,h2,h3,?_⟩,?_⟩
  ·show e.sy.length-(k+1)<e.sy.length-k;omega
  ·have:(s.put (fw e.pr l y)).bs.length=s.bs.length+1:=rfl;omega
  ·show Iw e v (s.1,((e.sy.drop (k+1)).map (fw e.pr l)).reverse++(fw e.pr l y::s.bs),())=_;rw[acg,ab8,abP];rfl
 ·rw[aaL (by omega)];exact⟨_,bh (decide_eq_false (by omega)) rfl,rfl⟩
def esE (e:aa):vz:=(e.title,e.dots,e.blank,e.marked,e.prec,e.cont,e.styl,e.scan,e.batch,e.risk.neg,e.risk.num,e.risk.den,e.cell,e.seed,())
def NP (e:aa):List aw:=[⟨af,⟨#[]⟩,[⟨bP,(e.prec.reverse++[]).reverse,0⟩],0⟩,⟨ak,⟨#[]⟩,[ez bQ e.scan,ez bR e.batch],0⟩,⟨aH,⟨#[]⟩,[ez cV e.dots,ez bi e.blank,ez aW e.marked],0⟩]
def aiC (e:aa):uQ:=(e.title,NP e,())
def scL (e:aa):List ByteArray:=(((e.cont.drop (Int.toNat 0)).map ae.name).reverse++[]).reverse
def Kx (e:aa):uQ:=(e.title,((e.cont.drop (Int.toNat 0)).map em).reverse++NP e,())
def Ky (e:aa):List aw:=((e.styl.drop (Int.toNat 0)).map (fw e.prec (scL e))).reverse++(Kx e).bs
def scF (e:aa):List aw:=⟨aN,⟨#[]⟩,[ez dm e.cell],0⟩::⟨aJ,⟨#[]⟩,[⟨bH,[⟨(iC (wt (QT e.risk.q))).toArray⟩],0⟩,⟨cz,[e.seed],0⟩],0⟩::Ky e
def scT (e:aa):T XV:=.nd ((0+1)*65≤140737488355328) (.nd ((1+1)*65≤140737488355328) (.nd ((0+e.prec.length)*17≤140737488355328) (.nd ((2+1)*65≤140737488355328) (.nd (s0N (esE e) (aiC e) [] 0) (.nd (s1N (esE e) (Kx e) 0)
 (.nd (e.risk.short 6) (.nd (Gi (2^200) (QT e.risk.q)) (.nd (((Ky e).length+1)*65≤140737488355328) (.nd (((Ky e).length+1+1)*65≤140737488355328) (.lf (.agg [.sym (.string e.title),.list (.st 1) (scF e).reverse !(scF e).isEmpty])))))))))))
theorem X8 (e:aa):(scF e).reverse=(eW e).blocks:=by
 unfold scF Ky Kx scL NP eW uQ.bs;rw[tr];simp
def Jz (e:aa):Prop:=e.prec.length≤1048576∧e.cont.length≤1048576∧e.styl.length≤1048576∧(∀c∈e.cont,c.cands.length≤1048576)∧(∀y∈e.styl,y.prec.length≤1048576∧y.cont.length≤1048576)∧e.risk.short 6∧e.risk.q.n<2^200∧e.risk.q.d<2^200
theorem F3:av Tryz.prog 40 true (aU [(0,.st 5)] fun((e:aa),_)=>.nd (Jz e) (.lf (.agg (kS (.st 2) (eW e))))):=by
 refine av.imp (l0:=[(0,.st 5)]) (F:=fun((e:aa),_)=>.nd (Jz e) (.lf (.agg [.sym (.string e.title),.list (.st 1) (eW e).blocks true]))) (vF (R:=Tk) (((nL Tk X7).add 0 _ F1).add 1 _ F0) true 99 [(0,.st 5)] (fun((e:aa),_)=>scT e) (fun⟨(e:aa),_⟩ r hb ⟨⟨h1,h2,h3,h4,h5,h6,h7,h8⟩,h⟩=>?_) Tryz.func40) ?_
 ·obtain rfl:XV.agg [.sym (.string e.title),.list (.st 1) (eW e).blocks true]=r:=h;have e0:(Ky e).length=e.styl.length+(e.cont.length+3):=by
   unfold Ky Kx uQ.bs NP;simp
  have e1:(Kx e).bs.length=e.cont.length+3:=by
   unfold Kx uQ.bs NP;simp
  refine⟨⟨by omega,by omega,by omega,by omega,⟨by omega,adA _,h2,h4,rfl,by show(3:Int)≤3+0;omega⟩,⟨by omega,adA _,h3,h5,by rw[e1];omega⟩,h6,⟨by rw[tr],by rw[tr];exact⟨h7,h8⟩⟩,by rw[e0];omega,by rw[e0];omega,?_⟩,.inl rfl⟩;rw[X8];rfl
 ·rintro⟨(e:aa),_⟩ r ⟨h0,h⟩;obtain rfl:XV.agg (kS (.st 2) (eW e))=r:=h;refine⟨_,⟨h0,rfl⟩,fun w S v h=>?_⟩;obtain⟨vs,rfl,h⟩:=h;refine⟨vs,rfl,?_⟩;cases h with
  | cons h1 h2=>cases h2 with
   | cons h2 h3=>
    obtain⟨A,n,c,e,h2,_⟩:=h2;exact .cons h1 (.cons ⟨A,n,c,e,h2,fun e=>by cases e⟩ h3)
def aj.zero:aj:=⟨⟨#[]⟩,[],[]⟩
def za (p:Nat→Bool):Nat→Nat→Bool
 | 0,_=>true
 | k+1,i=>p i&&za p k (i+1)
theorem JV {α:Type} (q:α→Bool) (d:α):∀(l:List α) (k:Nat),k≤l.length→za (fun i=>q (l.getD i d)) (l.length-k) k=(l.drop k).all q:=by
 intro l k hk;obtain⟨j,hj⟩:∃j,l.length-k=j:=⟨_,rfl⟩;induction j generalizing k with
 | zero=>rw[hj,aaL (by omega)];rfl
 | succ j ih=>
  rw[hj,getD_drop d (by omega),acG,←ih (k+1) (by omega) (by omega),show l.length-(k+1)=j by omega];rfl
def Ms {L:Type} (out ret:L) (p:Nat→Bool) (len:Nat) (i:Int):T L:=.nd (0≤i∧i≤len) (.br (za p (len-i.toNat) i.toNat) (.lf out) (.lf ret))
theorem ta {L:Type} {back:Int→L} {out ret r:L} {len:Nat} {p:Nat→Bool} {TT:Int→T L} {i:Int} (hT:∀k:Nat,k<len→(p k=true→(TT k).hit (back ((k:Int)+1)))∧(p k=false→(TT k).hit ret)) (h:(Ms out ret p len i).hit r) : ∃q,(T.br (decide (i<len)) (TT i) (.lf out)).hit q∧((q=r∧(q=out∨q=ret))∨(q=back (i+1)∧len-(i+1).toNat<len-i.toNat∧(Ms out ret p len (i+1)).hit r)):=by
 obtain⟨⟨h0,h1⟩,h⟩:=h;obtain⟨k,rfl⟩:∃k:Nat,i=k:=⟨i.toNat,by omega⟩;by_cases hk:k<len
 ·obtain⟨t1,t2⟩:=hT k hk;have e1:((k:Int)+1).toNat=k+1:=by omega
  rw[aak,show len-k=(len-(k+1))+1 by omega] at h;cases hp:p k with
  | true=>
   refine⟨_,aZ (decide_eq_true (by omega)) (t1 hp),.inr ⟨rfl,by omega,⟨by omega,by omega⟩,?_⟩⟩;rw[e1];simpa only[za,hp,acB] using h
  | false=>
   have h:=h.2 (by simp only[za,hp,ac2]);exact⟨_,aZ (decide_eq_true (by omega)) (t2 hp),.inl ⟨h,.inr rfl⟩⟩
 ·rw[aak,show len-k=0 by omega] at h;exact⟨_,bh (decide_eq_false (by omega)) rfl,.inl ⟨h.1 rfl,.inl rfl⟩⟩
abbrev ewC:List CS:=[.d .str,.d tI,.d tI,.d tI,.d (.list .str),.d (.list (.st 3)),.d (.list (.st 4)),.d tI,.d tI,.d .bool,.d (.list .limb),.d (.list .limb),.d tI,.d .str]
abbrev R9:SS:=.box 30 ewC
abbrev pJ:=eT ewC
def pJ.cont (x:pJ):List ae:=x.2.2.2.2.2.1
def pJ.styl (x:pJ):List aj:=x.2.2.2.2.2.2.1
abbrev smL (s:Nat):List (Nat×SS):=[(1,R9),(s,sI)]
abbrev SmE (s:Nat):=LE (smL s) [(1,R9)] []
def tv (s:Nat) (x:pJ) (i:Int):SmE s:=.back (x,i,())
def It (s:Nat) (x:pJ):SmE s:=.out (x,())
def wC (s:Nat):SmE s:=.ret (.one (.val (.bool false))) ()
def smC (c:ae):Bool:=decide (c.cands.length≤7)
def Tf (c:aj):Bool:=decide (c.prec.length≤12)&&decide (c.cont.length≤4)
theorem Kp:eS (vI C0 Tryz.f45) 0 0 (smL 3) [(1,R9)] [] fun((x:pJ),(i:Int),_)=>Ms (It 3 x) (wC 3) (fun k=>smC (x.cont.getD k ae.zero)) x.cont.length i:=by
 refine eY _ (nL _ _) 99 0 0 (smL 3) [(1,R9)] [] (fun((x:pJ),(i:Int),_)=>.br (decide (i<x.cont.length)) (.nd (0≤i∧i<x.cont.length) (.br (decide (((x.cont.getD i.toNat ae.zero).cands.length:Int)>7)) (.lf (wC 3)) (.nd (cf (i+1)) (.lf (tv 3 x (i+1)))))) (.lf (It 3 x))) (fun((x:pJ),(i:Int),_)=>x.cont.length-i.toNat) ?_;rintro⟨(x:pJ),(i:Int),_⟩ r tj h;have hl:x.cont.length≤9223372036854775807:=tj.1.2.2.2.2.2.1;obtain⟨q,h1,h2⟩:=ta (back:=tv 3 x) (TT:=fun i=>.nd (0≤i∧i<x.cont.length) (.br (decide (((x.cont.getD i.toNat ae.zero).cands.length:Int)>7)) (.lf (wC 3)) (.nd (cf (i+1)) (.lf (tv 3 x (i+1)))))) (fun k hk=>⟨fun hp=>⟨⟨by omega,by omega⟩,bh (decide_eq_false (by have:=of_decide_eq_true hp;rw[aak];omega)) ⟨⟨by omega,by omega⟩,rfl⟩⟩,fun hp=>⟨⟨by omega,by omega⟩,aZ (decide_eq_true (by have:=of_decide_eq_false hp;rw[aak];omega)) rfl⟩⟩) h;refine⟨q,h1,?_⟩;rcases h2 with⟨rfl,rfl|rfl⟩|⟨rfl,h3,h4⟩
 ·rfl
 ·rfl
 ·exact⟨h3,h4⟩
def Kr (x:pJ) (i:Int):T (SmE 4):=.nd (0≤i∧i<x.styl.length) (.br (decide (((x.styl.getD i.toNat aj.zero).prec.length:Int)>12)) (.lf (wC 4)) (.nd (0≤i∧i<x.styl.length) (.br (decide (((x.styl.getD i.toNat aj.zero).cont.length:Int)>4)) (.lf (wC 4)) (.nd (cf (i+1)) (.lf (tv 4 x (i+1)))))))
theorem Ko:eS (vI C0 Tryz.f45) 1 2 (smL 4) [(1,R9)] [] fun((x:pJ),(i:Int),_)=>Ms (It 4 x) (wC 4) (fun k=>Tf (x.styl.getD k aj.zero)) x.styl.length i:=by
 refine eY _ (nL _ _) 99 1 2 (smL 4) [(1,R9)] [] (fun((x:pJ),(i:Int),_)=>.br (decide (i<x.styl.length)) (Kr x i) (.lf (It 4 x))) (fun((x:pJ),(i:Int),_)=>x.styl.length-i.toNat) ?_;rintro⟨(x:pJ),(i:Int),_⟩ r tj h;have hl:x.styl.length≤9223372036854775807:=tj.1.2.2.2.2.2.2.1;have hT:∀k:Nat,k<x.styl.length→(Tf (x.styl.getD k aj.zero)=true→(Kr x k).hit (tv 4 x ((k:Int)+1)))∧(Tf (x.styl.getD k aj.zero)=false→(Kr x k).hit (wC 4)):=by
  refine fun k hk=>⟨fun hp=>?_,fun hp=>?_⟩
  ·unfold Tf at hp;rw[aaI,decide_eq_true_eq,decide_eq_true_eq] at hp;unfold Kr;rw[aak];exact⟨⟨by omega,by omega⟩,bh (decide_eq_false (by omega)) ⟨⟨by omega,by omega⟩,bh (decide_eq_false (by omega)) ⟨⟨by omega,by omega⟩,rfl⟩⟩⟩
  ·unfold Tf at hp;unfold Kr;rw[aak];refine⟨⟨by omega,by omega⟩,?_⟩;by_cases h1:(x.styl.getD k aj.zero).prec.length≤12
   ·rw[decide_eq_true h1,acB] at hp;have:=of_decide_eq_false hp;exact bh (decide_eq_false (by omega)) ⟨⟨by omega,by omega⟩,aZ (decide_eq_true (by omega)) rfl⟩
   ·exact aZ (decide_eq_true (by omega)) rfl
 obtain⟨q,h1,h2⟩:=ta (back:=tv 4 x) (TT:=Kr x) hT h;refine⟨q,h1,?_⟩;rcases h2 with⟨rfl,rfl|rfl⟩|⟨rfl,h3,h4⟩
 ·rfl
 ·rfl
 ·exact⟨h3,h4⟩
abbrev sE:SS:=.st 5
def smB (e:aa):T XV:=.br (decide ((e.prec.length:Int)>12)) (.lf (aB false)) (.br (decide ((e.cont.length:Int)>4)) (.lf (aB false)) (.br (decide ((e.styl.length:Int)>6)) (.lf (aB false)) (.br (decide ((e.risk.num.length:Int)>1)) (.lf (aB false)) (.br (decide ((e.risk.den.length:Int)>1)) (.lf (aB false))
 (.nd ((0:Int)≤0∧(0:Int)≤e.cont.length) (.br (za (fun k=>smC (e.cont.getD k ae.zero)) (e.cont.length-0) 0) (.nd ((0:Int)≤0∧(0:Int)≤e.styl.length) (.br (za (fun k=>Tf (e.styl.getD k aj.zero)) (e.styl.length-0) 0) (.lf (aB true)) (.lf (aB false)))) (.lf (aB false))))))))
theorem Ek {p:Prop} [Decidable p] {b y:Bool} {x:T XV} (hp:b=true↔¬p) (h:x.hit (aB y)):(T.br b (.lf (aB false)) x).hit (aB (decide p&&y)):=by
 by_cases h1:p
 ·rw[decide_eq_true h1,acB];exact bh (by cases b with|false=>rfl|true=>exact absurd h1 (hp.1 rfl)) h
 ·rw[decide_eq_false h1,ac2];exact aZ (hp.2 h1) rfl
theorem Kq:av Tryz.prog 45 false (aU [(0,sE)] fun((e:aa),_)=>.lf (aB (lH e))):=
 bC (C:=C0) (((nL _ _).add 0 _ Kp).add 1 _ Ko) false 99 [(0,sE)] (fun((e:aa),_)=>smB e)
  (fun⟨(e:aa),_⟩ r _ h=>by
   obtain rfl:aB (lH e)=r:=h;refine⟨?_,.inr rfl⟩;show(smB e).hit _;unfold smB lH;rw[JV smC ae.zero e.cont 0 (ab0 _),JV Tf aj.zero e.styl 0 (ab0 _),acr,acr];refine Ek (by rw[decide_eq_true_eq];omega) (Ek (by rw[decide_eq_true_eq];omega) (Ek (by rw[decide_eq_true_eq];omega) (Ek (by rw[decide_eq_true_eq];omega) (Ek (by rw[decide_eq_true_eq];omega) ⟨⟨by omega,by omega⟩,?_⟩))));show(T.br (e.cont.all smC) _ _).hit (aB (e.cont.all smC&&e.styl.all Tf));refine Jt fun _=>⟨⟨by omega,by omega⟩,?_⟩;cases e.styl.all Tf with
   | true=>exact aZ rfl rfl
   | false=>exact bh rfl rfl) Tryz.func45
theorem Nt:av Tryz.prog 44 false (aU [(0,sL),(1,sL)] fun((xs:List ByteArray),(ys:List ByteArray),_)=>.lf (aB (decide (xs=ys)))):=Rc (t:=.str) (g:=fun(xs ys:List ByteArray)=>decide (xs=ys)) fun _ _ _ _ _ _ _ xs ys _ h1 h2=>aa2 (xs:=xs) (ys:=ys) h1 h2
theorem Pt:av Tryz.prog 56 false (aU [(0,sIs),(1,sIs)] fun((xs:List Int),(ys:List Int),_)=>.lf (aB (decide (xs=ys)))):=Rc (t:=tI) (g:=fun(xs ys:List Int)=>decide (xs=ys)) fun _ _ _ _ _ _ _ xs ys _ h1 h2=>aa5 (xs:=xs) (ys:=ys) h1 h2
theorem Tw:av Tryz.prog 55 false (aU [(0,.st 8),(1,.st 8)] fun((a:Raw),(b:Raw),_)=>.lf (aB (decide (a.neg=b.neg)&&(decide (a.num=b.num)&&decide (a.den=b.den))))):=
 gH fun w S x vs r hS he hl hr=>by
  obtain⟨(a:Raw),(b:Raw),_⟩:=x;obtain⟨v,h1,cs,h2,h3⟩:=he 0 (.agg (kS (.st 8) a)) aaw;obtain⟨v',jj,iQ,CF,LF⟩:=he 1 (.agg (kS (.st 8) b)) (aaN _ aaw);obtain rfl:=hr
  match vs,hl,h1,jj with
  | [u,u'],_,h1,jj=>
   injection h1 with h1
   injection jj with jj
   subst h1 jj h2 CF;have k1:SV w S (.agg cs.toArray) a:=⟨cs,rfl,kz (t:=.st 8) (us:=kS (.st 8) a) rfl h3⟩;have k2:SV w S (.agg iQ.toArray) b:=⟨iQ,rfl,kz (t:=.st 8) (us:=kS (.st 8) b) rfl LF⟩;exact Calls.mono (Gg k1 k2 hS hS) fun e w' ⟨e1,e2⟩=>⟨_,fun _=>False,e1,e2,fun _ q=>q.elim,rfl,rfl⟩
noncomputable def C11:ik Tryz.prog:=dE uT [⟨_,_,_,Nt⟩,⟨_,_,_,Pt⟩,⟨_,_,_,Tw⟩] []
noncomputable abbrev qfn:=Tryz.f21
noncomputable abbrev qRg:Rg Tryz.prog qfn.ntmps:=vI C11 qfn
theorem Xw {α:Type} (q:α→α→Bool) (d:α) {l m:List α} (hlm:l.length=m.length) (k:Nat) (hk:k≤l.length):za (fun i=>q (l.getD i d) (m.getD i d)) (l.length-k) k=gU q (l.drop k) (m.drop k):=by
 obtain⟨j,hj⟩:∃j,l.length-k=j:=⟨_,rfl⟩;induction j generalizing k with
 | zero=>rw[hj,aaL (by omega),aaL (by omega)];rfl
 | succ j ih=>
  rw[hj,getD_drop d (by omega),getD_drop d (show k<m.length by omega),gU,←ih (k+1) (by omega) (by omega),show l.length-(k+1)=j by omega];rfl
theorem yo {α:Type} {q:α→α→Bool}:∀{l m:List α},gU q l m=true→l.length=m.length
 | [],[],_=>rfl
 | _::_,_::_,h=>by
  rw[gU,aaI] at h;rw[aaO,aaO,yo h.2]
def aa7 (a b:ae):List Bool:=[a.name.toList==b.name.toList,decide (a.cands=b.cands),a.method==b.method,a.seats==b.seats,a.ranks==b.ranks,a.digits==b.digits,a.ties==b.ties,a.over==b.over,a.skip==b.skip]
def aa3 (a b:aj):List Bool:=[a.name.toList==b.name.toList,decide (a.prec=b.prec),decide (a.cont=b.cont)]
theorem Ez (a b:ae):(aa7 a b).all id=bc a b:=by
 simp only[aa7,bc,acG,adw,id,Bool.and_true,eG];rfl
theorem Ex (a b:aj):(aa3 a b).all id=bw a b:=by
 simp only[aa3,bw,acG,adw,id,Bool.and_true,eG]
abbrev eqL (s:Nat):List (Nat×SS):=[(2,R9),(3,R9),(s,sI)]
abbrev eqO:List (Nat×SS):=[(2,R9),(3,R9)]
abbrev EqE (s:Nat):=LE (eqL s) eqO []
def ue (s:Nat) (e f:pJ) (i:Int):EqE s:=.back (e,f,i,())
def Jy (s:Nat) (e f:pJ):EqE s:=.out (e,f,())
def Aw (s:Nat):EqE s:=.ret (.one (.val (.bool false))) ()
def af1 (e f:pJ) (i:Int):T (EqE 5):=.nd (0≤i∧i<e.cont.length) (.nd (0≤i∧i<f.cont.length) (Hb (.lf (Aw 5)) (aa7 (e.cont.getD i.toNat ae.zero) (f.cont.getD i.toNat ae.zero)) (.nd (cf (i+1)) (.lf (ue 5 e f (i+1))))))
def af0 (e f:pJ) (i:Int):T (EqE 8):=.nd (0≤i∧i<e.styl.length) (.nd (0≤i∧i<f.styl.length) (Hb (.lf (Aw 8)) (aa3 (e.styl.getD i.toNat aj.zero) (f.styl.getD i.toNat aj.zero)) (.nd (cf (i+1)) (.lf (ue 8 e f (i+1))))))
theorem aaZ:eS qRg 0 0 (eqL 5) eqO [] fun((e:pJ),(f:pJ),(i:Int),_)=>.nd (e.cont.length=f.cont.length) (Ms (Jy 5 e f) (Aw 5) (fun k=>bc (e.cont.getD k ae.zero) (f.cont.getD k ae.zero)) e.cont.length i):=by
 refine eY _ (nL _ _) 99 0 0 (eqL 5) eqO [] (fun((e:pJ),(f:pJ),(i:Int),_)=>.br (decide (i<e.cont.length)) (af1 e f i) (.lf (Jy 5 e f))) (fun((e:pJ),_,(i:Int),_)=>e.cont.length-i.toNat) ?_;rintro⟨(e:pJ),(f:pJ),(i:Int),_⟩ r tj ⟨bG,h⟩;have hl:e.cont.length≤9223372036854775807:=tj.1.2.2.2.2.2.1;obtain⟨q,h1,h2⟩:=ta (back:=ue 5 e f) (TT:=af1 e f) (fun k hk=>⟨fun hp=>⟨⟨by omega,by omega⟩,⟨by omega,by omega⟩,EY (t:=.nd (cf ((k:Int)+1)) (.lf (ue 5 e f ((k:Int)+1)))) ⟨⟨by omega,by omega⟩,rfl⟩ _ (by rw[Ez];exact hp)⟩,fun hp=>⟨⟨by omega,by omega⟩,⟨by omega,by omega⟩,JJ (ret:=.lf (Aw 5)) rfl _ (by rw[Ez];exact hp)⟩⟩) h;refine⟨q,h1,?_⟩;rcases h2 with⟨rfl,rfl|rfl⟩|⟨rfl,h3,h4⟩
 ·rfl
 ·rfl
 ·exact⟨h3,bG,h4⟩
theorem aaY:eS qRg 1 2 (eqL 8) eqO [] fun((e:pJ),(f:pJ),(i:Int),_)=>.nd (e.styl.length=f.styl.length) (Ms (Jy 8 e f) (Aw 8) (fun k=>bw (e.styl.getD k aj.zero) (f.styl.getD k aj.zero)) e.styl.length i):=by
 refine eY _ (nL _ _) 99 1 2 (eqL 8) eqO [] (fun((e:pJ),(f:pJ),(i:Int),_)=>.br (decide (i<e.styl.length)) (af0 e f i) (.lf (Jy 8 e f))) (fun((e:pJ),_,(i:Int),_)=>e.styl.length-i.toNat) ?_;rintro⟨(e:pJ),(f:pJ),(i:Int),_⟩ r tj ⟨bG,h⟩;have hl:e.styl.length≤9223372036854775807:=tj.1.2.2.2.2.2.2.1;obtain⟨q,h1,h2⟩:=ta (back:=ue 8 e f) (TT:=af0 e f) (fun k hk=>⟨fun hp=>⟨⟨by omega,by omega⟩,⟨by omega,by omega⟩,EY (t:=.nd (cf ((k:Int)+1)) (.lf (ue 8 e f ((k:Int)+1)))) ⟨⟨by omega,by omega⟩,rfl⟩ _ (by rw[Ex];exact hp)⟩,fun hp=>⟨⟨by omega,by omega⟩,⟨by omega,by omega⟩,JJ (ret:=.lf (Aw 8)) rfl _ (by rw[Ex];exact hp)⟩⟩) h;refine⟨q,h1,?_⟩;rcases h2 with⟨rfl,rfl|rfl⟩|⟨rfl,h3,h4⟩
 ·rfl
 ·rfl
 ·exact⟨h3,bG,h4⟩
def QI (e f:aa):List Bool:=[e.title.toList==f.title.toList,e.dots==f.dots,e.blank==f.blank,e.marked==f.marked,e.scan==f.scan,e.batch==f.batch,e.cell==f.cell,e.seed.toList==f.seed.toList,
 decide (e.risk.neg=f.risk.neg)&&(decide (e.risk.num=f.risk.num)&&decide (e.risk.den=f.risk.den)),decide (e.prec=f.prec),(e.cont.length:Int)==(f.cont.length:Int),(e.styl.length:Int)==(f.styl.length:Int)]
def eqB (e f:aa):T XV:=Hb (.lf (aB false)) (QI e f) (.nd (e.cont.length=f.cont.length) (.nd ((0:Int)≤0∧(0:Int)≤e.cont.length) (.br (za (fun k=>bc (e.cont.getD k ae.zero) (f.cont.getD k ae.zero)) (e.cont.length-0) 0)
 (.nd (e.styl.length=f.styl.length) (.nd ((0:Int)≤0∧(0:Int)≤e.styl.length) (.br (za (fun k=>bw (e.styl.getD k aj.zero) (f.styl.getD k aj.zero)) (e.styl.length-0) 0) (.lf (aB true)) (.lf (aB false))))) (.lf (aB false)))))
theorem Vg (e f:aa):Vh e f=((QI e f).all id&&(gU bc e.cont f.cont&&gU bw e.styl f.styl)):=by
 rw[acQ];simp only[Vh,QI,acG,adw,id,eG,aaI,decide_eq_true_eq,beq_iff_eq,Int.natCast_inj];constructor
 ·rintro⟨h1,h2,h3,h4,h5,h6,h7,h8,h9,h10,h11,h12,h13,h14⟩;exact⟨⟨h1,h2,h3,h4,h5,h6,h7,h8,⟨h9,h10,h11⟩,h12,yo h13,yo h14,trivial⟩,h13,h14⟩
 ·rintro⟨⟨h1,h2,h3,h4,h5,h6,h7,h8,⟨h9,h10,h11⟩,h12,_,_,_⟩,h13,h14⟩;exact⟨h1,h2,h3,h4,h5,h6,h7,h8,h9,h10,h11,h12,h13,h14⟩
theorem aa1:av Tryz.prog 21 false (aU [(0,sE),(1,sE)] fun((e:aa),(f:aa),_)=>.lf (aB (Vh e f))):=
 bC (C:=C11) (((nL _ _).add 0 _ aaZ).add 1 _ aaY) false 99 [(0,sE),(1,sE)] (fun((e:aa),(f:aa),_)=>eqB e f)
  (fun⟨(e:aa),(f:aa),_⟩ r _ h=>by
   obtain rfl:aB (Vh e f)=r:=h;refine⟨?_,.inr rfl⟩;show(eqB e f).hit _;unfold eqB;rw[Vg];cases eR:(QI e f).all id with
   | false=>exact JJ (ret:=.lf (aB false)) rfl _ eR
   | true=>
    have Jn:e.cont.length=f.cont.length∧e.styl.length=f.styl.length:=by
     simp only[QI,acG,adw,id,aaI,beq_iff_eq,Int.natCast_inj] at eR;obtain⟨_,_,_,_,_,_,_,_,_,_,h1,h2,_⟩:=eR;exact⟨h1,h2⟩
    refine EY (r:=aB _) ?_ _ eR;refine⟨Jn.1,⟨by omega,by omega⟩,?_⟩;rw[Xw bc ae.zero Jn.1 0 (ab0 _),Xw bw aj.zero Jn.2 0 (ab0 _),acr,acr,acr,acr,acB];refine Jt fun _=>⟨Jn.2,⟨by omega,by omega⟩,?_⟩;cases gU bw e.styl f.styl with
    | true=>exact aZ rfl rfl
    | false=>exact bh rfl rfl) Tryz.func21
theorem cW (l:List ByteArray) (s:ByteArray):bI l s=true↔s∈l:=Lib.containsS_iff l s
theorem Lo (l:List UInt8):kH l=iH l:=by
 rw[acQ];constructor
 ·intro h;unfold kH at h;simp only[aaI,decide_eq_true_eq,aaR,acs,aco] at h;obtain⟨h1,h2,h3,h4⟩:=h;have hw:=lV h1;unfold iH;simp only[aaI,decide_eq_true_eq];refine⟨by rintro rfl;simp at h2,?_⟩;unfold gI;rw[hw.1,if_neg];rintro(h|h|⟨h,h'⟩|h)
  ·omega
  ·omega
  ·rcases h4 with h4|h4
   ·omega
   ·rw[h] at h4;simp at h4
  ·rw[abN (aaJ _)] at h;simp at h
 ·intro h;obtain⟨h1,h2,h3⟩:=iz h;have hw:=lV h3;unfold iH at h;simp only[aaI,decide_eq_true_eq] at h;have h4:=h.2;have hl:1≤l.length:=by
   rcases l with _|⟨c,r⟩
   ·exact absurd rfl h1
   ·simp
  unfold kH;simp only[aaI,decide_eq_true_eq,aaR,acs,aco];refine⟨h3,hl,h2,?_⟩;unfold gI at h4;rw[hw.1] at h4;by_cases jj:l.length=1
  ·exact .inl jj
  ·refine .inr ?_;by_cases h5:l.head?=some 48
   ·rw[if_pos (.inr (.inr (.inl ⟨h5,by omega⟩)))] at h4;omega
   ·simpa using h5
theorem Dz {x:UInt8} {d:Nat} (h:Lib.digitVal x=some d) (n:Nat):dD (n:Int) x=((n*10+d:Nat):Int):=by
 unfold Lib.digitVal at h;split at h
 ·injection h with h
  unfold dD;omega
 ·cases h
theorem Eu:∀(l:List UInt8) (ew n:Nat),Lib.decFrom ew l=some n→l.foldl dD (ew:Int)=(n:Int)
 | [],ew,n,h=>by simp only[Lib.decFrom,Option.some.injEq] at h;simp[h]
 | x::l,ew,n,h=>by
  simp only[Lib.decFrom] at h;cases hd:Lib.digitVal x with
  | none=>rw[hd] at h;cases h
  | some d=>
   rw[hd] at h;rw[ac4,Dz hd];exact Eu l _ n h
theorem wZ (l:List UInt8):(dJ l).2=(ck l).2:=by
 unfold dJ ck;rw[Lo];cases iH l<;>rfl
theorem wX {l:List UInt8} (h:(ck l).2=true):(dJ l).1=(ck l).1:=by
 have hn:iH l=true:=by
  unfold ck at h;cases hb:iH l with
  | true=>rfl
  | false=>rw[hb] at h;simp at h
 obtain⟨h1,h2,h3⟩:=iz hn;obtain⟨n,hn2⟩:=lB l 0 h3;have hd:Lib.decNat l=some n:=by
  unfold Lib.decNat;rw[if_neg (by cases l with|nil=>exact absurd rfl h1|cons _ _=>simp)];exact hn2
 unfold dJ ck;rw[hn,if_pos rfl,hd,acx h2];exact Eu l 0 n hn2
theorem D8 {c:UInt8} {r:List UInt8}:ja (c::r)=true↔iI (c::r)=true∧97≤c.toNat:=by
 constructor
 ·intro h;unfold ja at h;simp only[aaI,decide_eq_true_eq,List.head?_cons,acJ,abw] at h;obtain⟨_,h2,h3⟩:=h;have hc:97≤c.toNat:=by
   unfold gz at h2;simp only[aaI,decide_eq_true_eq] at h2;exact h2.1
  refine⟨?_,hc⟩;unfold iI;rw[if_neg (by simp),if_pos];left
  unfold ke;simp only;rw[if_pos h2];exact h3
 ·rintro⟨h1,h2⟩;have Jl:∀q:List UInt8,iH (c::q)=true→False:=fun q h=>by
   have:=(iz h).2.2 c (by simp);unfold digitB at this;simp only[aaI,decide_eq_true_eq] at this;omega
  unfold iI at h1;rw[if_neg (by simp)] at h1;split at h1
  ·rename_i h3;rcases h3 with h3|h3
   ·unfold ke at h3;simp only at h3;by_cases hl:gz c=true
    ·rw[if_pos hl] at h3;unfold ja;simp only[aaI,decide_eq_true_eq,List.head?_cons,acJ,abw];exact⟨by simp,hl,h3⟩
    ·rw[if_neg hl] at h3;simp at h3
   ·exfalso
    refine Jl r ?_;unfold iH;simp only[aaI,decide_eq_true_eq];exact⟨by simp,h3⟩
  ·exfalso
   simp only[aaI,decide_eq_true_eq] at h1;obtain⟨_,h4,_,h5,_⟩:=h1;have h6:iH (ek (c::r))=true:=by
    unfold iH;simp only[aaI,decide_eq_true_eq];exact⟨h4,h5⟩
   unfold ek at h6 h4;rw[List.takeWhile_cons] at h6 h4;split at h6
   ·exact Jl _ h6
   ·rename_i h7;rw[if_neg h7] at h4;exact h4 rfl
theorem SL {l:List UInt8} (hl:l≠[]):ja l=false↔iI l=false∨((l[0]?).getD 0).toNat<97:=by
 cases l with
 | nil=>exact absurd rfl hl
 | cons c r=>
  have h:=D8 (c:=c) (r:=r);simp only[acV,abw];constructor
  ·intro h1;by_cases h2:97≤c.toNat
   ·left
    cases h3:iI (c::r) with
    | false=>rfl
    | true=>rw[h.2 ⟨h3,h2⟩] at h1;cases h1
   ·right;omega
  ·intro h1;cases h2:ja (c::r) with
   | false=>rfl
   | true=>
    obtain⟨h3,h4⟩:=h.1 h2;rcases h1 with h1|h1
    ·rw[h3] at h1;cases h1
    ·omega
theorem iG (s:Bool) {A B:Nat} (hB:0<B):0<(eB s A B).d∧(eB s A B).n*B=A*(eB s A B).d:=by
 unfold eB;split
 ·rename_i h;rcases h with h|h
  ·simp[h]
  ·omega
 ·rename_i h;have hA:0<A:=by omega
  refine⟨Nat.div_pos (Nat.gcd_le_right _ hB) (Nat.gcd_pos_of_pos_left _ hA),?_⟩;show A/Nat.gcd A B*B=A*(B/Nat.gcd A B);rw[Nat.div_mul_right_comm (Nat.gcd_dvd_left A B),Nat.mul_div_assoc _ (Nat.gcd_dvd_right A B)]
theorem gb (s:Bool) {A B:Nat} (hB:0<B):((eB s A B).n=0↔A=0)∧(eB s A B).neg=(s&&!decide (A=0)):=by
 unfold eB;split
 ·rename_i h;rcases h with h|h
  ·simp[h]
  ·omega
 ·rename_i h;have hA:0<A:=by omega
  have hg:0<A/Nat.gcd A B:=Nat.div_pos (Nat.gcd_le_left _ hA) (Nat.gcd_pos_of_pos_left _ hA);refine⟨⟨fun h=>?_,fun h=>by omega⟩,by simp;omega⟩;have h1:A/Nat.gcd A B=0:=h;omega
theorem Q7 {p q:Q} (hp:p.neg=false) (hq:q.neg=true∨q.n=0) (hpd:0<p.d) (WW:0<q.d):(oK p q<0↔p.n*q.d<q.n*p.d)∧(0<oK p q↔q.n*p.d<p.n*q.d):=by
 have hd:0<p.d*q.d:=Nat.mul_pos hpd WW;obtain⟨X,hX⟩:∃X,p.n*q.d=X:=⟨_,rfl⟩;obtain⟨Y,hY⟩:∃Y,q.n*p.d=Y:=⟨_,rfl⟩;unfold oK yq;rw[hX,hY,hp];obtain⟨D,hD⟩:∃D,p.d*q.d=D:=⟨_,rfl⟩;rw[hD] at hd;rw[hD];have hs:qf false X q.neg Y=if Y≤X then(false,X-Y) else(true,Y-X):=by
  unfold qf;cases hn:q.neg with
  | true=>simp
  | false=>
   rcases hq with hq|hq
   ·rw[hn] at hq;cases hq
   ·have U0:Y=0:=by rw[←hY,hq,adY]
    subst U0;simp
 rw[hs];by_cases h:Y≤X
 ·rw[if_pos h];have hz:=gb false (A:=X-Y) hd;simp only[ac2] at hz;rw[hz.2];by_cases h0:X-Y=0
  ·rw[if_neg (by simp),if_pos (hz.1.2 h0)];constructor<;>constructor<;>intro h'<;>omega
  ·rw[if_neg (by simp),if_neg (fun h'=>h0 (hz.1.1 h'))];constructor<;>constructor<;>intro h'<;>omega
 ·rw[if_neg h];have hz:=gb true (A:=Y-X) hd;have h0:¬Y-X=0:=by omega
  rw[decide_eq_false h0] at hz;rw[if_pos (by rw[hz.2];rfl)];constructor<;>constructor<;>intro h'<;>omega
theorem mD (A C:Nat) {B D:Nat} (hB:0<B) (hD:0<D):(pF (eB false A B) (eB false C D)<0↔A*D<C*B)∧(0<pF (eB false A B) (eB false C D)↔C*B<A*D):=by
 have h1:=iG false (A:=A) hB;have h2:=iG false (A:=C) hD;have n1:=gb false (A:=A) hB;obtain⟨a,ha⟩:∃a,eB false A B=a:=⟨_,rfl⟩;obtain⟨c,hc⟩:∃c,eB false C D=c:=⟨_,rfl⟩;rw[ha] at h1 n1;rw[hc] at h2;rw[ha,hc];have e1:a.raw.q=eB a.neg a.n a.d:=Q.raw_q a;have e2:c.raw.flip.q=eB (!c.neg) c.n c.d:=by simp[Q.raw,Raw.flip,Raw.q,bF]
 have c0:c.neg=false:=by rw[←hc];exact(gb false hD).2
 have a0:a.neg=false:=n1.2;unfold pF;rw[e1,e2,c0,a0];have p1:=iG false (A:=a.n) h1.1;have p2:=iG (!false) (A:=c.n) h2.1;have z1:=gb false (A:=a.n) h1.1;have z2:=gb (!false) (A:=c.n) h2.1;obtain⟨p,hp⟩:∃p,eB false a.n a.d=p:=⟨_,rfl⟩;obtain⟨q,hq⟩:∃q,eB (!false) c.n c.d=q:=⟨_,rfl⟩;rw[hp] at p1 z1;rw[hq] at p2 z2;rw[hp,hq];have Z0:q.neg=true∨q.n=0:=by
  by_cases h:c.n=0
  ·exact .inr (z2.1.2 h)
  ·left;rw[z2.2,decide_eq_false h];rfl
 have hm:=Q7 z1.2 Z0 p1.1 p2.1;have x1:p.n*B=A*p.d:=by
  have:p.n*B*a.d=A*p.d*a.d:=by
   calc p.n*B*a.d=(p.n*a.d)*B:=by rw[acM]
    _=(a.n*p.d)*B:=by rw[p1.2]
    _=(a.n*B)*p.d:=by rw[acM]
    _=(A*a.d)*p.d:=by rw[h1.2]
    _=A*p.d*a.d:=by rw[acM]
  exact adc h1.1 this
 have x2:q.n*D=C*q.d:=by
  have:q.n*D*c.d=C*q.d*c.d:=by
   calc q.n*D*c.d=(q.n*c.d)*D:=by rw[acM]
    _=(c.n*q.d)*D:=by rw[p2.2]
    _=(c.n*D)*q.d:=by rw[acM]
    _=(C*c.d)*q.d:=by rw[h2.2]
    _=C*q.d*c.d:=by rw[acM]
  exact adc h2.1 this
 have hBD:0<B*D:=Nat.mul_pos hB hD;have hpq:0<p.d*q.d:=Nat.mul_pos p1.1 p2.1;have y1:(p.n*q.d)*(B*D)=(A*D)*(p.d*q.d):=by
  calc (p.n*q.d)*(B*D)=(p.n*B)*(q.d*D):=by rw[acF]
   _=(A*p.d)*(D*q.d):=by rw[x1,ac5 q.d D]
   _=(A*D)*(p.d*q.d):=by rw[acF]
 have y2:(q.n*p.d)*(B*D)=(C*B)*(p.d*q.d):=by
  calc (q.n*p.d)*(B*D)=(q.n*p.d)*(D*B):=by rw[ac5 B D]
   _=(q.n*D)*(p.d*B):=by rw[acF]
   _=(C*q.d)*(B*p.d):=by rw[x2,ac5 p.d B]
   _=(C*B)*(q.d*p.d):=by rw[acF]
   _=(C*B)*(p.d*q.d):=by rw[ac5 q.d p.d]
 have hlt:∀u v u' v':Nat,u*(B*D)=u'*(p.d*q.d)→v*(B*D)=v'*(p.d*q.d)→(u<v↔u'<v'):=fun u v u' v' e1 e2=>by
  rw[←Nat.mul_lt_mul_right hBD,e1,e2,Nat.mul_lt_mul_right hpq]
 exact⟨hm.1.trans (hlt _ _ _ _ y1 y2),hm.2.trans (hlt _ _ _ _ y2 y1)⟩
theorem o7 (a b:Nat):fN a b=eB false a b:=by
 unfold fN;have h1:decide ((a:Int)<0)=false:=decide_eq_false (by omega);have h2:decide ((b:Int)<0)=false:=decide_eq_false (by omega);rw[h1,h2];simp
theorem rJ (l:List UInt8):∃n:Nat,(ck l).1=(n:Int):=⟨(ck l).1.toNat,by have:=(iw l).1;omega⟩
theorem Vr {l:List UInt8} (h:jo l=false):(ck (dQ l)).2=false:=by
 rcases jW l with h1|⟨k,_,h2,h3,_⟩
 ·rw[(xZ h1).2.1];rfl
 ·rw[(sC h2 h3).2.2] at h;cases h
theorem Dj (l:List UInt8):(d9 l).1=(iU l).1∧((iU l).1=0→(iU l).2=some (d9 l).2):=by
 unfold d9 iU;rw[wZ,wZ];by_cases hn:((ck (ek l)).2&&(ck (dQ l)).2)=false
 ·rw[if_pos (.inr hn),if_pos hn];exact⟨rfl,fun h=>by cases h⟩
 ·have hc:¬jo l=false:=fun h=>hn (by rw[Vr h,Bool.and_false]);rw[if_neg (by rintro(h|h);exact hc h;exact hn h),if_neg hn];have vQ:(ck (ek l)).2=true∧(ck (dQ l)).2=true:=by
   revert hn
   cases (ck (ek l)).2<;>cases (ck (dQ l)).2<;>simp
  rw[wX vQ.1,wX vQ.2];obtain⟨a,ha⟩:=rJ (ek l);obtain⟨b,hb⟩:=rJ (dQ l);rw[ha,hb];have e1:fN 1 1000=eB false 1 1000:=o7 1 1000;have e2:fN 1 2=eB false 1 2:=o7 1 2;rw[o7,e1,e2];have afr:((b:Int)=0∨1000*(a:Int)<b∨(b:Int)<2*a)↔((b:Int)=0∨pF (eB false a b) (eB false 1 1000)<0∨0<pF (eB false a b) (eB false 1 2)):=by
   by_cases hb0:b=0
   ·simp[hb0]
   ·have hbp:0<b:=by omega
    rw[(mD a 1 hbp (by omega:0<1000)).1,(mD a 1 hbp (by omega:0<2)).2];omega
  by_cases h4:(b:Int)=0∨1000*(a:Int)<b∨(b:Int)<2*a
  ·rw[if_pos h4,if_pos (afr.1 h4)];exact⟨rfl,fun h=>by cases h⟩
  ·rw[if_neg h4,if_neg (fun h=>h4 (afr.2 h))];exact⟨rfl,fun _=>rfl⟩
theorem F6 (s:ByteArray):dN s 0 24=true↔¬(s≠⟨#[]⟩∧ox s=false):=by
 by_cases h:s=⟨#[]⟩
 ·subst h;simp;kernel_rfl
 ·have hs:1≤s.size:=by
   rcases acK s.size with h0|h0
   ·exfalso
    apply h;obtain⟨⟨l⟩⟩:=s;have:l.length=0:=h0;rw[aaS this]
   ·exact h0
  have e:ox s=dN s 0 24:=by
   unfold ox dN;rw[decide_eq_true (by omega:(1:Int)≤(s.size:Int)),decide_eq_true (by omega:(0:Int)≤(s.size:Int))];rw[acB,acB,Bool.and_comm]
  rw[e];simp[h]
end Go.Proofs.YtdbpbfglhbiadaaGreatDoor
