/- Tm9 Tm16 Tm10 Tm11 Tm17 Law1 -/
import Derived.Test.YtjlhbfbdcfajfaaGreatDoorW00
import Derived.Test.YtjlhbfbdcfajfaaGreatDoorW35
import Derived.Test.YtjlhbfbdcfajfaaGreatDoorW11
import Derived.Test.YtjlhbfbdcfajfaaGreatDoorW18
set_option maxHeartbeats 8000000
set_option maxRecDepth 100000
namespace Go.Proofs.YtjlhbfbdcfajfaaGreatDoor
open Go Go.RowKit
noncomputable def C9b:hZ Tryz.prog:=dj uC [⟨_,_,_,tc⟩,⟨_,_,_,xK⟩] []
theorem Vn:av Tryz.prog 51 false (aU [(0,sI)] fun((n:Int),_)=>.lf (aS (Ew n))):=
 bz (C:=C9b) (nL _ _) false 99 [(0,sI)] (fun((n:Int),_)=>.br (decide (n<0)) (.lf (aS ⟨#[]⟩)) (.br (decide (n>999999)) (.lf (aS ⟨#[]⟩)) (.nd (0≤n∧n<9223372036854775808) (.nd (bits (ar (bits n.toNat))=bits n.toNat∧ar (bits n.toNat)<2^200) (.lf (aS ⟨(bI (ar (bits n.toNat))).toArray⟩))))))
  (fun⟨(n:Int),_⟩ r _ h=>by
   obtain rfl:aS (Ew n)=r:=h;refine⟨?_,.inr rfl⟩;unfold Ew;by_cases h1:n<0
   ·rw[if_pos (.inl h1)];exact aX (decide_eq_true h1) rfl
   ·by_cases h2:999999<n
    ·rw[if_pos (.inr h2)];exact bg (decide_eq_false h1) (aX (decide_eq_true h2) rfl)
    ·rw[if_neg (by omega)];refine bg (decide_eq_false h1) (bg (decide_eq_false (by omega)) ⟨⟨by omega,by omega⟩,?_⟩);rw[bE];exact⟨⟨rfl,abw (show n.toNat<1000000 by omega) (by decide)⟩,rfl⟩) Tryz.func51
theorem MF:av Tryz.prog 52 false (aU [(0,sI),(1,sL)] fun((n:Int),(l:List ByteArray),_)=>.lf (aS (pJ n l))):=
 bz (C:=C9b) (nL _ _) false 99 [(0,sI),(1,sL)] (fun((n:Int),(l:List ByteArray),_)=>.br (decide (n<1)) (.lf (aS ⟨#[]⟩)) (.br (decide (n>l.length)) (.lf (aS ⟨#[]⟩)) (.nd (cN (n-1)) (.nd (0≤n-1∧n-1<l.length) (.lf (aS (l.getD (n-1).toNat ⟨#[]⟩)))))))
  (fun⟨(n:Int),(l:List ByteArray),_⟩ r ⟨_,hl,_⟩ h=>by
   obtain rfl:aS (pJ n l)=r:=h;have hl:l.length≤9223372036854775807:=hl;refine⟨?_,.inr rfl⟩;unfold pJ;by_cases h1:n<1
   ·rw[if_pos (.inl h1)];exact aX (decide_eq_true h1) rfl
   ·by_cases h2:(l.length:Int)<n
    ·rw[if_pos (.inr h2)];exact bg (decide_eq_false h1) (aX (decide_eq_true h2) rfl)
    ·rw[if_neg (by omega)];refine bg (decide_eq_false h1) (bg (decide_eq_false (by omega)) ⟨⟨by omega,by omega⟩,⟨by omega,by omega⟩,?_⟩);rw[show(n-1).toNat=n.toNat-1 by omega];rfl) Tryz.func52
theorem Tz:av Tryz.prog 50 true (aU [(0,sS),(1,sS)] fun((k:ByteArray),(s:ByteArray),_)=>.lf (.agg (lJ (.st 0) (⟨k,[s],0⟩:ao)))):=by
 refine av.imp (l0:=[(0,sS),(1,sS)]) (F:=fun((k:ByteArray),(s:ByteArray),_)=>.lf (.agg [.sym (.string k),.list .str [s] true,.sym (.int .i64 0)])) (bz (C:=C9b) (nL _ _) true 99 [(0,sS),(1,sS)] (fun((k:ByteArray),(s:ByteArray),_)=>.lf (.agg [.sym (.string k),.list .str [s] true,.sym (.int .i64 0)])) (fun _ _ _ h=>⟨h,.inl rfl⟩) Tryz.func50) ?_;rintro⟨(k:ByteArray),(s:ByteArray),_⟩ r h;obtain rfl:XV.agg (lJ (.st 0) (⟨k,[s],0⟩:ao))=r:=h;refine⟨_,rfl,fun w S v h=>?_⟩;obtain⟨vs,rfl,h⟩:=h;refine⟨vs,rfl,?_⟩;cases h with
 | cons h1 h2=>cases h2 with
  | cons h2 h3=>
   obtain⟨A,n,c,e,h2,_⟩:=h2;exact .cons h1 (.cons ⟨A,n,c,e,h2,fun e=>by cases e⟩ h3)
abbrev sOs:SS:=.c (.own .str 9)
abbrev sIs:SS:=sD (.list tI)
abbrev pkL:List (Nat×SS):=[(0,sL),(1,sIs),(5,sOs),(6,sI)]
abbrev PkE:=LE pkL [(5,sOs)] []
def Iy (rs:List ByteArray):PkE:=.out (rs,())
def Be (xs:List ByteArray) (ix:List Int) (i:Int) (rs:List ByteArray) (s:ByteArray):T PkE:=.nd ((rs.length+1)*17≤140737488355328) (.nd (cN (i+1)) (.lf (.back (xs,ix,s::rs,i+1,()))))
def pkB (xs:List ByteArray) (ix:List Int) (rs:List ByteArray) (i:Int):T PkE:=.br (decide (i<ix.length)) (.nd (0≤i∧i<ix.length) (.br (decide (ix.getD i.toNat 0<0)) (Be xs ix i rs ⟨#[]⟩) (.nd (0≤i∧i<ix.length) (.br (decide (ix.getD i.toNat 0≥xs.length)) (Be xs ix i rs ⟨#[]⟩)
 (.nd (0≤i∧i<ix.length) (.nd (0≤ix.getD i.toNat 0∧ix.getD i.toNat 0<xs.length) (Be xs ix i rs (xs.getD (ix.getD i.toNat 0).toNat ⟨#[]⟩)))))))) (.lf (.out (rs,())))
def pkN (ix:List Int) (rs:List ByteArray) (i:Int):Prop:=0≤i∧i≤ix.length∧(rs.length:Int)=i∧ix.length≤1099511627776
theorem Tt:eD (sG C0 Tryz.f53) 0 0 pkL [(5,sOs)] [] fun((xs:List ByteArray),(ix:List Int),(rs:List ByteArray),(i:Int),_)=>.nd (pkN ix rs i) (.lf (Iy ((dL (ix.drop i.toNat) xs).reverse++rs))):=by
 refine eG _ (nL _ _) 99 0 0 pkL [(5,sOs)] [] (fun((xs:List ByteArray),(ix:List Int),(rs:List ByteArray),(i:Int),_)=>pkB xs ix rs i) (fun(_,(ix:List Int),_,(i:Int),_)=>ix.length-i.toNat) ?_;rintro⟨(xs:List ByteArray),(ix:List Int),(rs:List ByteArray),(i:Int),_⟩ r _ ⟨⟨h0,h1,h2,h3⟩,hr⟩;obtain⟨k,rfl⟩:∃k:Nat,i=k:=⟨i.toNat,by omega⟩;have hr:Iy ((dL (ix.drop k) xs).reverse++rs)=r:=hr;subst hr;show∃q,(pkB xs ix rs k).hit q∧_;unfold pkB;by_cases hk:k<ix.length
 ·rw[getD_drop 0 hk];obtain⟨n,hn⟩:∃n,nameAt xs (ix.getD k 0)=n:=⟨_,rfl⟩;have nx:pkN ix (n::rs) ((k:Int)+1):=⟨by omega,by omega,by rw[abp];omega,h3⟩;have eq:Iy ((dL (ix.drop (k+1)) xs).reverse++n::rs)=Iy ((dL (ix.getD k 0::ix.drop (k+1)) xs).reverse++rs):=by
   unfold dL;rw[abY,abL,abD,hn];rfl
  have dec:ix.length-(k+1)<ix.length-k:=by omega
  have bk:(Be xs ix k rs n).hit (.back (xs,ix,n::rs,(k:Int)+1,())):=⟨by omega,⟨by omega,by omega⟩,rfl⟩;have eX:0≤(k:Int)∧(k:Int)<ix.length:=⟨by omega,by omega⟩;by_cases h4:ix.getD k 0<0
  ·rw[show n=⟨#[]⟩ by rw[←hn];exact if_neg (by omega)] at nx eq bk;exact⟨_,aX (decide_eq_true (by omega)) ⟨eX,aX (decide_eq_true h4) bk⟩,dec,nx,eq⟩
  by_cases h5:(xs.length:Int)≤ix.getD k 0
  ·rw[show n=⟨#[]⟩ by rw[←hn];exact if_neg (by omega)] at nx eq bk;exact⟨_,aX (decide_eq_true (by omega)) ⟨eX,bg (decide_eq_false h4) ⟨eX,aX (decide_eq_true h5) bk⟩⟩,dec,nx,eq⟩
  ·rw[show n=xs.getD (ix.getD k 0).toNat ⟨#[]⟩ by rw[←hn];exact if_pos ⟨by omega,by omega⟩] at nx eq bk;exact⟨_,aX (decide_eq_true (by omega)) ⟨eX,bg (decide_eq_false h4) ⟨eX,bg (decide_eq_false h5) ⟨eX,⟨by rw[aaR];omega,by rw[aaR];omega⟩,bk⟩⟩⟩,dec,nx,eq⟩
 ·exact⟨_,bg (decide_eq_false (by omega)) rfl,by rw[abg (by omega)];rfl⟩
def rvR (l:List ByteArray):XV:=.one (.list .str l.reverse !l.isEmpty)
theorem NZ:av Tryz.prog 53 true (aU [(0,sL),(1,sIs)] fun((xs:List ByteArray),(ix:List Int),_)=>.nd (ix.length≤1099511627776) (.lf (.one (.list .str (dL ix xs) !(dL ix xs).isEmpty)))):=
 bz (C:=C0) ((nL _ _).add 0 _ Tt) true 99 [(0,sL),(1,sIs)] (fun((xs:List ByteArray),(ix:List Int),_)=>.nd (pkN ix [] 0) (.lf (rvR ((dL (ix.drop 0) xs).reverse++[]))))
  (fun⟨(xs:List ByteArray),(ix:List Int),_⟩ r _ ⟨h1,h⟩=>by
   obtain rfl:XV.one (.list .str (dL ix xs) !(dL ix xs).isEmpty)=r:=h;refine⟨⟨⟨by omega,by omega,rfl,h1⟩,?_⟩,.inl rfl⟩;show rvR _=_;unfold rvR;rw[ab2,abZ,aa7,List.isEmpty_reverse]) Tryz.func53
noncomputable def Wi (t:TypeId):Option Ty:=List.lookup t [(9,.str),(3,tI),(113,.st 0),(110,.st 1)]
noncomputable def C12:hZ Tryz.prog:=dj Wi [⟨_,_,_,Vn⟩,⟨_,_,_,Tz⟩,⟨_,_,_,MF⟩,⟨_,_,_,NZ⟩,⟨_,_,_,Qo⟩,⟨_,_,_,M0⟩] []
noncomputable abbrev XP:=Tryz.f32
noncomputable abbrev Tc:Rg Tryz.prog XP.ntmps:=Qn (sG C12 XP) [(17,[4])]
abbrev seC:List CS:=[.d .str,.d tI,.d tI,.d tI,.d (.list .str),.d (.list (.st 3)),.d (.list (.st 4)),.d tI,.d tI,.d .bool,.d (.list .limb),.d (.list .limb),.d tI,.d .str]
abbrev ssC:List CS:=[.d .str,.own (.st 1) 110]
abbrev sEs:SS:=.box 30 seC
abbrev sSs:SS:=.box 81 ssC
abbrev u7:=eY seC
abbrev uA:=eY ssC
def u7.co (e:u7):List ai:=e.2.2.2.2.2.1
def u7.sy (e:u7):List ax:=e.2.2.2.2.2.2.1
def u7.pr (e:u7):List ByteArray:=e.2.2.2.2.1
def uA.bs (s:uA):List aw:=s.2.1
def uA.put (s:uA) (b:aw):uA:=(s.1,b::s.bs,())
abbrev sVs:SS:=.box 81 [.d .str,.d (.list (.st 1))]
abbrev JP:=eY [.d .str,.d (.list (.st 1))]
abbrev XU:List (Nat×SS):=[(1,sEs),(2,sVs),(3,sSs),(4,sOs),(5,sI)]
abbrev XT:List (Nat×SS):=[(1,sEs),(2,sVs),(3,sSs),(4,sOs)]
def Vw (c:ai) (l:List ao):aw:=
 ⟨ah,c.name,[gg aN c.method eH,et bf c.seats,et bS c.ranks]++l++[gg db c.ties iS,gg aV c.over iU,gg dc c.skip iT,⟨cF,(c.cands.reverse++[]).reverse,0⟩],0⟩
def FW (e:u7) (v:JP) (s:uA) (l:List ByteArray) (i:Int):LE XU XT []:=.back (e,v,s,l,i,())
def Ih (e:u7) (v:JP) (s:uA) (l:List ByteArray):LE XU XT []:=.out (e,v,s,l,())
def s0E (e:u7) (v:JP) (s:uA) (l:List ByteArray) (i:Int) (c:ai) (n:Nat) (ds:List ao):T (LE XU XT []):=.nd ((n+3)*49≤140737488355328) (.nd ((0+c.cands.length)*17≤140737488355328) (.nd ((n+3+1)*49≤140737488355328) (.nd ((s.bs.length+1)*65≤140737488355328) (.nd (cN (i+1)) (.lf (FW e v (s.put (Vw c ds)) (c.name::l) (i+1)))))))
def s0B (e:u7) (v:JP) (s:uA) (l:List ByteArray) (i:Int) (c:ai):T (LE XU XT []):=.br (c.method==2) (.nd ((3+1)*49≤140737488355328) (s0E e v s l i c 4 [et az c.digits])) (s0E e v s l i c 3 [])
def s0T (e:u7) (v:JP) (s:uA) (l:List ByteArray) (i:Int):T (LE XU XT []):=.br (decide (i<e.co.length)) (.nd (0≤i∧i<e.co.length) (.nd ((l.length+1)*17≤140737488355328) (s0B e v s l i (e.co.getD i.toNat ai.zero)))) (.lf (Ih e v s l))
theorem Vv (c:ai):eg c=Vw c (if c.method=2 then[et az c.digits] else[]):=by
 unfold eg Vw;rw[abZ,aa7]
def s0N (e:u7) (s:uA) (l:List ByteArray) (i:Int):Prop:=0≤i∧i≤e.co.length∧e.co.length≤1048576∧(∀c∈e.co,c.cands.length≤1048576)∧(l.length:Int)=i∧s.bs.length≤3+i
theorem FP:eD Tc 0 0 XU XT [] fun((e:u7),(v:JP),(s:uA),(l:List ByteArray),(i:Int),_)=>.nd (s0N e s l i) (.lf (Ih e v (s.1,((e.co.drop i.toNat).map eg).reverse++s.bs,()) (((e.co.drop i.toNat).map (·.name)).reverse++l))):=by
 refine eG _ (nL _ _) 99 0 0 XU XT [] (fun((e:u7),(v:JP),(s:uA),(l:List ByteArray),(i:Int),_)=>s0T e v s l i)
  (fun((e:u7),_,_,_,(i:Int),_)=>e.co.length-i.toNat) ?_
 rintro⟨(e:u7),(v:JP),(s:uA),(l:List ByteArray),(i:Int),_⟩ r _ ⟨⟨h0,h1,h2,h3,h4,h5⟩,hr⟩;have hr:Ih e v (s.1,((e.co.drop i.toNat).map eg).reverse++s.bs,()) (((e.co.drop i.toNat).map (·.name)).reverse++l)=r:=hr;obtain rfl:=hr;obtain⟨k,rfl⟩:∃k:Nat,i=k:=⟨i.toNat,by omega⟩;rw[aaR];show∃q,(s0T e v s l k).hit q∧_;unfold s0T;by_cases hk:k<e.co.length
 ·rw[getD_drop ai.zero hk,aaR];obtain⟨c,hc⟩:∃c,e.co.getD k ai.zero=c:=⟨_,rfl⟩;have hcc:=h3 c (by rw[←hc,aaQ,aac hk];exact abI hk);rw[hc];have key:∀(n:Nat) (ds:List ao),n≤4→eg c=Vw c ds→(s0E e v s l k c n ds).hit (FW e v (s.put (eg c)) (c.name::l) (k+1)):=fun n ds hn he=>⟨by omega,by omega,by omega,by omega,⟨by omega,by omega⟩,by rw[he];rfl⟩;refine⟨FW e v (s.put (eg c)) (c.name::l) (k+1),aX (decide_eq_true (by omega)) ⟨⟨by omega,by omega⟩,by omega,?_⟩,?_,⟨by omega,by omega,h2,h3,by rw[abp];omega,?_⟩,?_⟩
  ·unfold s0B;have he:=Vv c;by_cases hm:c.method=2
   ·rw[if_pos hm] at he;exact aX (beq_iff_eq.2 hm) ⟨by omega,key 4 _ (by omega) he⟩
   ·rw[if_neg hm] at he;exact bg (beq_eq_false_iff_ne.2 hm) (key 3 _ (by omega) he)
  ·show e.co.length-(k+1)<e.co.length-k;omega
  ·have:(s.put (eg c)).bs.length=s.bs.length+1:=rfl;omega
  ·show Ih e v (s.1,((e.co.drop (k+1)).map eg).reverse++(eg c::s.bs),()) (((e.co.drop (k+1)).map (·.name)).reverse++(c.name::l))=_;rw[abY,abY,abL,abL,abD,abD];rfl
 ·rw[abg (by omega)];exact⟨_,bg (decide_eq_false (by omega)) rfl,rfl⟩
abbrev s1L:List (Nat×SS):=[(1,sEs),(2,sVs),(3,sSs),(4,sL),(8,sI)]
abbrev s1O:List (Nat×SS):=[(1,sEs),(2,sVs),(3,sSs)]
def ax.nul:ax:=⟨⟨#[]⟩,[],[]⟩
def Ig (e:u7) (v:JP) (s:uA):LE s1L s1O []:=.out (e,v,s,())
def s1E (e:u7) (v:JP) (s:uA) (l:List ByteArray) (i:Int) (y:ax):T (LE s1L s1O []):=.nd (y.prec.length≤1099511627776) (.nd (y.cont.length≤1099511627776) (.nd ((s.bs.length+1)*65≤140737488355328) (.nd (cN (i+1)) (.lf (.back (e,v,s.put (fy e.pr l y),l,i+1,()))))))
def s1T (e:u7) (v:JP) (s:uA) (l:List ByteArray) (i:Int):T (LE s1L s1O []):=.br (decide (i<e.sy.length)) (.nd (0≤i∧i<e.sy.length) (s1E e v s l i (e.sy.getD i.toNat ax.nul))) (.lf (Ig e v s))
def s1N (e:u7) (s:uA) (i:Int):Prop:=0≤i∧i≤e.sy.length∧e.sy.length≤1048576∧(∀y∈e.sy,y.prec.length≤1048576∧y.cont.length≤1048576)∧s.bs.length≤2097152+i
theorem FO:eD Tc 1 2 s1L s1O [] fun((e:u7),(v:JP),(s:uA),(l:List ByteArray),(i:Int),_)=>.nd (s1N e s i) (.lf (Ig e v (s.1,((e.sy.drop i.toNat).map (fy e.pr l)).reverse++s.bs,()))):=by
 refine eG _ (nL _ _) 99 1 2 s1L s1O [] (fun((e:u7),(v:JP),(s:uA),(l:List ByteArray),(i:Int),_)=>s1T e v s l i)
  (fun((e:u7),_,_,_,(i:Int),_)=>e.sy.length-i.toNat) ?_
 rintro⟨(e:u7),(v:JP),(s:uA),(l:List ByteArray),(i:Int),_⟩ r _ ⟨⟨h0,h1,h2,h3,h5⟩,hr⟩;have hr:Ig e v (s.1,((e.sy.drop i.toNat).map (fy e.pr l)).reverse++s.bs,())=r:=hr;obtain rfl:=hr;obtain⟨k,rfl⟩:∃k:Nat,i=k:=⟨i.toNat,by omega⟩;rw[aaR];show∃q,(s1T e v s l k).hit q∧_;unfold s1T;by_cases hk:k<e.sy.length
 ·rw[getD_drop ax.nul hk,aaR];obtain⟨y,hy⟩:∃y,e.sy.getD k ax.nul=y:=⟨_,rfl⟩;obtain⟨WO,R9⟩:=h3 y (by rw[←hy,aaQ,aac hk];exact abI hk);rw[hy];refine⟨_,aX (decide_eq_true (by omega)) ⟨⟨by omega,by omega⟩,by omega,by omega,by omega,⟨by omega,by omega⟩,rfl⟩,?_,⟨by omega,by omega,h2,h3,?_⟩,?_⟩
  ·show e.sy.length-(k+1)<e.sy.length-k;omega
  ·have:(s.put (fy e.pr l y)).bs.length=s.bs.length+1:=rfl;omega
  ·show Ig e v (s.1,((e.sy.drop (k+1)).map (fy e.pr l)).reverse++(fy e.pr l y::s.bs),())=_;rw[abY,abL,abD];rfl
 ·rw[abg (by omega)];exact⟨_,bg (decide_eq_false (by omega)) rfl,rfl⟩
def esE (e:aa):u7:=(e.title,e.dots,e.blank,e.marked,e.prec,e.cont,e.styl,e.scan,e.batch,e.risk.neg,e.risk.num,e.risk.den,e.cell,e.seed,())
def Nw (e:aa):List aw:=[⟨af,⟨#[]⟩,[⟨bY,(e.prec.reverse++[]).reverse,0⟩],0⟩,⟨au,⟨#[]⟩,[et bZ e.scan,et cf e.batch],0⟩,⟨aP,⟨#[]⟩,[et dh e.dots,et bq e.blank,et bb e.marked],0⟩]
def aid (e:aa):uA:=(e.title,Nw e,())
def scL (e:aa):List ByteArray:=(((e.cont.drop (Int.toNat 0)).map ai.name).reverse++[]).reverse
def Kj (e:aa):uA:=(e.title,((e.cont.drop (Int.toNat 0)).map eg).reverse++Nw e,())
def Kk (e:aa):List aw:=((e.styl.drop (Int.toNat 0)).map (fy e.prec (scL e))).reverse++(Kj e).bs
def scF (e:aa):List aw:=⟨aY,⟨#[]⟩,[et dH e.cell],0⟩::⟨aO,⟨#[]⟩,[⟨bL,[⟨(iE (vR (QT e.risk.q))).toArray⟩],0⟩,⟨cM,[e.seed],0⟩],0⟩::Kk e
def scT (e:aa):T XV:=.nd ((0+1)*65≤140737488355328) (.nd ((1+1)*65≤140737488355328) (.nd ((0+e.prec.length)*17≤140737488355328) (.nd ((2+1)*65≤140737488355328) (.nd (s0N (esE e) (aid e) [] 0) (.nd (s1N (esE e) (Kj e) 0)
 (.nd (e.risk.short 6) (.nd (F8 (2^200) (QT e.risk.q)) (.nd (((Kk e).length+1)*65≤140737488355328) (.nd (((Kk e).length+1+1)*65≤140737488355328) (.lf (.agg [.sym (.string e.title),.list (.st 1) (scF e).reverse !(scF e).isEmpty])))))))))))
theorem XQ (e:aa):(scF e).reverse=(eT e).blocks:=by
 unfold scF Kk Kj scL Nw eT uA.bs;rw[sX];simp
def Jr (e:aa):Prop:=e.prec.length≤1048576∧e.cont.length≤1048576∧e.styl.length≤1048576∧(∀c∈e.cont,c.cands.length≤1048576)∧(∀y∈e.styl,y.prec.length≤1048576∧y.cont.length≤1048576)∧e.risk.short 6∧e.risk.q.n<2^200∧e.risk.q.d<2^200
theorem FQ:av Tryz.prog 32 true (aU [(0,.st 5)] fun((e:aa),_)=>.nd (Jr e) (.lf (.agg (lJ (.st 2) (eT e))))):=by
 refine av.imp (l0:=[(0,.st 5)]) (F:=fun((e:aa),_)=>.nd (Jr e) (.lf (.agg [.sym (.string e.title),.list (.st 1) (eT e).blocks true]))) (vg (R:=Tc) (((nL Tc XP).add 0 _ FP).add 1 _ FO) true 99 [(0,.st 5)] (fun((e:aa),_)=>scT e) (fun⟨(e:aa),_⟩ r hb ⟨⟨h1,h2,h3,h4,h5,h6,h7,h8⟩,h⟩=>?_) Tryz.func32) ?_
 ·obtain rfl:XV.agg [.sym (.string e.title),.list (.st 1) (eT e).blocks true]=r:=h;have e0:(Kk e).length=e.styl.length+(e.cont.length+3):=by
   unfold Kk Kj uA.bs Nw;simp
  have e1:(Kj e).bs.length=e.cont.length+3:=by
   unfold Kj uA.bs Nw;simp
  refine⟨⟨by omega,by omega,by omega,by omega,⟨by omega,aer _,h2,h4,rfl,by show(3:Int)≤3+0;omega⟩,⟨by omega,aer _,h3,h5,by rw[e1];omega⟩,h6,⟨by rw[sX],by rw[sX];exact⟨h7,h8⟩⟩,by rw[e0];omega,by rw[e0];omega,?_⟩,.inl rfl⟩;rw[XQ];rfl
 ·rintro⟨(e:aa),_⟩ r ⟨h0,h⟩;obtain rfl:XV.agg (lJ (.st 2) (eT e))=r:=h;refine⟨_,⟨h0,rfl⟩,fun w S v h=>?_⟩;obtain⟨vs,rfl,h⟩:=h;refine⟨vs,rfl,?_⟩;cases h with
  | cons h1 h2=>cases h2 with
   | cons h2 h3=>
    obtain⟨A,n,c,e,h2,_⟩:=h2;exact .cons h1 (.cons ⟨A,n,c,e,h2,fun e=>by cases e⟩ h3)
def ax.zero:ax:=⟨⟨#[]⟩,[],[]⟩
def yM (p:Nat→Bool):Nat→Nat→Bool
 | 0,_=>true
 | k+1,i=>p i&&yM p k (i+1)
theorem JN {α:Type} (q:α→Bool) (d:α):∀(l:List α) (k:Nat),k≤l.length→yM (fun i=>q (l.getD i d)) (l.length-k) k=(l.drop k).all q:=by
 intro l k hk;obtain⟨j,hj⟩:∃j,l.length-k=j:=⟨_,rfl⟩;induction j generalizing k with
 | zero=>rw[hj,abg (by omega)];rfl
 | succ j ih=>
  rw[hj,getD_drop d (by omega),ab0,←ih (k+1) (by omega) (by omega),show l.length-(k+1)=j by omega];rfl
def Mc {L:Type} (out ret:L) (p:Nat→Bool) (len:Nat) (i:Int):T L:=.nd (0≤i∧i≤len) (.br (yM p (len-i.toNat) i.toNat) (.lf out) (.lf ret))
theorem sw {L:Type} {back:Int→L} {out ret r:L} {len:Nat} {p:Nat→Bool} {TT:Int→T L} {i:Int} (hT:∀k:Nat,k<len→(p k=true→(TT k).hit (back ((k:Int)+1)))∧(p k=false→(TT k).hit ret)) (h:(Mc out ret p len i).hit r) : ∃q,(T.br (decide (i<len)) (TT i) (.lf out)).hit q∧((q=r∧(q=out∨q=ret))∨(q=back (i+1)∧len-(i+1).toNat<len-i.toNat∧(Mc out ret p len (i+1)).hit r)):=by
 obtain⟨⟨h0,h1⟩,h⟩:=h;obtain⟨k,rfl⟩:∃k:Nat,i=k:=⟨i.toNat,by omega⟩;by_cases hk:k<len
 ·obtain⟨t1,t2⟩:=hT k hk;have e1:((k:Int)+1).toNat=k+1:=by omega
  rw[aaR,show len-k=(len-(k+1))+1 by omega] at h;cases hp:p k with
  | true=>
   refine⟨_,aX (decide_eq_true (by omega)) (t1 hp),.inr ⟨rfl,by omega,⟨by omega,by omega⟩,?_⟩⟩;rw[e1];simpa only[yM,hp,abO] using h
  | false=>
   have h:=h.2 (by simp only[yM,hp,abS]);exact⟨_,aX (decide_eq_true (by omega)) (t2 hp),.inl ⟨h,.inr rfl⟩⟩
 ·rw[aaR,show len-k=0 by omega] at h;exact⟨_,bg (decide_eq_false (by omega)) rfl,.inl ⟨h.1 rfl,.inl rfl⟩⟩
abbrev ewC:List CS:=[.d .str,.d tI,.d tI,.d tI,.d (.list .str),.d (.list (.st 3)),.d (.list (.st 4)),.d tI,.d tI,.d .bool,.d (.list .limb),.d (.list .limb),.d tI,.d .str]
abbrev R1:SS:=.box 30 ewC
abbrev pG:=eY ewC
def pG.cont (x:pG):List ai:=x.2.2.2.2.2.1
def pG.styl (x:pG):List ax:=x.2.2.2.2.2.2.1
abbrev smL (s:Nat):List (Nat×SS):=[(1,R1),(s,sI)]
abbrev SmE (s:Nat):=LE (smL s) [(1,R1)] []
def td (s:Nat) (x:pG) (i:Int):SmE s:=.back (x,i,())
def Ie (s:Nat) (x:pG):SmE s:=.out (x,())
def vY (s:Nat):SmE s:=.ret (.one (.val (.bool false))) ()
def smC (c:ai):Bool:=decide (c.cands.length≤7)
def S7 (c:ax):Bool:=decide (c.prec.length≤12)&&decide (c.cont.length≤4)
theorem Kd:eD (sG C0 Tryz.f30) 0 0 (smL 3) [(1,R1)] [] fun((x:pG),(i:Int),_)=>Mc (Ie 3 x) (vY 3) (fun k=>smC (x.cont.getD k ai.zero)) x.cont.length i:=by
 refine eG _ (nL _ _) 99 0 0 (smL 3) [(1,R1)] [] (fun((x:pG),(i:Int),_)=>.br (decide (i<x.cont.length)) (.nd (0≤i∧i<x.cont.length) (.br (decide (((x.cont.getD i.toNat ai.zero).cands.length:Int)>7)) (.lf (vY 3)) (.nd (cN (i+1)) (.lf (td 3 x (i+1)))))) (.lf (Ie 3 x))) (fun((x:pG),(i:Int),_)=>x.cont.length-i.toNat) ?_;rintro⟨(x:pG),(i:Int),_⟩ r sJ h;have hl:x.cont.length≤9223372036854775807:=sJ.1.2.2.2.2.2.1;obtain⟨q,h1,h2⟩:=sw (back:=td 3 x) (TT:=fun i=>.nd (0≤i∧i<x.cont.length) (.br (decide (((x.cont.getD i.toNat ai.zero).cands.length:Int)>7)) (.lf (vY 3)) (.nd (cN (i+1)) (.lf (td 3 x (i+1)))))) (fun k hk=>⟨fun hp=>⟨⟨by omega,by omega⟩,bg (decide_eq_false (by have:=of_decide_eq_true hp;rw[aaR];omega)) ⟨⟨by omega,by omega⟩,rfl⟩⟩,fun hp=>⟨⟨by omega,by omega⟩,aX (decide_eq_true (by have:=of_decide_eq_false hp;rw[aaR];omega)) rfl⟩⟩) h;refine⟨q,h1,?_⟩;rcases h2 with⟨rfl,rfl|rfl⟩|⟨rfl,h3,h4⟩
 ·rfl
 ·rfl
 ·exact⟨h3,h4⟩
def Kf (x:pG) (i:Int):T (SmE 4):=.nd (0≤i∧i<x.styl.length) (.br (decide (((x.styl.getD i.toNat ax.zero).prec.length:Int)>12)) (.lf (vY 4)) (.nd (0≤i∧i<x.styl.length) (.br (decide (((x.styl.getD i.toNat ax.zero).cont.length:Int)>4)) (.lf (vY 4)) (.nd (cN (i+1)) (.lf (td 4 x (i+1)))))))
theorem Kc:eD (sG C0 Tryz.f30) 1 2 (smL 4) [(1,R1)] [] fun((x:pG),(i:Int),_)=>Mc (Ie 4 x) (vY 4) (fun k=>S7 (x.styl.getD k ax.zero)) x.styl.length i:=by
 refine eG _ (nL _ _) 99 1 2 (smL 4) [(1,R1)] [] (fun((x:pG),(i:Int),_)=>.br (decide (i<x.styl.length)) (Kf x i) (.lf (Ie 4 x))) (fun((x:pG),(i:Int),_)=>x.styl.length-i.toNat) ?_;rintro⟨(x:pG),(i:Int),_⟩ r sJ h;have hl:x.styl.length≤9223372036854775807:=sJ.1.2.2.2.2.2.2.1;have hT:∀k:Nat,k<x.styl.length→(S7 (x.styl.getD k ax.zero)=true→(Kf x k).hit (td 4 x ((k:Int)+1)))∧(S7 (x.styl.getD k ax.zero)=false→(Kf x k).hit (vY 4)):=by
  refine fun k hk=>⟨fun hp=>?_,fun hp=>?_⟩
  ·unfold S7 at hp;rw[aba,decide_eq_true_eq,decide_eq_true_eq] at hp;unfold Kf;rw[aaR];exact⟨⟨by omega,by omega⟩,bg (decide_eq_false (by omega)) ⟨⟨by omega,by omega⟩,bg (decide_eq_false (by omega)) ⟨⟨by omega,by omega⟩,rfl⟩⟩⟩
  ·unfold S7 at hp;unfold Kf;rw[aaR];refine⟨⟨by omega,by omega⟩,?_⟩;by_cases h1:(x.styl.getD k ax.zero).prec.length≤12
   ·rw[decide_eq_true h1,abO] at hp;have:=of_decide_eq_false hp;exact bg (decide_eq_false (by omega)) ⟨⟨by omega,by omega⟩,aX (decide_eq_true (by omega)) rfl⟩
   ·exact aX (decide_eq_true (by omega)) rfl
 obtain⟨q,h1,h2⟩:=sw (back:=td 4 x) (TT:=Kf x) hT h;refine⟨q,h1,?_⟩;rcases h2 with⟨rfl,rfl|rfl⟩|⟨rfl,h3,h4⟩
 ·rfl
 ·rfl
 ·exact⟨h3,h4⟩
abbrev sE:SS:=.st 5
def smB (e:aa):T XV:=.br (decide ((e.prec.length:Int)>12)) (.lf (aB false)) (.br (decide ((e.cont.length:Int)>4)) (.lf (aB false)) (.br (decide ((e.styl.length:Int)>6)) (.lf (aB false)) (.br (decide ((e.risk.num.length:Int)>1)) (.lf (aB false)) (.br (decide ((e.risk.den.length:Int)>1)) (.lf (aB false))
 (.nd ((0:Int)≤0∧(0:Int)≤e.cont.length) (.br (yM (fun k=>smC (e.cont.getD k ai.zero)) (e.cont.length-0) 0) (.nd ((0:Int)≤0∧(0:Int)≤e.styl.length) (.br (yM (fun k=>S7 (e.styl.getD k ax.zero)) (e.styl.length-0) 0) (.lf (aB true)) (.lf (aB false)))) (.lf (aB false))))))))
theorem D8 {p:Prop} [Decidable p] {b y:Bool} {x:T XV} (hp:b=true↔¬p) (h:x.hit (aB y)):(T.br b (.lf (aB false)) x).hit (aB (decide p&&y)):=by
 by_cases h1:p
 ·rw[decide_eq_true h1,abO];exact bg (by cases b with|false=>rfl|true=>exact absurd h1 (hp.1 rfl)) h
 ·rw[decide_eq_false h1,abS];exact aX (hp.2 h1) rfl
theorem Ke:av Tryz.prog 30 false (aU [(0,sE)] fun((e:aa),_)=>.lf (aB (lF e))):=
 bz (C:=C0) (((nL _ _).add 0 _ Kd).add 1 _ Kc) false 99 [(0,sE)] (fun((e:aa),_)=>smB e)
  (fun⟨(e:aa),_⟩ r _ h=>by
   obtain rfl:aB (lF e)=r:=h;refine⟨?_,.inr rfl⟩;show(smB e).hit _;unfold smB lF;rw[JN smC ai.zero e.cont 0 (abK _),JN S7 ax.zero e.styl 0 (abK _),ab2,ab2];refine D8 (by rw[decide_eq_true_eq];omega) (D8 (by rw[decide_eq_true_eq];omega) (D8 (by rw[decide_eq_true_eq];omega) (D8 (by rw[decide_eq_true_eq];omega) (D8 (by rw[decide_eq_true_eq];omega) ⟨⟨by omega,by omega⟩,?_⟩))));show(T.br (e.cont.all smC) _ _).hit (aB (e.cont.all smC&&e.styl.all S7));refine Jk fun _=>⟨⟨by omega,by omega⟩,?_⟩;cases e.styl.all S7 with
   | true=>exact aX rfl rfl
   | false=>exact bg rfl rfl) Tryz.func30
theorem Nc:av Tryz.prog 57 false (aU [(0,sL),(1,sL)] fun((xs:List ByteArray),(ys:List ByteArray),_)=>.lf (aB (decide (xs=ys)))):=Q7 (t:=.str) (g:=fun(xs ys:List ByteArray)=>decide (xs=ys)) fun _ _ _ _ _ _ _ xs ys _ h1 h2=>aan (xs:=xs) (ys:=ys) h1 h2
theorem O7:av Tryz.prog 58 false (aU [(0,sIs),(1,sIs)] fun((xs:List Int),(ys:List Int),_)=>.lf (aB (decide (xs=ys)))):=Q7 (t:=tI) (g:=fun(xs ys:List Int)=>decide (xs=ys)) fun _ _ _ _ _ _ _ xs ys _ h1 h2=>aaq (xs:=xs) (ys:=ys) h1 h2
theorem Tr:av Tryz.prog 56 false (aU [(0,.st 8),(1,.st 8)] fun((a:Raw),(b:Raw),_)=>.lf (aB (decide (a.neg=b.neg)&&(decide (a.num=b.num)&&decide (a.den=b.den))))):=
 gD fun w S x vs r hS he hl hr=>by
  obtain⟨(a:Raw),(b:Raw),_⟩:=x;obtain⟨v,h1,cs,h2,h3⟩:=he 0 (.agg (lJ (.st 8) a)) abh;obtain⟨v',jl,iR,Cv,Lo⟩:=he 1 (.agg (lJ (.st 8) b)) (abr _ abh);obtain rfl:=hr
  match vs,hl,h1,jl with
  | [u,u'],_,h1,jl=>
   injection h1 with h1
   injection jl with jl
   subst h1 jl h2 Cv;have k1:SV w S (.agg cs.toArray) a:=⟨cs,rfl,lC (t:=.st 8) (us:=lJ (.st 8) a) rfl h3⟩;have k2:SV w S (.agg iR.toArray) b:=⟨iR,rfl,lC (t:=.st 8) (us:=lJ (.st 8) b) rfl Lo⟩;exact Calls.mono (F6 k1 k2 hS hS) fun e w' ⟨e1,e2⟩=>⟨_,fun _=>False,e1,e2,fun _ q=>q.elim,rfl,rfl⟩
noncomputable def C11:hZ Tryz.prog:=dj uC [⟨_,_,_,Nc⟩,⟨_,_,_,O7⟩,⟨_,_,_,Tr⟩] []
noncomputable abbrev qfn:=Tryz.f33
noncomputable abbrev qRg:Rg Tryz.prog qfn.ntmps:=sG C11 qfn
theorem Xt {α:Type} (q:α→α→Bool) (d:α) {l m:List α} (hlm:l.length=m.length) (k:Nat) (hk:k≤l.length):yM (fun i=>q (l.getD i d) (m.getD i d)) (l.length-k) k=ij q (l.drop k) (m.drop k):=by
 obtain⟨j,hj⟩:∃j,l.length-k=j:=⟨_,rfl⟩;induction j generalizing k with
 | zero=>rw[hj,abg (by omega),abg (by omega)];rfl
 | succ j ih=>
  rw[hj,getD_drop d (by omega),getD_drop d (show k<m.length by omega),ij,←ih (k+1) (by omega) (by omega),show l.length-(k+1)=j by omega];rfl
theorem xY {α:Type} {q:α→α→Bool}:∀{l m:List α},ij q l m=true→l.length=m.length
 | [],[],_=>rfl
 | _::_,_::_,h=>by
  rw[ij,aba] at h;rw[abp,abp,xY h.2]
def aas (a b:ai):List Bool:=[a.name.toList==b.name.toList,decide (a.cands=b.cands),a.method==b.method,a.seats==b.seats,a.ranks==b.ranks,a.digits==b.digits,a.ties==b.ties,a.over==b.over,a.skip==b.skip]
def aao (a b:ax):List Bool:=[a.name.toList==b.name.toList,decide (a.prec=b.prec),decide (a.cont=b.cont)]
theorem En (a b:ai):(aas a b).all id=bi a b:=by
 simp only[aas,bi,ab0,aci,id,acq,eE];rfl
theorem Ej (a b:ax):(aao a b).all id=bB a b:=by
 simp only[aao,bB,ab0,aci,id,acq,eE]
abbrev eqL (s:Nat):List (Nat×SS):=[(2,R1),(3,R1),(s,sI)]
abbrev eqO:List (Nat×SS):=[(2,R1),(3,R1)]
abbrev EqE (s:Nat):=LE (eqL s) eqO []
def tO (s:Nat) (e f:pG) (i:Int):EqE s:=.back (e,f,i,())
def Jp (s:Nat) (e f:pG):EqE s:=.out (e,f,())
def Ac (s:Nat):EqE s:=.ret (.one (.val (.bool false))) ()
def afh (e f:pG) (i:Int):T (EqE 5):=.nd (0≤i∧i<e.cont.length) (.nd (0≤i∧i<f.cont.length) (EI (.lf (Ac 5)) (aas (e.cont.getD i.toNat ai.zero) (f.cont.getD i.toNat ai.zero)) (.nd (cN (i+1)) (.lf (tO 5 e f (i+1))))))
def afg (e f:pG) (i:Int):T (EqE 8):=.nd (0≤i∧i<e.styl.length) (.nd (0≤i∧i<f.styl.length) (EI (.lf (Ac 8)) (aao (e.styl.getD i.toNat ax.zero) (f.styl.getD i.toNat ax.zero)) (.nd (cN (i+1)) (.lf (tO 8 e f (i+1))))))
theorem aal:eD qRg 0 0 (eqL 5) eqO [] fun((e:pG),(f:pG),(i:Int),_)=>.nd (e.cont.length=f.cont.length) (Mc (Jp 5 e f) (Ac 5) (fun k=>bi (e.cont.getD k ai.zero) (f.cont.getD k ai.zero)) e.cont.length i):=by
 refine eG _ (nL _ _) 99 0 0 (eqL 5) eqO [] (fun((e:pG),(f:pG),(i:Int),_)=>.br (decide (i<e.cont.length)) (afh e f i) (.lf (Jp 5 e f))) (fun((e:pG),_,(i:Int),_)=>e.cont.length-i.toNat) ?_;rintro⟨(e:pG),(f:pG),(i:Int),_⟩ r sJ ⟨bO,h⟩;have hl:e.cont.length≤9223372036854775807:=sJ.1.2.2.2.2.2.1;obtain⟨q,h1,h2⟩:=sw (back:=tO 5 e f) (TT:=afh e f) (fun k hk=>⟨fun hp=>⟨⟨by omega,by omega⟩,⟨by omega,by omega⟩,Ar (t:=.nd (cN ((k:Int)+1)) (.lf (tO 5 e f ((k:Int)+1)))) ⟨⟨by omega,by omega⟩,rfl⟩ _ (by rw[En];exact hp)⟩,fun hp=>⟨⟨by omega,by omega⟩,⟨by omega,by omega⟩,Aw (ret:=.lf (Ac 5)) rfl _ (by rw[En];exact hp)⟩⟩) h;refine⟨q,h1,?_⟩;rcases h2 with⟨rfl,rfl|rfl⟩|⟨rfl,h3,h4⟩
 ·rfl
 ·rfl
 ·exact⟨h3,bO,h4⟩
theorem aak:eD qRg 1 2 (eqL 8) eqO [] fun((e:pG),(f:pG),(i:Int),_)=>.nd (e.styl.length=f.styl.length) (Mc (Jp 8 e f) (Ac 8) (fun k=>bB (e.styl.getD k ax.zero) (f.styl.getD k ax.zero)) e.styl.length i):=by
 refine eG _ (nL _ _) 99 1 2 (eqL 8) eqO [] (fun((e:pG),(f:pG),(i:Int),_)=>.br (decide (i<e.styl.length)) (afg e f i) (.lf (Jp 8 e f))) (fun((e:pG),_,(i:Int),_)=>e.styl.length-i.toNat) ?_;rintro⟨(e:pG),(f:pG),(i:Int),_⟩ r sJ ⟨bO,h⟩;have hl:e.styl.length≤9223372036854775807:=sJ.1.2.2.2.2.2.2.1;obtain⟨q,h1,h2⟩:=sw (back:=tO 8 e f) (TT:=afg e f) (fun k hk=>⟨fun hp=>⟨⟨by omega,by omega⟩,⟨by omega,by omega⟩,Ar (t:=.nd (cN ((k:Int)+1)) (.lf (tO 8 e f ((k:Int)+1)))) ⟨⟨by omega,by omega⟩,rfl⟩ _ (by rw[Ej];exact hp)⟩,fun hp=>⟨⟨by omega,by omega⟩,⟨by omega,by omega⟩,Aw (ret:=.lf (Ac 8)) rfl _ (by rw[Ej];exact hp)⟩⟩) h;refine⟨q,h1,?_⟩;rcases h2 with⟨rfl,rfl|rfl⟩|⟨rfl,h3,h4⟩
 ·rfl
 ·rfl
 ·exact⟨h3,bO,h4⟩
def QA (e f:aa):List Bool:=[e.title.toList==f.title.toList,e.dots==f.dots,e.blank==f.blank,e.marked==f.marked,e.scan==f.scan,e.batch==f.batch,e.cell==f.cell,e.seed.toList==f.seed.toList,
 decide (e.risk.neg=f.risk.neg)&&(decide (e.risk.num=f.risk.num)&&decide (e.risk.den=f.risk.den)),decide (e.prec=f.prec),(e.cont.length:Int)==(f.cont.length:Int),(e.styl.length:Int)==(f.styl.length:Int)]
def eqB (e f:aa):T XV:=EI (.lf (aB false)) (QA e f) (.nd (e.cont.length=f.cont.length) (.nd ((0:Int)≤0∧(0:Int)≤e.cont.length) (.br (yM (fun k=>bi (e.cont.getD k ai.zero) (f.cont.getD k ai.zero)) (e.cont.length-0) 0)
 (.nd (e.styl.length=f.styl.length) (.nd ((0:Int)≤0∧(0:Int)≤e.styl.length) (.br (yM (fun k=>bB (e.styl.getD k ax.zero) (f.styl.getD k ax.zero)) (e.styl.length-0) 0) (.lf (aB true)) (.lf (aB false))))) (.lf (aB false)))))
theorem U9 (e f:aa):Va e f=((QA e f).all id&&(ij bi e.cont f.cont&&ij bB e.styl f.styl)):=by
 rw[acs];simp only[Va,QA,ab0,aci,id,eE,aba,decide_eq_true_eq,beq_iff_eq,aes];constructor
 ·rintro⟨h1,h2,h3,h4,h5,h6,h7,h8,h9,h10,h11,h12,h13,h14⟩;exact⟨⟨h1,h2,h3,h4,h5,h6,h7,h8,⟨h9,h10,h11⟩,h12,xY h13,xY h14,trivial⟩,h13,h14⟩
 ·rintro⟨⟨h1,h2,h3,h4,h5,h6,h7,h8,⟨h9,h10,h11⟩,h12,_,_,_⟩,h13,h14⟩;exact⟨h1,h2,h3,h4,h5,h6,h7,h8,h9,h10,h11,h12,h13,h14⟩
theorem aam:av Tryz.prog 33 false (aU [(0,sE),(1,sE)] fun((e:aa),(f:aa),_)=>.lf (aB (Va e f))):=
 bz (C:=C11) (((nL _ _).add 0 _ aal).add 1 _ aak) false 99 [(0,sE),(1,sE)] (fun((e:aa),(f:aa),_)=>eqB e f)
  (fun⟨(e:aa),(f:aa),_⟩ r _ h=>by
   obtain rfl:aB (Va e f)=r:=h;refine⟨?_,.inr rfl⟩;show(eqB e f).hit _;unfold eqB;rw[U9];cases dM:(QA e f).all id with
   | false=>exact Aw (ret:=.lf (aB false)) rfl _ dM
   | true=>
    have Je:e.cont.length=f.cont.length∧e.styl.length=f.styl.length:=by
     simp only[QA,ab0,aci,id,aba,beq_iff_eq,aes] at dM;obtain⟨_,_,_,_,_,_,_,_,_,_,h1,h2,_⟩:=dM;exact⟨h1,h2⟩
    refine Ar (r:=aB _) ?_ _ dM;refine⟨Je.1,⟨by omega,by omega⟩,?_⟩;rw[Xt bi ai.zero Je.1 0 (abK _),Xt bB ax.zero Je.2 0 (abK _),ab2,ab2,ab2,ab2,abO];refine Jk fun _=>⟨Je.2,⟨by omega,by omega⟩,?_⟩;cases ij bB e.styl f.styl with
    | true=>exact aX rfl rfl
    | false=>exact bg rfl rfl) Tryz.func33
theorem cV (l:List ByteArray) (s:ByteArray):bH l s=true↔s∈l:=Lib.containsS_iff l s
theorem La (l:List UInt8):kF l=iJ l:=by
 rw[acs];constructor
 ·intro h;unfold kF at h;simp only[aba,decide_eq_true_eq,abv,ace,ab8] at h;obtain⟨h1,h2,h3,h4⟩:=h;have hw:=lS h1;unfold iJ;simp only[aba,decide_eq_true_eq];refine⟨by rintro rfl;simp at h2,?_⟩;unfold gE;rw[hw.1,if_neg];rintro(h|h|⟨h,h'⟩|h)
  ·omega
  ·omega
  ·rcases h4 with h4|h4
   ·omega
   ·rw[h] at h4;simp at h4
  ·rw[abE (abi _)] at h;simp at h
 ·intro h;obtain⟨h1,h2,h3⟩:=iA h;have hw:=lS h3;unfold iJ at h;simp only[aba,decide_eq_true_eq] at h;have h4:=h.2;have hl:1≤l.length:=by
   rcases l with _|⟨c,r⟩
   ·exact absurd rfl h1
   ·simp
  unfold kF;simp only[aba,decide_eq_true_eq,abv,ace,ab8];refine⟨h3,hl,h2,?_⟩;unfold gE at h4;rw[hw.1] at h4;by_cases jl:l.length=1
  ·exact .inl jl
  ·refine .inr ?_;by_cases h5:l.head?=some 48
   ·rw[if_pos (.inr (.inr (.inl ⟨h5,by omega⟩)))] at h4;omega
   ·simpa using h5
theorem Dr {x:UInt8} {d:Nat} (h:Lib.digitVal x=some d) (n:Nat):dA (n:Int) x=((n*10+d:Nat):Int):=by
 unfold Lib.digitVal at h;split at h
 ·injection h with h
  unfold dA;omega
 ·cases h
theorem Eg:∀(l:List UInt8) (fJ n:Nat),Lib.decFrom fJ l=some n→l.foldl dA (fJ:Int)=(n:Int)
 | [],fJ,n,h=>by simp only[Lib.decFrom,adR] at h;simp[h]
 | x::l,fJ,n,h=>by
  simp only[Lib.decFrom] at h;cases hd:Lib.digitVal x with
  | none=>rw[hd] at h;cases h
  | some d=>
   rw[hd] at h;rw[adI,Dr hd];exact Eg l _ n h
theorem wJ (l:List UInt8):(dF l).2=(cz l).2:=by
 unfold dF cz;rw[La];cases iJ l<;>rfl
theorem wG {l:List UInt8} (h:(cz l).2=true):(dF l).1=(cz l).1:=by
 have hn:iJ l=true:=by
  unfold cz at h;cases hb:iJ l with
  | true=>rfl
  | false=>rw[hb] at h;simp at h
 obtain⟨h1,h2,h3⟩:=iA hn;obtain⟨n,hn2⟩:=ly l 0 h3;have hd:Lib.decNat l=some n:=by
  unfold Lib.decNat;rw[if_neg (by cases l with|nil=>exact absurd rfl h1|cons _ _=>simp)];exact hn2
 unfold dF cz;rw[hn,if_pos rfl,hd,acj h2];exact Eg l 0 n hn2
theorem DV {c:UInt8} {r:List UInt8}:jc (c::r)=true↔iK (c::r)=true∧97≤c.toNat:=by
 constructor
 ·intro h;unfold jc at h;simp only[aba,decide_eq_true_eq,List.head?_cons,acB,aby] at h;obtain⟨_,h2,h3⟩:=h;have hc:97≤c.toNat:=by
   unfold gw at h2;simp only[aba,decide_eq_true_eq] at h2;exact h2.1
  refine⟨?_,hc⟩;unfold iK;rw[if_neg (by simp),if_pos];left
  unfold kb;simp only;rw[if_pos h2];exact h3
 ·rintro⟨h1,h2⟩;have Gx:∀q:List UInt8,iJ (c::q)=true→False:=fun q h=>by
   have:=(iA h).2.2 c (by simp);unfold digitB at this;simp only[aba,decide_eq_true_eq] at this;omega
  unfold iK at h1;rw[if_neg (by simp)] at h1;split at h1
  ·rename_i h3;rcases h3 with h3|h3
   ·unfold kb at h3;simp only at h3;by_cases hl:gw c=true
    ·rw[if_pos hl] at h3;unfold jc;simp only[aba,decide_eq_true_eq,List.head?_cons,acB,aby];exact⟨by simp,hl,h3⟩
    ·rw[if_neg hl] at h3;simp at h3
   ·exfalso
    refine Gx r ?_;unfold iJ;simp only[aba,decide_eq_true_eq];exact⟨by simp,h3⟩
  ·exfalso
   simp only[aba,decide_eq_true_eq] at h1;obtain⟨_,h4,_,h5,_⟩:=h1;have h6:iJ (ed (c::r))=true:=by
    unfold iJ;simp only[aba,decide_eq_true_eq];exact⟨h4,h5⟩
   unfold ed at h6 h4;rw[List.takeWhile_cons] at h6 h4;split at h6
   ·exact Gx _ h6
   ·rename_i h7;rw[if_neg h7] at h4;exact h4 rfl
theorem SE {l:List UInt8} (hl:l≠[]):jc l=false↔iK l=false∨((l[0]?).getD 0).toNat<97:=by
 cases l with
 | nil=>exact absurd rfl hl
 | cons c r=>
  have h:=DV (c:=c) (r:=r);simp only[adi,aby];constructor
  ·intro h1;by_cases h2:97≤c.toNat
   ·left
    cases h3:iK (c::r) with
    | false=>rfl
    | true=>rw[h.2 ⟨h3,h2⟩] at h1;cases h1
   ·right;omega
  ·intro h1;cases h2:jc (c::r) with
   | false=>rfl
   | true=>
    obtain⟨h3,h4⟩:=h.1 h2;rcases h1 with h1|h1
    ·rw[h3] at h1;cases h1
    ·omega
theorem iI (s:Bool) {A B:Nat} (hB:0<B):0<(ez s A B).d∧(ez s A B).n*B=A*(ez s A B).d:=by
 unfold ez;split
 ·rename_i h;rcases h with h|h
  ·simp[h]
  ·omega
 ·rename_i h;have hA:0<A:=by omega
  refine⟨Nat.div_pos (Nat.gcd_le_right _ hB) (Nat.gcd_pos_of_pos_left _ hA),?_⟩;show A/Nat.gcd A B*B=A*(B/Nat.gcd A B);rw[Nat.div_mul_right_comm (Nat.gcd_dvd_left A B),Nat.mul_div_assoc _ (Nat.gcd_dvd_right A B)]
theorem gb (s:Bool) {A B:Nat} (hB:0<B):((ez s A B).n=0↔A=0)∧(ez s A B).neg=(s&&!decide (A=0)):=by
 unfold ez;split
 ·rename_i h;rcases h with h|h
  ·simp[h]
  ·omega
 ·rename_i h;have hA:0<A:=by omega
  have hg:0<A/Nat.gcd A B:=Nat.div_pos (Nat.gcd_le_left _ hA) (Nat.gcd_pos_of_pos_left _ hA);refine⟨⟨fun h=>?_,fun h=>by omega⟩,by simp;omega⟩;have h1:A/Nat.gcd A B=0:=h;omega
theorem QY {p q:Q} (hp:p.neg=false) (hq:q.neg=true∨q.n=0) (hpd:0<p.d) (WQ:0<q.d):(oI p q<0↔p.n*q.d<q.n*p.d)∧(0<oI p q↔q.n*p.d<p.n*q.d):=by
 have hd:0<p.d*q.d:=Nat.mul_pos hpd WQ;obtain⟨X,hX⟩:∃X,p.n*q.d=X:=⟨_,rfl⟩;obtain⟨Y,hY⟩:∃Y,q.n*p.d=Y:=⟨_,rfl⟩;unfold oI xZ;rw[hX,hY,hp];obtain⟨D,hD⟩:∃D,p.d*q.d=D:=⟨_,rfl⟩;rw[hD] at hd;rw[hD];have hs:p9 false X q.neg Y=if Y≤X then(false,X-Y) else(true,Y-X):=by
  unfold p9;cases hn:q.neg with
  | true=>simp
  | false=>
   rcases hq with hq|hq
   ·rw[hn] at hq;cases hq
   ·have Lm:Y=0:=by rw[←hY,hq,Nat.zero_mul]
    subst Lm;simp
 rw[hs];by_cases h:Y≤X
 ·rw[if_pos h];have hz:=gb false (A:=X-Y) hd;simp only[abS] at hz;rw[hz.2];by_cases h0:X-Y=0
  ·rw[if_neg (by simp),if_pos (hz.1.2 h0)];constructor<;>constructor<;>intro h'<;>omega
  ·rw[if_neg (by simp),if_neg (fun h'=>h0 (hz.1.1 h'))];constructor<;>constructor<;>intro h'<;>omega
 ·rw[if_neg h];have hz:=gb true (A:=Y-X) hd;have h0:¬Y-X=0:=by omega
  rw[decide_eq_false h0] at hz;rw[if_pos (by rw[hz.2];rfl)];constructor<;>constructor<;>intro h'<;>omega
theorem mA (A C:Nat) {B D:Nat} (hB:0<B) (hD:0<D):(pD (ez false A B) (ez false C D)<0↔A*D<C*B)∧(0<pD (ez false A B) (ez false C D)↔C*B<A*D):=by
 have h1:=iI false (A:=A) hB;have h2:=iI false (A:=C) hD;have n1:=gb false (A:=A) hB;obtain⟨a,ha⟩:∃a,ez false A B=a:=⟨_,rfl⟩;obtain⟨c,hc⟩:∃c,ez false C D=c:=⟨_,rfl⟩;rw[ha] at h1 n1;rw[hc] at h2;rw[ha,hc];have e1:a.raw.q=ez a.neg a.n a.d:=Q.raw_q a;have e2:c.raw.flip.q=ez (!c.neg) c.n c.d:=by simp[Q.raw,Raw.flip,Raw.q,bF]
 have c0:c.neg=false:=by rw[←hc];exact(gb false hD).2
 have a0:a.neg=false:=n1.2;unfold pD;rw[e1,e2,c0,a0];have p1:=iI false (A:=a.n) h1.1;have p2:=iI (!false) (A:=c.n) h2.1;have z1:=gb false (A:=a.n) h1.1;have z2:=gb (!false) (A:=c.n) h2.1;obtain⟨p,hp⟩:∃p,ez false a.n a.d=p:=⟨_,rfl⟩;obtain⟨q,hq⟩:∃q,ez (!false) c.n c.d=q:=⟨_,rfl⟩;rw[hp] at p1 z1;rw[hq] at p2 z2;rw[hp,hq];have Zu:q.neg=true∨q.n=0:=by
  by_cases h:c.n=0
  ·exact .inr (z2.1.2 h)
  ·left;rw[z2.2,decide_eq_false h];rfl
 have hm:=QY z1.2 Zu p1.1 p2.1;have x1:p.n*B=A*p.d:=by
  have:p.n*B*a.d=A*p.d*a.d:=by
   calc p.n*B*a.d=(p.n*a.d)*B:=by rw[acO]
    _=(a.n*p.d)*B:=by rw[p1.2]
    _=(a.n*B)*p.d:=by rw[acO]
    _=(A*a.d)*p.d:=by rw[h1.2]
    _=A*p.d*a.d:=by rw[acO]
  exact adW h1.1 this
 have x2:q.n*D=C*q.d:=by
  have:q.n*D*c.d=C*q.d*c.d:=by
   calc q.n*D*c.d=(q.n*c.d)*D:=by rw[acO]
    _=(c.n*q.d)*D:=by rw[p2.2]
    _=(c.n*D)*q.d:=by rw[acO]
    _=(C*c.d)*q.d:=by rw[h2.2]
    _=C*q.d*c.d:=by rw[acO]
  exact adW h2.1 this
 have hBD:0<B*D:=Nat.mul_pos hB hD;have hpq:0<p.d*q.d:=Nat.mul_pos p1.1 p2.1;have y1:(p.n*q.d)*(B*D)=(A*D)*(p.d*q.d):=by
  calc (p.n*q.d)*(B*D)=(p.n*B)*(q.d*D):=by rw[acy]
   _=(A*p.d)*(D*q.d):=by rw[x1,adM q.d D]
   _=(A*D)*(p.d*q.d):=by rw[acy]
 have y2:(q.n*p.d)*(B*D)=(C*B)*(p.d*q.d):=by
  calc (q.n*p.d)*(B*D)=(q.n*p.d)*(D*B):=by rw[adM B D]
   _=(q.n*D)*(p.d*B):=by rw[acy]
   _=(C*q.d)*(B*p.d):=by rw[x2,adM p.d B]
   _=(C*B)*(q.d*p.d):=by rw[acy]
   _=(C*B)*(p.d*q.d):=by rw[adM q.d p.d]
 have hlt:∀u v u' v':Nat,u*(B*D)=u'*(p.d*q.d)→v*(B*D)=v'*(p.d*q.d)→(u<v↔u'<v'):=fun u v u' v' e1 e2=>by
  rw[←Nat.mul_lt_mul_right hBD,e1,e2,Nat.mul_lt_mul_right hpq]
 exact⟨hm.1.trans (hlt _ _ _ _ y1 y2),hm.2.trans (hlt _ _ _ _ y2 y1)⟩
theorem o5 (a b:Nat):fN a b=ez false a b:=by
 unfold fN;have h1:decide ((a:Int)<0)=false:=decide_eq_false (by omega);have h2:decide ((b:Int)<0)=false:=decide_eq_false (by omega);rw[h1,h2];simp
theorem rp (l:List UInt8):∃n:Nat,(cz l).1=(n:Int):=⟨(cz l).1.toNat,by have:=(iy l).1;omega⟩
theorem Vp {l:List UInt8} (h:jp l=false):(cz (dO l)).2=false:=by
 rcases jW l with h1|⟨k,_,h2,h3,_⟩
 ·rw[(xM h1).2.1];rfl
 ·rw[(sg h2 h3).2.2] at h;cases h
theorem CZ (l:List UInt8):(dW l).1=(iW l).1∧((iW l).1=0→(iW l).2=some (dW l).2):=by
 unfold dW iW;rw[wJ,wJ];by_cases hn:((cz (ed l)).2&&(cz (dO l)).2)=false
 ·rw[if_pos (.inr hn),if_pos hn];exact⟨rfl,fun h=>by cases h⟩
 ·have hc:¬jp l=false:=fun h=>hn (by rw[Vp h,adz]);rw[if_neg (by rintro(h|h);exact hc h;exact hn h),if_neg hn];have vn:(cz (ed l)).2=true∧(cz (dO l)).2=true:=by
   revert hn
   cases (cz (ed l)).2<;>cases (cz (dO l)).2<;>simp
  rw[wG vn.1,wG vn.2];obtain⟨a,ha⟩:=rp (ed l);obtain⟨b,hb⟩:=rp (dO l);rw[ha,hb];have e1:fN 1 1000=ez false 1 1000:=o5 1 1000;have e2:fN 1 2=ez false 1 2:=o5 1 2;rw[o5,e1,e2];have aeG:((b:Int)=0∨1000*(a:Int)<b∨(b:Int)<2*a)↔((b:Int)=0∨pD (ez false a b) (ez false 1 1000)<0∨0<pD (ez false a b) (ez false 1 2)):=by
   by_cases hb0:b=0
   ·simp[hb0]
   ·have hbp:0<b:=by omega
    rw[(mA a 1 hbp (by omega:0<1000)).1,(mA a 1 hbp (by omega:0<2)).2];omega
  by_cases h4:(b:Int)=0∨1000*(a:Int)<b∨(b:Int)<2*a
  ·rw[if_pos h4,if_pos (aeG.1 h4)];exact⟨rfl,fun h=>by cases h⟩
  ·rw[if_neg h4,if_neg (fun h=>h4 (aeG.2 h))];exact⟨rfl,fun _=>rfl⟩
theorem FU (s:ByteArray):dK s 0 24=true↔¬(s≠⟨#[]⟩∧oo s=false):=by
 by_cases h:s=⟨#[]⟩
 ·subst h;simp;kernel_rfl
 ·have hs:1≤s.size:=by
   rcases acD s.size with h0|h0
   ·exfalso
    apply h;obtain⟨⟨l⟩⟩:=s;have:l.length=0:=h0;rw[abs this]
   ·exact h0
  have e:oo s=dK s 0 24:=by
   unfold oo dK;rw[decide_eq_true (by omega:(1:Int)≤(s.size:Int)),decide_eq_true (by omega:(0:Int)≤(s.size:Int))];rw[abO,abO,Bool.and_comm]
  rw[e];simp[h]
end Go.Proofs.YtjlhbfbdcfajfaaGreatDoor
