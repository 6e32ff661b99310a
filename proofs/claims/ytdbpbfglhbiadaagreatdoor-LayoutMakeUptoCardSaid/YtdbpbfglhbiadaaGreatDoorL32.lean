/- Ts1 Ts2 Ts3 La1 La2 Ts4 Tp2 Tp3 Tp4 Tp5 -/
import Derived.Test.YtdbpbfglhbiadaaGreatDoorL00
import Derived.Test.YtdbpbfglhbiadaaGreatDoorL31
import Derived.Test.YtdbpbfglhbiadaaGreatDoorL15
import Derived.Test.YtdbpbfglhbiadaaGreatDoorL16
import Derived.Test.YtdbpbfglhbiadaaGreatDoorL05
import Derived.Test.YtdbpbfglhbiadaaGreatDoorL13
set_option maxHeartbeats 8000000
set_option maxRecDepth 100000
namespace Go.Proofs.YtdbpbfglhbiadaaGreatDoor
open Go Go.RowKit
theorem Pr:av Tryz.prog 124 false (aU [(0,sI)] fun((n:Int),_)=>.nd (cf n) (.lf (aS (rY n)))):=
 Bo fun w S x vs r hW hS he hl hr=>by
  obtain⟨(n:Int),_⟩:=x;obtain⟨v,h1,h2,_⟩:=he 0 (aI n) aaw;obtain⟨⟨hn,hn2⟩,rfl⟩:=hr;obtain⟨B,hB,hT⟩:=hW
  match vs,hl,h1 with
  | [u],_,h1=>
   injection h1 with h1
   subst h1 h2;exact Calls.mono (Uz hT n hn hn2) fun e w' h=>⟨_,fun _=>False,h.1,h.2,fun _ q=>q.elim,rfl,rfl⟩
theorem EW:av Tryz.prog 169 true (aU [(0,sS)] fun((k:ByteArray),_)=>.lf (.one (.list .str (aO k) false))):=EX.wk fun⟨(_:ByteArray),_⟩ _ h=>⟨_,rfl,h⟩
theorem Du:av Tryz.prog 84 false (aU [(0,.st 8)] fun((x:Raw),_)=>.nd (x.short 67108864) (.lf (aS ⟨(iC x.q).toArray⟩))):=
 gH fun w S x vs r hS he hl hr=>by
  obtain⟨(x:Raw),_⟩:=x;obtain⟨v,h1,SN,rfl,h2⟩:=he 0 (.agg (kS (.st 8) x)) aaw;obtain⟨a1,rfl⟩:=hr;have hr:@aF.rep (Hw 8) (zi 8) w S SN x:=kz (t:=.st 8) (us:=kS (.st 8) x) rfl h2
  match vs,hl,h1 with
  | [u],_,h1=>
   injection h1 with h1
   subst h1;exact Calls.mono (Nk ⟨_,rfl,hr⟩ hS a1) fun e w' h=>⟨_,fun _=>False,h.1,h.2,fun _ q=>q.elim,rfl,rfl⟩
noncomputable def CP (t:TypeId):Option Ty:=List.lookup t [(9,.str),(3,tI),(93,.st 0),(91,.st 1)]
noncomputable def Cs1:ik Tryz.prog:=dE CP [⟨_,_,_,Pr⟩,⟨_,_,_,EW⟩] []
def aeg (f:ar):XV:=.agg [.sym (.string f.key),.list .str f.vals true,.sym (.int .i64 f.line)]
theorem zg:av Tryz.prog 83 true (aU [(0,sS),(1,sS)] fun((k:ByteArray),(s:ByteArray),_)=>.lf (.agg (kS (.st 0) (⟨k,[s],0⟩:ar)))):=
 (bC (C:=Cs1) (nL _ _) true 99 [(0,sS),(1,sS)] (fun((k:ByteArray),(s:ByteArray),_)=>.lf (aeg ⟨k,[s],0⟩)) (fun _ _ _ h=>⟨h,.inl rfl⟩) Tryz.func83).wk fun _ r h=>⟨_,rfl,h⟩
theorem wD:av Tryz.prog 79 true (aU [(0,sS),(1,sI)] fun((k:ByteArray),(n:Int),_)=>.nd (cf n) (.lf (.agg (kS (.st 0) (⟨k,[rY n],0⟩:ar))))):=
 (bC (C:=Cs1) (nL _ _) true 99 [(0,sS),(1,sI)] (fun((k:ByteArray),(n:Int),_)=>.nd (cf n) (.lf (aeg ⟨k,[rY n],0⟩))) (fun _ _ _ h=>⟨h,.inl rfl⟩) Tryz.func79).wk fun _ r ⟨h1,h⟩=>⟨_,⟨h1,rfl⟩,h⟩
theorem G9:av Tryz.prog 125 false (aU [(0,sS),(1,sI)] fun((k:ByteArray),(n:Int),_)=>.nd (cf n) (.lf (aS (jE k n)))):=
 bC (C:=Cs1) (nL _ _) false 99 [(0,sS),(1,sI)] (fun((k:ByteArray),(n:Int),_)=>.br (decide (n<1)) (.lf (aS ⟨#[]⟩)) (.br (decide (n>(aO k).length)) (.lf (aS ⟨#[]⟩)) (.nd (cf (n-1)) (.nd (0≤n-1∧n-1<(aO k).length) (.lf (aS ((aO k).getD (n-1).toNat ⟨#[]⟩)))))))
  (fun⟨(k:ByteArray),(n:Int),_⟩ r _ ⟨hn,h⟩=>by
   obtain rfl:aS (jE k n)=r:=h;refine⟨?_,.inr rfl⟩;unfold jE;by_cases h1:n<1
   ·rw[if_pos (.inl h1)];exact aZ (decide_eq_true h1) rfl
   ·by_cases h2:((aO k).length:Int)<n
    ·rw[if_pos (.inr h2)];exact bh (decide_eq_false h1) (aZ (decide_eq_true h2) rfl)
    ·rw[if_neg (by omega)];refine bh (decide_eq_false h1) (bh (decide_eq_false (by omega)) ⟨⟨by omega,by have:=hn.2;omega⟩,⟨by omega,by omega⟩,?_⟩);rw[show(n-1).toNat=n.toNat-1 by omega];rfl) Tryz.func125
noncomputable abbrev aeb:=Tryz.f82
noncomputable abbrev ajd:Rg Tryz.prog aeb.ntmps:=vI Cs1 aeb
abbrev nfC:List CS:=[.d .str,.own .str 9,.d tI]
abbrev nuC:List CS:=[.d .str,.d (.list .str),.d tI]
abbrev MI:=eT nfC
abbrev NuC:=eT nuC
abbrev nmL:List (Nat×SS):=[(2,sL),(6,.box 93 nuC),(7,.box 93 nfC),(13,sD (.list tI)),(14,sI),(15,sI)]
abbrev nmO:List (Nat×SS):=[(6,.box 93 nuC),(7,.box 93 nfC)]
abbrev NmE:=LE nmL nmO []
def MI.row (f:MI):List ByteArray:=f.2.1
def MI.put (f:MI) (r:List ByteArray):MI:=(f.1,r,f.2.2)
def IP (u:NuC) (f:MI) (r:List ByteArray):NmE:=.out (u,f.put r,())
def TK (l:List ByteArray) (u:NuC) (f:MI) (x:List Int) (n i:Int) (s:ByteArray):T NmE:=.nd ((f.row.length+1)*17≤140737488355328) (.nd (cf (i+1)) (.lf (.back (l,u,f.put (s::f.row),x,n,i+1,()))))
def nmT (l:List ByteArray) (u:NuC) (f:MI) (x:List Int) (n i:Int):T NmE:=.br (decide (i<n)) (.nd (0≤i∧i<x.length) (.br (decide (x.getD i.toNat 0≥0)) (.br (decide (x.getD i.toNat 0<l.length))
 (.nd (0≤x.getD i.toNat 0∧x.getD i.toNat 0<l.length) (TK l u f x n i (l.getD (x.getD i.toNat 0).toNat ⟨#[]⟩))) (TK l u f x n i ⟨#[]⟩)) (TK l u f x n i ⟨#[]⟩))) (.lf (.out (u,f,())))
def nmN (f:MI) (x:List Int) (n i:Int):Prop:=0≤i∧i≤x.length∧n=x.length∧(f.row.length:Int)=i∧x.length≤1099511627776
theorem OF:eS ajd 0 0 nmL nmO [] fun((l:List ByteArray),(u:NuC),(f:MI),(x:List Int),(n:Int),(i:Int),_)=>.nd (nmN f x n i) (.lf (IP u f ((dO (x.drop i.toNat) l).reverse++f.row))):=by
 refine eY _ (nL _ _) 99 0 0 nmL nmO [] (fun((l:List ByteArray),(u:NuC),(f:MI),(x:List Int),(n:Int),(i:Int),_)=>nmT l u f x n i) (fun(_,_,_,(x:List Int),_,(i:Int),_)=>x.length-i.toNat) ?_;rintro⟨(l:List ByteArray),(u:NuC),(f:MI),(x:List Int),(n:Int),(i:Int),_⟩ r _ ⟨⟨h0,h1,rfl,h2,h3⟩,hr⟩;obtain⟨k,rfl⟩:∃k:Nat,i=k:=⟨i.toNat,by omega⟩;have hr:IP u f ((dO (x.drop k) l).reverse++f.row)=r:=hr;subst hr;show∃q,(nmT l u f x x.length k).hit q∧_;unfold nmT;rw[aak];by_cases hk:k<x.length
 ·rw[getD_drop 0 hk];obtain⟨s,hs⟩:∃s,nameAt l (x.getD k 0)=s:=⟨_,rfl⟩;have nx:nmN (f.put (s::f.row)) x x.length ((k:Int)+1):=⟨by omega,by omega,rfl,by show((s::f.row).length:Int)=_;rw[aaO];omega,h3⟩;have eq:IP u (f.put (s::f.row)) ((dO (x.drop (k+1)) l).reverse++s::f.row)=IP u f ((dO (x.getD k 0::x.drop (k+1)) l).reverse++f.row):=by
   unfold dO;rw[acg,ab8,abP,hs];rfl
  have dec:x.length-(k+1)<x.length-k:=by omega
  have bk:(TK l u f x x.length k s).hit (.back (l,u,f.put (s::f.row),x,(x.length:Int),(k:Int)+1,())):=⟨by omega,⟨by omega,by omega⟩,rfl⟩;have hZ:0≤(k:Int)∧(k:Int)<x.length:=⟨by omega,by omega⟩;by_cases h4:x.getD k 0<0
  ·rw[show s=⟨#[]⟩ by rw[←hs];exact if_neg (by omega)] at nx eq bk;exact⟨_,aZ (decide_eq_true (by omega)) ⟨hZ,bh (decide_eq_false (by omega)) bk⟩,dec,nx,eq⟩
  by_cases h5:(l.length:Int)≤x.getD k 0
  ·rw[show s=⟨#[]⟩ by rw[←hs];exact if_neg (by omega)] at nx eq bk;exact⟨_,aZ (decide_eq_true (by omega)) ⟨hZ,aZ (decide_eq_true (by omega)) (bh (decide_eq_false (by omega)) bk)⟩,dec,nx,eq⟩
  ·rw[show s=l.getD (x.getD k 0).toNat ⟨#[]⟩ by rw[←hs];exact if_pos ⟨by omega,by omega⟩] at nx eq bk;exact⟨_,aZ (decide_eq_true (by omega)) ⟨hZ,aZ (decide_eq_true (by omega)) (aZ (decide_eq_true (by omega)) ⟨⟨by omega,by omega⟩,bk⟩)⟩,dec,nx,eq⟩
 ·rw[aaL (by omega)];exact⟨_,bh (decide_eq_false (by omega)) rfl,rfl⟩
def nmR (k:ByteArray) (r:List ByteArray):XV:=.agg [.sym (.string k),.list .str r.reverse !r.isEmpty,.sym (.int .i64 0)]
theorem K4:av Tryz.prog 82 true (aU [(0,sS),(1,sD (.list tI)),(2,sL)] fun((k:ByteArray),(x:List Int),(l:List ByteArray),_)=>.nd (x.length≤1099511627776) (.lf (.agg (kS (.st 0) (⟨k,dO x l,0⟩:ar))))):=
 av.wk (l0:=[(0,sS),(1,sD (.list tI)),(2,sL)]) (F:=fun((k:ByteArray),(x:List Int),(l:List ByteArray),_)=>.nd (x.length≤1099511627776) (.lf (nmR k (dO x l).reverse)))
  (bC (C:=Cs1) ((nL _ _).add 0 _ OF) true 99 [(0,sS),(1,sD (.list tI)),(2,sL)] (fun((k:ByteArray),(x:List Int),(l:List ByteArray),_)=>.nd (nmN (k,[],(0:Int),()) x x.length 0) (.lf (nmR k ((dO (x.drop 0) l).reverse++[]))))
   (fun⟨(k:ByteArray),(x:List Int),(l:List ByteArray),_⟩ r _ ⟨h1,h⟩=>by
    obtain rfl:nmR k (dO x l).reverse=r:=h;refine⟨⟨⟨by omega,by omega,rfl,rfl,h1⟩,?_⟩,.inl rfl⟩;show nmR k _=_;rw[acr,acn]) Tryz.func82)
  fun⟨(k:ByteArray),(x:List Int),(l:List ByteArray),_⟩ r ⟨h1,h⟩=>⟨_,⟨h1,rfl⟩,by
   obtain rfl:XV.agg (kS (.st 0) (⟨k,dO x l,0⟩:ar))=r:=h;show XV.agg [.sym (.string k),.list .str (dO x l).reverse.reverse false,.sym (.int .i64 0)]=_;rw[aap];rfl⟩
noncomputable def Cs2:ik Tryz.prog:=dE CP [⟨_,_,_,G9⟩,⟨_,_,_,zg⟩,⟨_,_,_,wD⟩,⟨_,_,_,ui⟩] []
def scX (c:ae) (l:List ar):XV:=.agg [.sym (.string ah),.sym (.string c.name),.list (.st 0) ([jY aM c.method,gJ bb c.seats,gJ bM c.ranks]++l++[jY cT c.ties,jY aP c.over,jY cU c.skip,⟨bY,c.cands,0⟩]) true,.sym (.int .i64 0)]
def scE (c:ae) (n:Nat) (l:List ar):T XV:=.nd (cf c.ties) (.nd (cf c.over) (.nd (cf c.skip) (.nd (c.cands.length≤1099511627776) (.nd ((n+4)*49≤140737488355328) (.lf (scX c l))))))
def scB (c:ae):T XV:=.nd (cf c.method) (.nd (cf c.seats) (.nd (cf c.ranks) (.br (c.method==2) (.nd (cf c.digits) (.nd ((3+1)*49≤140737488355328) (scE c 4 [gJ ay c.digits]))) (scE c 3 []))))
theorem Be:av Tryz.prog 81 true (aU [(0,.st 3)] fun((c:ae),_)=>.nd (oU c) (.lf (.agg (kS (.st 1) (fl c))))):=
 (bC (C:=Cs2) (nL _ _) true 99 [(0,.st 3)] (G:=fun((c:ae),_)=>.nd (oU c) (.lf (scX c (if c.method=2 then[gJ ay c.digits] else[])))) (fun((c:ae),_)=>scB c)
  (fun⟨(c:ae),_⟩ r _ ⟨⟨h1,h2,h3,h4,h5,h6,h7,h8⟩,h⟩=>by
   obtain rfl:scX c (if c.method=2 then[gJ ay c.digits] else[])=r:=h;refine⟨⟨h1,h2,h3,?_⟩,.inl rfl⟩;by_cases hm:c.method=2
   ·rw[if_pos hm];exact aZ (beq_iff_eq.2 hm) ⟨h4,by omega,h5,h6,h7,by omega,by omega,rfl⟩
   ·rw[if_neg hm];exact bh (beq_eq_false_iff_ne.2 hm) ⟨h5,h6,h7,by omega,by omega,rfl⟩) Tryz.func81).wk
  fun⟨(c:ae),_⟩ r ⟨h0,h⟩=>⟨_,⟨h0,rfl⟩,h⟩
noncomputable def Cs3:ik Tryz.prog:=dE CP [⟨_,_,_,zg⟩,⟨_,_,_,wD⟩,⟨_,_,_,ui⟩,⟨_,_,_,K4⟩,⟨_,_,_,Be⟩,⟨_,_,_,Du⟩] []
noncomputable abbrev XT:=Tryz.f39
noncomputable abbrev Td:Rg Tryz.prog XT.ntmps:=Qw (vI Cs3 XT) [(9,[4])]
abbrev zeC:List CS:=[.d .str,.d tI,.d tI,.d tI,.d (.list .str),.d (.list (.st 3)),.d (.list (.st 4)),.d tI,.d tI,.d .bool,.d (.list .limb),.d (.list .limb),.d tI,.d .str]
abbrev zsC:List CS:=[.d .str,.own (.st 1) 91]
abbrev zvC:List CS:=[.d .str,.d (.list (.st 1))]
abbrev fH:=eT zeC
abbrev vV:=eT zsC
abbrev MH:=eT zvC
abbrev AU:SS:=.box 30 zeC
abbrev szS:SS:=.box 33 zsC
abbrev szV:SS:=.box 33 zvC
abbrev z0O:List (Nat×SS):=[(1,AU),(2,szV),(3,szS),(4,.c (.own .str 9))]
abbrev z0L:List (Nat×SS):=[(1,AU),(2,szV),(3,szS),(4,.c (.own .str 9)),(39,sD (.list (.st 3))),(40,sI),(41,sI)]
abbrev z1O:List (Nat×SS):=[(1,AU),(2,szV),(3,szS)]
abbrev z1L:List (Nat×SS):=[(1,AU),(2,szV),(3,szS),(4,sL),(59,sD (.list (.st 4))),(60,sI),(61,sI)]
def fH.pr (e:fH):List ByteArray:=e.2.2.2.2.1
def vV.bs (s:vV):List aw:=s.2.1
def vV.put (s:vV) (b:aw):vV:=(s.1,b::s.bs,())
def ae.z0:ae:=⟨⟨#[]⟩,[],0,0,0,0,0,0,0⟩
def aj.z0:aj:=⟨⟨#[]⟩,[],[]⟩
def Ie (e:fH) (v:MH) (s:vV) (l:List ByteArray):LE z0L z0O []:=.out (e,v,s,l,())
def z0E (e:fH) (v:MH) (s:vV) (l:List ByteArray) (cs:List ae) (n i:Int) (c:ae):T (LE z0L z0O []):=.nd (oU c) (.nd ((s.bs.length+1)*65≤140737488355328) (.nd ((l.length+1)*17≤140737488355328) (.nd (cf (i+1)) (.lf (.back (e,v,s.put (fl c),c.name::l,cs,n,i+1,()))))))
def z0T (e:fH) (v:MH) (s:vV) (l:List ByteArray) (cs:List ae) (n i:Int):T (LE z0L z0O []):=.br (decide (i<n)) (.nd (0≤i∧i<cs.length) (z0E e v s l cs n i (cs.getD i.toNat ae.z0))) (.lf (Ie e v s l))
def z0N (s:vV) (l:List ByteArray) (cs:List ae) (n i:Int):Prop:=0≤i∧i≤cs.length∧n=cs.length∧cs.length≤34359738368∧(∀c∈cs,oU c)∧(l.length:Int)=i∧s.bs.length≤3+i
theorem Tc:eS Td 0 0 z0L z0O [] fun((e:fH),(v:MH),(s:vV),(l:List ByteArray),(cs:List ae),(n:Int),(i:Int),_)=>.nd (z0N s l cs n i) (.lf (Ie e v (s.1,((cs.drop i.toNat).map fl).reverse++s.bs,()) (((cs.drop i.toNat).map ae.name).reverse++l))):=by
 refine eY _ (nL _ _) 99 0 0 z0L z0O [] (fun((e:fH),(v:MH),(s:vV),(l:List ByteArray),(cs:List ae),(n:Int),(i:Int),_)=>z0T e v s l cs n i)
  (fun(_,_,_,_,(cs:List ae),_,(i:Int),_)=>cs.length-i.toNat) ?_
 rintro⟨(e:fH),(v:MH),(s:vV),(l:List ByteArray),(cs:List ae),(n:Int),(i:Int),_⟩ r _ ⟨⟨h0,h1,rfl,h2,h3,h4,h5⟩,hr⟩;have hr:Ie e v (s.1,((cs.drop i.toNat).map fl).reverse++s.bs,()) (((cs.drop i.toNat).map ae.name).reverse++l)=r:=hr;obtain rfl:=hr;obtain⟨k,rfl⟩:∃k:Nat,i=k:=⟨i.toNat,by omega⟩;rw[aak];show∃q,(z0T e v s l cs cs.length k).hit q∧_;unfold z0T;by_cases hk:k<cs.length
 ·rw[getD_drop ae.z0 hk,aak];obtain⟨c,hc⟩:∃c,cs.getD k ae.z0=c:=⟨_,rfl⟩;have hcc:=h3 c (by rw[←hc,aai,aae hk];exact abF hk);rw[hc];refine⟨_,aZ (decide_eq_true (by omega)) ⟨⟨by omega,by omega⟩,hcc,by omega,by omega,⟨by omega,by omega⟩,rfl⟩,?_,⟨by omega,by omega,rfl,h2,h3,(show((l.length+1:Nat):Int)=(k:Int)+1 by omega),?_⟩,?_⟩
  ·show cs.length-(k+1)<cs.length-k;omega
  ·have:(s.put (fl c)).bs.length=s.bs.length+1:=rfl;omega
  ·show Ie e v (s.1,((cs.drop (k+1)).map fl).reverse++(fl c::s.bs),()) (((cs.drop (k+1)).map ae.name).reverse++(c.name::l))=_;rw[acg,acg,ab8,ab8,abP,abP];rfl
 ·rw[aaL (by omega)];exact⟨_,bh (decide_eq_false (by omega)) rfl,rfl⟩
def Ic (e:fH) (v:MH) (s:vV):LE z1L z1O []:=.out (e,v,s,())
def z1E (e:fH) (v:MH) (s:vV) (l:List ByteArray) (cs:List aj) (n i:Int) (y:aj):T (LE z1L z1O []):=.nd (y.prec.length≤1099511627776) (.nd (y.cont.length≤1099511627776) (.nd ((s.bs.length+1)*65≤140737488355328) (.nd (cf (i+1)) (.lf (.back (e,v,s.put (fw e.pr l y),l,cs,n,i+1,()))))))
def z1T (e:fH) (v:MH) (s:vV) (l:List ByteArray) (cs:List aj) (n i:Int):T (LE z1L z1O []):=.br (decide (i<n)) (.nd (0≤i∧i<cs.length) (z1E e v s l cs n i (cs.getD i.toNat aj.z0))) (.lf (Ic e v s))
def z1N (s:vV) (cs:List aj) (n i:Int):Prop:=0≤i∧i≤cs.length∧n=cs.length∧cs.length≤34359738367∧(∀y∈cs,y.prec.length≤274877906944∧y.cont.length≤274877906944)∧s.bs.length≤34359738371+i
theorem Tb:eS Td 1 2 z1L z1O [] fun((e:fH),(v:MH),(s:vV),(l:List ByteArray),(cs:List aj),(n:Int),(i:Int),_)=>.nd (z1N s cs n i) (.lf (Ic e v (s.1,((cs.drop i.toNat).map (fw e.pr l)).reverse++s.bs,()))):=by
 refine eY _ (nL _ _) 99 1 2 z1L z1O [] (fun((e:fH),(v:MH),(s:vV),(l:List ByteArray),(cs:List aj),(n:Int),(i:Int),_)=>z1T e v s l cs n i)
  (fun(_,_,_,_,(cs:List aj),_,(i:Int),_)=>cs.length-i.toNat) ?_
 rintro⟨(e:fH),(v:MH),(s:vV),(l:List ByteArray),(cs:List aj),(n:Int),(i:Int),_⟩ r _ ⟨⟨h0,h1,rfl,h2,h3,h5⟩,hr⟩;have hr:Ic e v (s.1,((cs.drop i.toNat).map (fw e.pr l)).reverse++s.bs,())=r:=hr;obtain rfl:=hr;obtain⟨k,rfl⟩:∃k:Nat,i=k:=⟨i.toNat,by omega⟩;rw[aak];show∃q,(z1T e v s l cs cs.length k).hit q∧_;unfold z1T;by_cases hk:k<cs.length
 ·rw[getD_drop aj.z0 hk,aak];obtain⟨y,hy⟩:∃y,cs.getD k aj.z0=y:=⟨_,rfl⟩;obtain⟨WU,Sg⟩:=h3 y (by rw[←hy,aai,aae hk];exact abF hk);rw[hy];refine⟨_,aZ (decide_eq_true (by omega)) ⟨⟨by omega,by omega⟩,by omega,by omega,by omega,⟨by omega,by omega⟩,rfl⟩,?_,⟨by omega,by omega,rfl,h2,h3,?_⟩,?_⟩
  ·show cs.length-(k+1)<cs.length-k;omega
  ·have:(s.put (fw e.pr l y)).bs.length=s.bs.length+1:=rfl;omega
  ·show Ic e v (s.1,((cs.drop (k+1)).map (fw e.pr l)).reverse++(fw e.pr l y::s.bs),())=_;rw[acg,ab8,abP];rfl
 ·rw[aaL (by omega)];exact⟨_,bh (decide_eq_false (by omega)) rfl,rfl⟩
def zR3 (e:aa):List aw:=[⟨af,⟨#[]⟩,[⟨bP,e.prec,0⟩],0⟩,⟨ak,⟨#[]⟩,[gJ bQ e.scan,gJ bR e.batch],0⟩,⟨aH,⟨#[]⟩,[gJ cV e.dots,gJ bi e.blank,gJ aW e.marked],0⟩]
def zS0 (e:aa):vV:=(e.title,zR3 e,())
def zL (e:aa):List ByteArray:=(((e.cont.drop (Int.toNat 0)).map ae.name).reverse++[]).reverse
def zS1 (e:aa):vV:=(e.title,((e.cont.drop (Int.toNat 0)).map fl).reverse++zR3 e,())
def zB2 (e:aa):List aw:=((e.styl.drop (Int.toNat 0)).map (fw e.prec (zL e))).reverse++(zS1 e).bs
def zF (e:aa):List aw:=⟨aN,⟨#[]⟩,[gJ dm e.cell],0⟩::⟨aJ,⟨#[]⟩,[⟨bH,[⟨(iC e.risk.q).toArray⟩],0⟩,⟨cz,[e.seed],0⟩],0⟩::zB2 e
def zX (e:aa) (l:List aw):XV:=.agg [.sym (.string e.title),.list (.st 1) l true]
def zT (e:aa):T XV:=.nd (cf e.dots) (.nd (cf e.blank) (.nd (cf e.marked) (.nd (cf e.scan) (.nd (cf e.batch) (.nd (e.prec.length≤1099511627776) (.nd (z0N (zS0 e) [] e.cont e.cont.length 0) (.nd (z1N (zS1 e) e.styl e.styl.length 0)
 (.nd (e.risk.short 67108864) (.nd (cf e.cell) (.nd (((zB2 e).length+2)*65≤140737488355328) (.lf (zX e (zF e).reverse))))))))))))
theorem ac1 (e:aa):(zF e).reverse=(eX e).blocks:=by
 unfold zF zB2 zS1 zL zR3 eX vV.bs;simp
theorem CZ:av Tryz.prog 39 true (aU [(0,.st 5)] fun((e:aa),_)=>.nd (dV e) (.lf (.agg (kS (.st 2) (eX e))))):=
 (vF (R:=Td) (((nL Td XT).add 0 _ Tc).add 1 _ Tb) true 99 [(0,.st 5)] (G:=fun((e:aa),_)=>.nd (dV e) (.lf (zX e (eX e).blocks))) (fun((e:aa),_)=>zT e) (fun⟨(e:aa),_⟩ r hb ⟨h0,h⟩=>by
  obtain rfl:zX e (eX e).blocks=r:=h;have e0:(zB2 e).length=e.styl.length+(e.cont.length+3):=by
   unfold zB2 zS1 vV.bs zR3;simp
  have e1:(zS1 e).bs.length=e.cont.length+3:=by
   unfold zS1 vV.bs zR3;simp
  have l1:=h0.lc;have l2:=h0.ls;have l3:=h0.lp;refine⟨⟨h0.dots,h0.blank,h0.marked,h0.scan,h0.batch,by omega,⟨by omega,adA _,rfl,l1,h0.conts,rfl,by show(3:Int)≤3+0;omega⟩,⟨by omega,adA _,rfl,l2,h0.styls,by rw[e1];omega⟩,h0.short,h0.cell,by rw[e0];omega,?_⟩,.inl rfl⟩;rw[ac1];rfl) Tryz.func39).wk
  fun⟨(e:aa),_⟩ r ⟨h0,h⟩=>⟨_,⟨h0,rfl⟩,h⟩
def nK (x:Int):List Int→Nat→Int
 | [],_=>-1
 | y::l,i=>if x=y then(i:Int) else nK x l (i+1)
theorem Ea (x:Int):∀(l:List Int) (i:Nat),(0≤nK x l i↔x∈l)
 | [],i=>by simp[nK]
 | y::l,i=>by
  unfold nK;by_cases h:x=y
  ·rw[if_pos h];simp[h]
  ·rw[if_neg h,Ea x l (i+1)];simp[h]
noncomputable abbrev aez:=Tryz.f97
noncomputable abbrev aex:Rg Tryz.prog aez.ntmps:=vI C0 aez
abbrev Dh:SS:=sD (.list tI)
abbrev Ut:List (Nat×SS):=[(0,Dh),(1,sI),(7,sI),(8,sI)]
def Zs (l:List Int) (x n i:Int):T (LE Ut [] []):=.br (decide (i<n)) (.nd (0≤i∧i<l.length) (.br (x==l.getD i.toNat 0) (.lf (.ret (aI i) ())) (.nd (cf (i+1)) (.lf (.back (l,x,n,i+1,())))))) (.lf (.out ()))
def aey (v:Int):T (LE Ut [] []):=.br (v== -1) (.lf (.out ())) (.lf (.ret (aI v) ()))
theorem Zr:eS aex 0 0 Ut [] [] fun((l:List Int),(x:Int),(n:Int),(i:Int),_)=>.nd (0≤i∧i≤l.length∧n=l.length∧l.length≤1099511627776) (aey (nK x (l.drop i.toNat) i.toNat)):=by
 refine eY _ (nL _ _) 99 0 0 Ut [] [] (fun((l:List Int),(x:Int),(n:Int),(i:Int),_)=>Zs l x n i) (fun((l:List Int),_,_,(i:Int),_)=>l.length-i.toNat) ?_;rintro⟨(l:List Int),(x:Int),(n:Int),(i:Int),_⟩ r _ ⟨⟨h0,h1,rfl,h2⟩,hr⟩;obtain⟨k,rfl⟩:∃k:Nat,i=k:=⟨i.toNat,by omega⟩;have hr:(aey (nK x (l.drop k) k)).hit r:=hr;show∃q,(Zs l x l.length k).hit q∧_;unfold Zs;rw[aak];by_cases hk:k<l.length
 ·rw[getD_drop (0:Int) hk] at hr;obtain⟨a,ha⟩:∃a,l.getD k 0=a:=⟨_,rfl⟩;rw[ha] at hr ⊢;have hZ:0≤(k:Int)∧(k:Int)<l.length:=⟨by omega,by omega⟩;unfold nK at hr;by_cases hx:x=a
  ·rw[if_pos hx] at hr;have hq:((k:Int)== -1)=false:=beq_eq_false_iff_ne.2 (by omega);exact⟨.ret (aI k) (),aZ (decide_eq_true (by omega)) ⟨hZ,aZ (beq_iff_eq.2 hx) rfl⟩,hr.2 hq⟩
  ·rw[if_neg hx] at hr;exact⟨.back (l,x,(l.length:Int),(k:Int)+1,()),aZ (decide_eq_true (by omega)) ⟨hZ,bh (beq_eq_false_iff_ne.2 hx) ⟨⟨by omega,by omega⟩,rfl⟩⟩,(by show l.length-(k+1)<l.length-k;omega),⟨by omega,by omega,rfl,h2⟩,hr⟩
 ·rw[aaL (by omega)] at hr;exact⟨.out (),bh (decide_eq_false (by omega)) rfl,hr.1 rfl⟩
def aeA (l:List Int) (x:Int):T XV:=.nd ((0:Int)≤0∧(0:Int)≤l.length∧(l.length:Int)=l.length∧l.length≤1099511627776) (.br (nK x (l.drop (Int.toNat 0)) (Int.toNat 0)== -1) (.lf (aI (-1))) (.lf (aI (nK x (l.drop (Int.toNat 0)) (Int.toNat 0)))))
theorem ZF:av Tryz.prog 97 false (aU [(0,Dh),(1,sI)] fun((l:List Int),(x:Int),_)=>.nd (l.length≤1099511627776) (.lf (aI (nK x l 0)))):=
 (bC (C:=C0) ((nL _ _).add 0 _ Zr) false 99 [(0,Dh),(1,sI)] (G:=fun((l:List Int),(x:Int),_)=>aeA l x) (fun((l:List Int),(x:Int),_)=>aeA l x) (fun⟨_,_,_⟩ r _ h=>⟨h,.inr (by obtain⟨_,h⟩:=h;rcases hB h with⟨_,h⟩|⟨_,h⟩<;>(obtain rfl:=h;rfl))⟩) Tryz.func97).imp fun⟨(l:List Int),(x:Int),_⟩ r hr=>by
  obtain⟨h0,rfl⟩:=hr;show∃q,(T.nd _ (.br (nK x l 0== -1) (.lf (aI (-1))) (.lf (aI (nK x l 0))))).hit q∧_;by_cases h:nK x l 0= -1
  ·exact⟨_,⟨⟨by omega,by omega,rfl,h0⟩,aZ (beq_iff_eq.2 h) rfl⟩,fun w S v hv=>by rw[h];exact hv⟩
  ·exact⟨_,⟨⟨by omega,by omega,rfl,h0⟩,bh (beq_eq_false_iff_ne.2 h) rfl⟩,fun w S v hv=>hv⟩
noncomputable def anx:ik Tryz.prog:=dE CP [⟨_,_,_,ZF⟩] []
theorem UY:av Tryz.prog 48 false (aU [(0,Dh),(1,sI)] fun((l:List Int),(x:Int),_)=>.nd (l.length≤1099511627776) (.lf (aB (decide (nK x l 0≥0))))):=
 bC (C:=anx) (nL _ _) false 99 [(0,Dh),(1,sI)] (fun((l:List Int),(x:Int),_)=>.nd (l.length≤1099511627776) (.lf (aB (decide (nK x l 0≥0))))) (fun⟨(l:List Int),(x:Int),_⟩ r _ h=>⟨h,.inr (by obtain⟨_,rfl⟩:=h;rfl)⟩) Tryz.func48
noncomputable def No (t:TypeId):Option Ty:=List.lookup t [(3,.st 27),(42,.st 4),(30,.st 5)]
noncomputable def anw:ik Tryz.prog:=dE No [⟨_,_,_,UY⟩] []
theorem S6:av Tryz.prog 47 false (aU [(0,.st 4),(1,.rf 27)] fun((s:aj),(x:FB),_)=>.nd (s.prec.length≤1099511627776) (.lf (aB (decide (nK x.1 s.prec 0≥0))))):=
 bC (C:=anw) (nL _ _) false 99 [(0,.st 4),(1,.rf 27)] (fun((s:aj),(x:FB),_)=>.nd (s.prec.length≤1099511627776) (.lf (aB (decide (nK x.1 s.prec 0≥0))))) (fun⟨(s:aj),(x:FB),_⟩ r _ h=>⟨h,.inr (by obtain⟨_,rfl⟩:=h;rfl)⟩) Tryz.func47
abbrev XP:FuncId:=47
def fP (p:Int):List aj→Nat→Int
 | [],_=>-1
 | s::l,i=>if p∈s.prec then(i:Int) else fP p l (i+1)
noncomputable def agX:ik Tryz.prog:=dE No [⟨_,_,_,S6⟩] []
noncomputable abbrev aeD:=Tryz.f46
noncomputable abbrev aeB:Rg Tryz.prog aeD.ntmps:=vI agX aeD
abbrev sYs:SS:=sD (.list (.st 4))
abbrev Zv:List (Nat×SS):=[(0,sYs),(1,.cl XP (.st 27)),(7,sI),(8,sI)]
abbrev abV:=LE Zv [] []
def ajz (l:List aj) (x:FB) (n i:Int) (s:aj):T abV:=.nd (s.prec.length≤1099511627776) (.br (decide (nK x.1 s.prec 0≥0)) (.lf (.ret (aI i) ())) (.nd (cf (i+1)) (.lf (.back (l,x,n,i+1,())))))
def Zu (l:List aj) (x:FB) (n i:Int):T abV:=.br (decide (i<n)) (.nd (0≤i∧i<l.length) (ajz l x n i (l.getD i.toNat aj.z0))) (.lf (.out ()))
def aeC (v:Int):T abV:=.br (v== -1) (.lf (.out ())) (.lf (.ret (aI v) ()))
def wA (l:List aj) (n i:Int):Prop:=0≤i∧i≤l.length∧n=l.length∧l.length≤1099511627776∧∀s∈l,s.prec.length≤1099511627776
theorem Zt:eS aeB 0 0 Zv [] [] fun((l:List aj),(x:FB),(n:Int),(i:Int),_)=>.nd (wA l n i) (aeC (fP x.1 (l.drop i.toNat) i.toNat)):=by
 refine eY _ (nL _ _) 99 0 0 Zv [] [] (fun((l:List aj),(x:FB),(n:Int),(i:Int),_)=>Zu l x n i) (fun((l:List aj),_,_,(i:Int),_)=>l.length-i.toNat) ?_;rintro⟨(l:List aj),(x:FB),(n:Int),(i:Int),_⟩ r _ ⟨⟨h0,h1,rfl,h2,h3⟩,hr⟩;obtain⟨k,rfl⟩:∃k:Nat,i=k:=⟨i.toNat,by omega⟩;have hr:(aeC (fP x.1 (l.drop k) k)).hit r:=hr;show∃q,(Zu l x l.length k).hit q∧_;unfold Zu;rw[aak];by_cases hk:k<l.length
 ·rw[getD_drop aj.z0 hk] at hr;obtain⟨a,ha⟩:∃a,l.getD k aj.z0=a:=⟨_,rfl⟩;have hs:=h3 a (by rw[←ha,aai,aae hk];exact abF hk);rw[ha] at hr ⊢;have hZ:0≤(k:Int)∧(k:Int)<l.length:=⟨by omega,by omega⟩;have hm:=Ea x.1 a.prec 0;unfold fP at hr;by_cases hx:x.1∈a.prec
  ·rw[if_pos hx] at hr;have hq:((k:Int)== -1)=false:=beq_eq_false_iff_ne.2 (by omega);exact⟨.ret (aI k) (),aZ (decide_eq_true (by omega)) ⟨hZ,hs,aZ (decide_eq_true (hm.2 hx)) rfl⟩,hr.2 hq⟩
  ·rw[if_neg hx] at hr;exact⟨.back (l,x,(l.length:Int),(k:Int)+1,()),aZ (decide_eq_true (by omega)) ⟨hZ,hs,bh (decide_eq_false fun h=>hx (hm.1 h)) ⟨⟨by omega,by omega⟩,rfl⟩⟩,(by show l.length-(k+1)<l.length-k;omega),⟨by omega,by omega,rfl,h2,h3⟩,hr⟩
 ·rw[aaL (by omega)] at hr;exact⟨.out (),bh (decide_eq_false (by omega)) rfl,hr.1 rfl⟩
def aeE (l:List aj) (x:FB):T XV:=.nd (wA l l.length 0) (.br (fP x.1 (l.drop (Int.toNat 0)) (Int.toNat 0)== -1) (.lf (aI (-1))) (.lf (aI (fP x.1 (l.drop (Int.toNat 0)) (Int.toNat 0)))))
theorem Pv:av Tryz.prog 46 false (aU [(0,sYs),(1,.cl XP (.st 27))] fun((l:List aj),(x:FB),_)=>.nd (wA l l.length 0) (.lf (aI (fP x.1 l 0)))):=
 (bC (C:=agX) ((nL _ _).add 0 _ Zt) false 99 [(0,sYs),(1,.cl XP (.st 27))] (G:=fun((l:List aj),(x:FB),_)=>aeE l x) (fun((l:List aj),(x:FB),_)=>aeE l x) (fun⟨_,_,_⟩ r _ h=>⟨h,.inr (by obtain⟨_,h⟩:=h;rcases hB h with⟨_,h⟩|⟨_,h⟩<;>(obtain rfl:=h;rfl))⟩) Tryz.func46).imp fun⟨(l:List aj),(x:FB),_⟩ r hr=>by
  obtain⟨h0,rfl⟩:=hr;show∃q,(T.nd _ (.br (fP x.1 l 0== -1) (.lf (aI (-1))) (.lf (aI (fP x.1 l 0))))).hit q∧_;by_cases h:fP x.1 l 0= -1
  ·exact⟨_,⟨h0,aZ (beq_iff_eq.2 h) rfl⟩,fun w S v hv=>by rw[h];exact hv⟩
  ·exact⟨_,⟨h0,bh (beq_eq_false_iff_ne.2 h) rfl⟩,fun w S v hv=>hv⟩
noncomputable def anv:ik Tryz.prog:=dE No [⟨_,_,_,Pv⟩] []
theorem Ns:av Tryz.prog 18 true (aU [(0,.st 5),(1,sI)] fun((e:aa),(p:Int),_)=>.nd (wA e.styl e.styl.length 0) (.lf (aI (fP p e.styl 0)))):=
 bC (C:=anv) (nL _ _) true 99 [(0,.st 5),(1,sI)] (fun((e:aa),(p:Int),_)=>.nd (wA e.styl e.styl.length 0) (.lf (aI (fP p e.styl 0)))) (fun _ _ _ h=>⟨h,.inl rfl⟩) Tryz.func18
noncomputable abbrev rsF:=Tryz.f19
noncomputable abbrev adD:Rg Tryz.prog rsF.ntmps:=vI C0 rsF
abbrev Ym:List (Nat×SS):=[(1,sI),(2,AU),(5,sI),(20,Dh),(21,sI),(22,sI)]
abbrev Yl:List (Nat×SS):=[(1,sI),(2,AU),(5,sI)]
abbrev agt:=LE Ym Yl []
def Yk (p:Int) (e:fH) (i:Int) (l:List Int) (n k:Int):T agt:=.br (decide (k<n)) (.nd (0≤k∧k<l.length) (.br (l.getD k.toNat 0==p) (.lf (.ret (aI i) ())) (.nd (cf (k+1)) (.lf (.back (p,e,i,l,n,k+1,())))))) (.lf (.out (p,e,i,())))
def adE (p:Int) (e:fH) (i:Int) (b:Bool):T agt:=.br b (.lf (.ret (aI i) ())) (.lf (.out (p,e,i,())))
theorem NR:eS adD 1 2 Ym Yl [] fun((p:Int),(e:fH),(i:Int),(l:List Int),(n:Int),(k:Int),_)=>.nd (0≤k∧k≤l.length∧n=l.length∧l.length≤1099511627776) (adE p e i (decide (p∈l.drop k.toNat))):=by
 refine eY _ (nL _ _) 99 1 2 Ym Yl [] (fun((p:Int),(e:fH),(i:Int),(l:List Int),(n:Int),(k:Int),_)=>Yk p e i l n k) (fun(_,_,_,(l:List Int),_,(k:Int),_)=>l.length-k.toNat) ?_;rintro⟨(p:Int),(e:fH),(i:Int),(l:List Int),(n:Int),(k:Int),_⟩ r _ ⟨⟨h0,h1,rfl,h2⟩,hr⟩;obtain⟨k,rfl⟩:∃q:Nat,k=q:=⟨k.toNat,by omega⟩;have hr:(adE p e i (decide (p∈l.drop k))).hit r:=hr;show∃q,(Yk p e i l l.length k).hit q∧_;unfold Yk;rw[aak];by_cases hk:k<l.length
 ·rw[getD_drop (0:Int) hk] at hr;obtain⟨a,ha⟩:∃a,l.getD k 0=a:=⟨_,rfl⟩;rw[ha] at hr ⊢;have hZ:0≤(k:Int)∧(k:Int)<l.length:=⟨by omega,by omega⟩;by_cases hx:a=p
  ·rw[decide_eq_true (by rw[hx];exact aaw)] at hr;exact⟨.ret (aI i) (),aZ (decide_eq_true (by omega)) ⟨hZ,aZ (beq_iff_eq.2 hx) rfl⟩,hr.1 rfl⟩
  ·rw[show decide (p∈a::l.drop (k+1))=decide (p∈l.drop (k+1)) from decide_eq_decide.2 ⟨fun h=>by rcases aaP.1 h with h|h;exact absurd h.symm hx;exact h,fun h=>aaN _ h⟩] at hr;exact⟨.back (p,e,i,l,(l.length:Int),(k:Int)+1,()),aZ (decide_eq_true (by omega)) ⟨hZ,bh (beq_eq_false_iff_ne.2 hx) ⟨⟨by omega,by omega⟩,rfl⟩⟩,(by show l.length-(k+1)<l.length-k;omega),⟨by omega,by omega,rfl,h2⟩,hr⟩
 ·rw[aaL (by omega)] at hr;exact⟨.out (p,e,i,()),bh (decide_eq_false (by omega)) rfl,hr.2 (by simp)⟩
def fH.st (e:fH):List aj:=e.2.2.2.2.2.2.1
abbrev Yo:List (Nat×SS):=[(1,sI),(2,AU),(5,sI)]
abbrev abQ:=LE Yo [] []
def aiV (p:Int) (e:fH) (i:Int) (s:aj):T abQ:=.nd ((0:Int)≤0∧(0:Int)≤s.prec.length∧(s.prec.length:Int)=s.prec.length∧s.prec.length≤1099511627776) (.br (decide (p∈s.prec.drop (Int.toNat 0))) (.lf (.ret (aI i) ())) (.nd (cf (i+1)) (.lf (.back (p,e,i+1,())))))
def Yn (p:Int) (e:fH) (i:Int):T abQ:=.br (decide (i<e.st.length)) (.nd (0≤i∧i<e.st.length) (aiV p e i (e.st.getD i.toNat aj.z0))) (.lf (.out ()))
def adF (v:Int):T abQ:=.br (v== -1) (.lf (.out ())) (.lf (.ret (aI v) ()))
theorem Yj:eS adD 0 0 Yo [] [] fun((p:Int),(e:fH),(i:Int),_)=>.nd (wA e.st e.st.length i) (adF (fP p (e.st.drop i.toNat) i.toNat)):=by
 refine eY _ ((nL _ _).add 1 _ NR) 99 0 0 Yo [] [] (fun((p:Int),(e:fH),(i:Int),_)=>Yn p e i) (fun(_,(e:fH),(i:Int),_)=>e.st.length-i.toNat) ?_;rintro⟨(p:Int),(e:fH),(i:Int),_⟩ r _ ⟨⟨h0,h1,_,h2,h3⟩,hr⟩;obtain⟨k,rfl⟩:∃k:Nat,i=k:=⟨i.toNat,by omega⟩;have hr:(adF (fP p (e.st.drop k) k)).hit r:=hr;show∃q,(Yn p e k).hit q∧_;unfold Yn;rw[aak];by_cases hk:k<e.st.length
 ·rw[getD_drop aj.z0 hk] at hr;obtain⟨a,ha⟩:∃a,e.st.getD k aj.z0=a:=⟨_,rfl⟩;have hs:=h3 a (by rw[←ha,aai,aae hk];exact abF hk);rw[ha] at hr ⊢;have hZ:0≤(k:Int)∧(k:Int)<e.st.length:=⟨by omega,by omega⟩;unfold fP at hr;by_cases hx:p∈a.prec
  ·rw[if_pos hx] at hr;have hq:((k:Int)== -1)=false:=beq_eq_false_iff_ne.2 (by omega);exact⟨.ret (aI k) (),aZ (decide_eq_true (by omega)) ⟨hZ,⟨by omega,by omega,rfl,hs⟩,aZ (decide_eq_true hx) rfl⟩,hr.2 hq⟩
  ·rw[if_neg hx] at hr;exact⟨.back (p,e,(k:Int)+1,()),aZ (decide_eq_true (by omega)) ⟨hZ,⟨by omega,by omega,rfl,hs⟩,bh (decide_eq_false hx) ⟨⟨by omega,by omega⟩,rfl⟩⟩,(by show e.st.length-(k+1)<e.st.length-k;omega),⟨by omega,by omega,rfl,h2,h3⟩,hr⟩
 ·rw[aaL (by omega)] at hr;exact⟨.out (),bh (decide_eq_false (by omega)) rfl,hr.1 rfl⟩
def rsB (e:aa) (p:Int):T XV:=.nd (wA e.styl e.styl.length 0) (.br (fP p (e.styl.drop (Int.toNat 0)) (Int.toNat 0)== -1) (.lf (aI (-1))) (.lf (aI (fP p (e.styl.drop (Int.toNat 0)) (Int.toNat 0)))))
theorem KA:av Tryz.prog 19 false (aU [(0,.st 5),(1,sI)] fun((e:aa),(p:Int),_)=>.nd (wA e.styl e.styl.length 0) (.lf (aI (fP p e.styl 0)))):=
 (bC (C:=C0) (((nL _ _).add 1 _ NR).add 0 _ Yj) false 99 [(0,.st 5),(1,sI)] (G:=fun((e:aa),(p:Int),_)=>rsB e p) (fun((e:aa),(p:Int),_)=>rsB e p) (fun⟨_,_,_⟩ r _ h=>⟨h,.inr (by obtain⟨_,h⟩:=h;rcases hB h with⟨_,h⟩|⟨_,h⟩<;>(obtain rfl:=h;rfl))⟩) Tryz.func19).imp fun⟨(e:aa),(p:Int),_⟩ r hr=>by
  obtain⟨h0,rfl⟩:=hr;show∃q,(T.nd _ (.br (fP p e.styl 0== -1) (.lf (aI (-1))) (.lf (aI (fP p e.styl 0))))).hit q∧_;by_cases h:fP p e.styl 0= -1
  ·exact⟨_,⟨h0,aZ (beq_iff_eq.2 h) rfl⟩,fun w S v hv=>by rw[h];exact hv⟩
  ·exact⟨_,⟨h0,bh (beq_eq_false_iff_ne.2 h) rfl⟩,fun w S v hv=>hv⟩
theorem Oi:av Tryz.prog 115 false (aU [(0,.rf 23),(1,sI)] fun((s:V0),(n:Int),_)=>.nd (0≤s.2.2.2.2.1∧s.2.2.2.2.1≤1000∧0≤n∧n≤1000) (.lf (aI (3+2*s.2.2.2.2.1*n)))):=
 bC (C:=C0) (nL _ _) false 99 [(0,.rf 23),(1,sI)] (fun((s:V0),(n:Int),_)=>.nd (cf (2*s.2.2.2.2.1)) (.nd (cf (2*s.2.2.2.2.1*n)) (.nd (cf (3+2*s.2.2.2.2.1*n)) (.lf (aI (3+2*s.2.2.2.2.1*n))))))
  (fun⟨(s:V0),(n:Int),_⟩ r _ ⟨⟨h0,h1,h2,h3⟩,h⟩=>by
   obtain rfl:aI (3+2*s.2.2.2.2.1*n)=r:=h;have h4:0≤2*s.2.2.2.2.1*n:=Int.mul_nonneg (by omega) h2;have h5:2*s.2.2.2.2.1*n≤2000*1000:=Int.mul_le_mul (by omega) h3 h2 (by omega);exact⟨⟨⟨by omega,by omega⟩,⟨by omega,by omega⟩,⟨by omega,by omega⟩,rfl⟩,.inr rfl⟩) Tryz.func115
theorem GV:av Tryz.prog 49 false (aU [(0,sL),(1,sL)] fun((xs:List ByteArray),(ys:List ByteArray),_)=>.lf (aB (decide (xs=ys)))):=Rc (t:=.str) (g:=fun(xs ys:List ByteArray)=>decide (xs=ys)) fun _ _ _ _ _ _ _ xs ys _ h1 h2=>An (xs:=xs) (ys:=ys) h1 h2
theorem GW:av Tryz.prog 50 false (Vi (t:=.st 3) 51 fun(xs ys:List ae)=>gU bc xs ys):=Xp (t:=.st 3) (q:=fun(xs ys:List ae)=>gU bc xs ys) fun _ _ _ _ _ _ _ xs ys _ h1 h2 hS=>Cd (xs:=xs) (ys:=ys) h1 h2 hS hS
theorem LO:av Tryz.prog 52 false (Vi (t:=.st 4) 53 fun(xs ys:List aj)=>gU bw xs ys):=Xp (t:=.st 4) (q:=fun(xs ys:List aj)=>gU bw xs ys) fun _ _ _ _ _ _ _ xs ys _ h1 h2 hS=>GU (xs:=xs) (ys:=ys) h1 h2 hS hS
noncomputable def Cs4:ik Tryz.prog:=dE uT [⟨_,_,_,GV⟩,⟨_,_,_,GW⟩,⟨_,_,_,LO⟩,⟨_,_,_,JG⟩] []
def aa4 (a b:aa):List Bool:=[a.title.toList==b.title.toList,a.dots==b.dots,a.blank==b.blank,a.marked==b.marked,decide (a.prec=b.prec),gU bc a.cont b.cont,gU bw a.styl b.styl,a.scan==b.scan,a.batch==b.batch]
def alH (a b:aa):T XV:=Mp (.lf (aB false)) (aa4 a b) (.nd (a.risk.short 67108864∧b.risk.short 67108864) (Mp (.lf (aB false)) [oK a.risk.q b.risk.flip.q==0,a.cell==b.cell] (.lf (aB (a.seed.toList==b.seed.toList)))))
theorem GR (a b:aa):kL a b=((aa4 a b).all id&&([oK a.risk.q b.risk.flip.q==0,a.cell==b.cell].all id&&(a.seed.toList==b.seed.toList))):=by
 rw[acQ];simp only[kL,aa4,acG,adw,id,eG,aaI,decide_eq_true_eq,beq_iff_eq,and_assoc,true_and]
theorem LM:av Tryz.prog 20 false (aU [(0,.st 5),(1,.st 5)] fun((a:aa),(b:aa),_)=>.nd (a.risk.short 67108864∧b.risk.short 67108864) (.lf (aB (kL a b)))):=
 bC (C:=Cs4) (nL _ _) false 99 [(0,.st 5),(1,.st 5)] (fun((a:aa),(b:aa),_)=>alH a b)
  (fun⟨(a:aa),(b:aa),_⟩ r _ ⟨h0,h⟩=>by
   obtain rfl:aB (kL a b)=r:=h;refine⟨?_,.inr rfl⟩;rw[GR];refine sY (ret:=.lf (aB false)) (r:=aB) rfl _ fun _=>⟨h0,?_⟩;exact sY (ret:=.lf (aB false)) (t:=.lf (aB (a.seed.toList==b.seed.toList))) (r:=aB) rfl _ fun _=>rfl) Tryz.func20
abbrev csV:List CS:=[.mp .s tI,.mp .s (.list .str),.mp .s tI,.d .bool,.d (.list .limb),.d (.list .limb),.d .str]
abbrev sV:SS:=.box 180 csV
abbrev pV:List Nat:=[0]
abbrev VX:=eT csV
abbrev uP (r:XV) (x:VX):XV×VX×Unit:=(r,x,())
noncomputable def Nn (t:TypeId):Option Ty:=List.lookup t [(9,.str),(3,tI),(4,.bool),(22,.list .str)]
noncomputable def CV1:ik Tryz.prog:=dE Nn [⟨_,_,_,IN⟩,⟨_,_,_,Vs⟩,⟨_,_,_,Qy⟩,⟨_,_,_,JG⟩] []
def VX.setR (x:VX) (r:Raw):VX:=(x.1,x.2.1,x.2.2.1,r.neg,r.num,r.den,x.2.2.2.2.2.2)
def VX.wr (x:VX):Option Raw→VX
 | none=>x
 | some r=>x.setR r
def szB (s:ByteArray):Prop:=s.size≤9223372036854775807
def SQ (l:List UInt8):ByteArray:=⟨l.toArray⟩
def ai1 (x:VX) (s:ByteArray):T (XV×VX×Unit):=
 .nd (szB s∧(⟨#[47]⟩:ByteArray)=⟨#[47]⟩) (.nd (szB (SQ (ek s.data.toList))) (.nd (szB (SQ (dQ s.data.toList)))
 (.br (!(ck (ek s.data.toList)).2) (.lf (uP (aI 5) x)) (.br (!(ck (dQ s.data.toList)).2) (.lf (uP (aI 5) x)) (.nd (cf (ck (ek s.data.toList)).1∧cf (ck (dQ s.data.toList)).1)
 (.br ((ck (dQ s.data.toList)).1==0) (.lf (uP (aI 4) x)) (.nd (cf 1∧cf 1000) (.nd ((fN (ck (ek s.data.toList)).1 (ck (dQ s.data.toList)).1).raw.short 67108864∧(fN 1 1000).raw.short 67108864)
 (.br (decide (pF (fN (ck (ek s.data.toList)).1 (ck (dQ s.data.toList)).1) (fN 1 1000)<0)) (.lf (uP (aI 4) x)) (.nd (cf 1∧cf 2) (.nd ((fN (ck (ek s.data.toList)).1 (ck (dQ s.data.toList)).1).raw.short 67108864∧(fN 1 2).raw.short 67108864)
 (.br (decide (pF (fN (ck (ek s.data.toList)).1 (ck (dQ s.data.toList)).1) (fN 1 2)>0)) (.lf (uP (aI 4) x)) (.lf (uP (aI 0) (x.setR (fN (ck (ek s.data.toList)).1 (ck (dQ s.data.toList)).1).raw)))))))))))))))
theorem abh (l:List UInt8):(ek l).length≤l.length∧(dQ l).length≤l.length:=by
 unfold ek dQ;have h:=congrArg List.length (List.takeWhile_append_dropWhile (p:=(· !=47)) (l:=l));rw[aaD] at h;rw[acv];omega
theorem m0 {a b:Int} (ha:cf a) (hb:cf b):(fN a b).raw.short 67108864:=by
 unfold cf at ha hb;obtain⟨h1,h2⟩:=zA (decide (a<0) !=decide (b<0)) a.natAbs b.natAbs (by omega) (by omega);exact⟨aaM h1 (by decide),aaM h2 (by decide)⟩
theorem Nh {s:ByteArray} {l:List UInt8} (h:szB s) (hl:l.length≤s.data.toList.length):szB (SQ l):=by
 unfold szB SQ at*;have:s.size=s.data.toList.length:=abM.symm;show l.toArray.size≤_;rw[ab6];omega
theorem IM (l:List UInt8):cf (ck l).1:=by have:=iw l;unfold cf;omega
theorem NX:gi Tryz.prog 195 pV [(0,sV),(1,sS)] [(0,sV)] fun((x:VX),(s:ByteArray),_)=>.nd (szB s) (.lf (uP (aI (iU s.data.toList).1) (x.wr (iU s.data.toList).2))):=
 kM (C:=CV1) (nL _ _) 99 [(0,sV),(1,sS)] [(0,sV)] (fun((x:VX),(s:ByteArray),_)=>ai1 x s) (fun⟨(x:VX),(s:ByteArray),_⟩ r _ ⟨hs,h⟩=>by
  obtain rfl:uP (aI (iU s.data.toList).1) (x.wr (iU s.data.toList).2)=r:=h;have hc:=abh s.data.toList;have i1:=IM (ek s.data.toList);have i2:=IM (dQ s.data.toList);have one:cf 1∧cf 1000:=by unfold cf;omega
  have two:cf 1∧cf 2:=by unfold cf;omega
  refine⟨⟨hs,rfl⟩,Nh hs hc.1,Nh hs hc.2,?_⟩;unfold iU;by_cases h1:(ck (ek s.data.toList)).2=false
  ·exact aZ (by rw[h1];rfl) (by rw[h1];rfl)
  by_cases h2:(ck (dQ s.data.toList)).2=false
  ·exact bh (by simpa using h1) (aZ (by rw[h2];rfl) (by rw[h2,Bool.and_false];rfl))
  rw[if_neg (by simp[h1,h2])];refine bh (by simpa using h1) (bh (by simpa using h2) ⟨⟨i1,i2⟩,?_⟩);by_cases h3:(ck (dQ s.data.toList)).1=0
  ·rw[if_pos (.inl h3)];exact aZ (by rw[h3];rfl) rfl
  refine bh (beq_false_of_ne h3) ⟨one,⟨m0 i1 i2,m0 one.1 one.2⟩,?_⟩;by_cases h4:pF (fN (ck (ek s.data.toList)).1 (ck (dQ s.data.toList)).1) (fN 1 1000)<0
  ·rw[if_pos (.inr (.inl h4))];exact aZ (decide_eq_true h4) rfl
  refine bh (decide_eq_false h4) ⟨two,⟨m0 i1 i2,m0 two.1 two.2⟩,?_⟩;by_cases h5:0<pF (fN (ck (ek s.data.toList)).1 (ck (dQ s.data.toList)).1) (fN 1 2)
  ·rw[if_pos (.inr (.inr h5))];exact aZ (decide_eq_true h5) rfl
  ·rw[if_neg (fun q=>q.elim h3 fun q=>q.elim h4 h5)];exact bh (decide_eq_false h5) rfl) Tryz.func195
def VX.setN (x:VX) (k:ByteArray) (v:Int):VX:=((x.1.1+1,mW .s x.1.2 k v),x.2)
def VX.num (x:VX) (k:ByteArray):Int:=(x.1.2 k).getD (0:Int)
def VX.setS (x:VX) (s:ByteArray):VX:=(x.1,x.2.1,x.2.2.1,x.2.2.2.1,x.2.2.2.2.1,x.2.2.2.2.2.1,s,())
def VX.v (x:VX):az:=⟨x.1.2,x.2.1.2,x.2.2.1.2,⟨x.2.2.2.1,x.2.2.2.2.1,x.2.2.2.2.2.1⟩,x.2.2.2.2.2.2.1⟩
def Jd (k:ByteArray) (x:VX):Prop:=Kt.ok .s k∧x.1.1<1000000000000
def ai9 (x:VX) (k s:ByteArray):T (XV×VX×Unit):=
 .br (!((aO k).isEmpty)) (.nd (cf (Lib.idxOfS (aO k) s+1)) (.nd (Jd k x) (.nd (Kt.ok .s k) (.br ((x.setN k (Lib.idxOfS (aO k) s+1)).num k==0) (.lf (uP (aI 2) (x.setN k (Lib.idxOfS (aO k) s+1)))) (.lf (uP (aI 0) (x.setN k (Lib.idxOfS (aO k) s+1))))))))
 (.br (k.toList==bH.toList) (.nd (szB s) (.lf (uP (aI (iU s.data.toList).1) (x.wr (iU s.data.toList).2))))
 (.br (k.toList==cz.toList) (.nd (dR s) (.br (!(dN s 0 24)) (.lf (uP (aI 8) x)) (.lf (uP (aI 0) (x.setS s)))))
 (.nd (szB s) (.br (!(ck s.data.toList).2) (.lf (uP (aI 5) x)) (.br (decide ((ck s.data.toList).1<(dZ k).1)) (.lf (uP (aI 4) x)) (.br (decide ((ck s.data.toList).1>(dZ k).2)) (.lf (uP (aI 4) x)) (.nd (Jd k x) (.lf (uP (aI 0) (x.setN k (ck s.data.toList).1))))))))))
noncomputable def CV2:ik Tryz.prog:=dE Nn [⟨_,_,_,IN⟩,⟨_,_,_,EX⟩,⟨_,_,_,Ji⟩,⟨_,_,_,zt⟩,⟨_,_,_,VH⟩] [⟨_,_,_,_,_,NX⟩]
def oo (k s:ByteArray) (x:VX):Int×VX:=
 if aO k≠[] then(if Lib.idxOfS (aO k) s+1=0 then 2 else 0,x.setN k (Lib.idxOfS (aO k) s+1))
 else if k=bH then((iU s.data.toList).1,x.wr (iU s.data.toList).2)
 else if k=cz then(if dN s 0 24 then(0,x.setS s) else(8,x))
 else if(ck s.data.toList).2=false then(5,x)
 else if(ck s.data.toList).1<(dZ k).1∨(dZ k).2<(ck s.data.toList).1 then(4,x)
 else(0,x.setN k (ck s.data.toList).1)
theorem KS {α:Type} (f:ByteArray→Option α) (k:ByteArray) (v:α):mW .s f k v=setF f k v:=by
 funext t
 by_cases h:t=k
 ·exact(if_pos (Kt.eqb_iff.2 h)).trans (if_pos h).symm
 ·exact(if_neg fun e=>h (Kt.eqb_iff.1 e)).trans (if_neg h).symm
theorem VX.v_setN (x:VX) (k:ByteArray) (v:Int):(x.setN k v).v={ x.v with num:=setF x.v.num k v }:=
 congrArg (fun f:ByteArray→Option Int=>(⟨f,x.2.1.2,x.2.2.1.2,⟨x.2.2.2.1,x.2.2.2.2.1,x.2.2.2.2.2.1⟩,x.2.2.2.2.2.2.1⟩:az)) (KS x.1.2 k v)
theorem VX.num_setN (x:VX) (k:ByteArray) (v:Int):(x.setN k v).num k=v:=congrArg (·.getD (0:Int)) (gQ (kt:=.s))
theorem VX.v_wr (x:VX) (r:Option Raw):(x.wr r).v=x.v.withRisk r:=by cases r<;>rfl
theorem YT (k s:ByteArray) (x:VX):wT k s x.v=((oo k s x).1,(oo k s x).2.v):=by
 unfold wT oo;split
 ·rw[VX.v_setN]
 split
 ·rw[VX.v_wr]
 split
 ·split<;>rfl
 split
 ·rfl
 split
 ·rfl
 ·rw[VX.v_setN]
theorem dR.szB {s:ByteArray} (h:dR s):szB s:=aaM h (by decide)
theorem Ou (k s:ByteArray) (x:VX):(oo k s x).2.1.1≤x.1.1+1∧(oo k s x).2.2.1=x.2.1∧(oo k s x).2.2.2.1=x.2.2.1:=by
 have hw:∀r:Option Raw,(x.wr r).1.1≤x.1.1+1∧(x.wr r).2.1=x.2.1∧(x.wr r).2.2.1=x.2.2.1:=fun r=>by cases r<;>exact⟨Nat.le_succ _,rfl,rfl⟩
 have h0:x.1.1≤x.1.1+1∧x.2.1=x.2.1∧x.2.2.1=x.2.2.1:=⟨Nat.le_succ _,rfl,rfl⟩;unfold oo;split
 ·exact⟨aaJ _,rfl,rfl⟩
 split
 ·exact hw _
 split
 ·split<;>exact h0
 split
 ·exact h0
 split
 ·exact h0
 ·exact⟨aaJ _,rfl,rfl⟩
theorem TC:gi Tryz.prog 148 pV [(0,sV),(1,sS),(2,sS)] [(0,sV)] fun((x:VX),(k:ByteArray),(s:ByteArray),_)=>.nd (Jd k x∧dR s) (.lf (uP (aI (oo k s x).1) (oo k s x).2)):=
 kM (C:=CV2) (nL _ _) 99 [(0,sV),(1,sS),(2,sS)] [(0,sV)] (fun((x:VX),(k:ByteArray),(s:ByteArray),_)=>ai9 x k s) (fun⟨(x:VX),(k:ByteArray),(s:ByteArray),_⟩ r _ ⟨⟨hk,hs⟩,h⟩=>by
  obtain rfl:uP (aI (oo k s x).1) (oo k s x).2=r:=h;unfold oo;by_cases h1:aO k=[]
  ·rw[if_neg (by simp[h1])];refine bh (by rw[h1];rfl) ?_;by_cases h2:k=bH
   ·rw[if_pos h2];exact aZ (by rw[h2];simp) ⟨hs.szB,rfl⟩
   refine bh (by rw[eG];exact decide_eq_false h2) ?_;rw[if_neg h2];by_cases h3:k=cz
   ·rw[if_pos h3];refine aZ (by rw[h3];simp) ⟨hs,?_⟩;cases h4:dN s 0 24
    ·exact aZ rfl rfl
    ·exact bh rfl rfl
   refine bh (by rw[eG];exact decide_eq_false h3) ⟨hs.szB,?_⟩;rw[if_neg h3];by_cases h4:(ck s.data.toList).2=false
   ·rw[if_pos h4];exact aZ (by rw[h4];rfl) rfl
   refine bh (by simpa using h4) ?_;rw[if_neg h4];by_cases h5:(ck s.data.toList).1<(dZ k).1
   ·rw[if_pos (.inl h5)];exact aZ (decide_eq_true h5) rfl
   refine bh (decide_eq_false h5) ?_;by_cases h6:(dZ k).2<(ck s.data.toList).1
   ·rw[if_pos (.inr h6)];exact aZ (decide_eq_true h6) rfl
   ·rw[if_neg (fun q=>q.elim h5 h6)];exact bh (decide_eq_false h6) ⟨hk,rfl⟩
  ·rw[if_pos h1];refine aZ (by simpa using h1) ⟨by have:=uA k s;unfold cf;omega,hk,hk.1,?_⟩;rw[VX.num_setN];by_cases h2:Lib.idxOfS (aO k) s+1=0
   ·rw[if_pos h2];exact aZ (by rw[h2];rfl) rfl
   ·rw[if_neg h2];exact bh (beq_false_of_ne h2) rfl) Tryz.func148
noncomputable def CV3:ik Tryz.prog:=dE Nn [⟨_,_,_,tW⟩,⟨_,_,_,Ju⟩,⟨_,_,_,Un⟩,⟨_,_,_,ui⟩,⟨_,_,_,Ui⟩] [⟨_,_,_,_,_,TC⟩]
abbrev VX.L (x:VX):Nat×(ByteArray→Option (List ByteArray)):=x.2.1
abbrev VX.N (x:VX):Nat×(ByteArray→Option Int):=x.2.2.1
def VX.setL (x:VX) (k:ByteArray) (v:Int):VX:=(x.1,x.2.1,(x.2.2.1.1+1,mW .s x.2.2.1.2 k v),x.2.2.2)
def VX.setV (x:VX) (k:ByteArray) (v:List ByteArray):VX:=(x.1,(x.2.1.1+1,mW .s x.2.1.2 k v),x.2.2)
def kOk (k:ByteArray) (n:Nat):Prop:=Kt.ok .s k∧n<1000000000000
def adV (x:VX) (k:ByteArray) (f:ar):T (XV×VX×Unit):=
 .br (!(Lib.containsS (aD k) f.key)) (.lf (uP (aI 2) x)) (.nd (Kt.ok .s f.key) (.br (x.N.2 f.key).isSome (.lf (uP (aI 3) x)) (.nd (kOk f.key x.N.1)
 (.br (decide (bW f.key>0)) (.nd (f.vals.length≤1099511627776) (.nd (kOk f.key x.L.1) (.nd (∀s∈f.vals,dR s) (.lf (uP (aI (db f.vals (bW f.key))) ((x.setL f.key f.line).setV f.key f.vals))))))
 (.br (!((f.vals.length:Int)==1)) (.lf (uP (aI 7) (x.setL f.key f.line))) (.nd ((0:Int)≤0∧(0:Int)<f.vals.length) (.nd (Jd f.key (x.setL f.key f.line)∧dR (f.vals.getD 0 ⟨#[]⟩)) (.lf (uP (aI (oo f.key (f.vals.getD 0 ⟨#[]⟩) (x.setL f.key f.line)).1) (oo f.key (f.vals.getD 0 ⟨#[]⟩) (x.setL f.key f.line)).2)))))))))
def fx (k:ByteArray) (f:ar) (x:VX):Int×VX:=
 if Lib.containsS (aD k) f.key=false then(2,x)
 else if(x.N.2 f.key).isSome then(3,x)
 else if 0<bW f.key then(db f.vals (bW f.key),(x.setL f.key f.line).setV f.key f.vals)
 else if f.vals.length≠1 then(7,x.setL f.key f.line)
 else oo f.key (f.vals.getD 0 ⟨#[]⟩) (x.setL f.key f.line)
def VX.n (x:VX) (n:Nat):Prop:=x.1.1≤n∧x.L.1≤n∧x.N.1≤n
def so (f:ar):Prop:=dR f.key∧f.vals.length≤1099511627776∧∀s∈f.vals,dR s
theorem VX.v_setL (x:VX) (k:ByteArray) (v:Int):(x.setL k v).v={ x.v with ln:=setF x.v.ln k v }:=
 congrArg (fun f:ByteArray→Option Int=>(⟨x.1.2,x.2.1.2,f,⟨x.2.2.2.1,x.2.2.2.2.1,x.2.2.2.2.2.1⟩,x.2.2.2.2.2.2.1⟩:az)) (KS x.2.2.1.2 k v)
theorem VX.v_setV (x:VX) (k:ByteArray) (v:List ByteArray):(x.setV k v).v={ x.v with lst:=setF x.v.lst k v }:=
 congrArg (fun f:ByteArray→Option (List ByteArray)=>(⟨x.1.2,f,x.2.2.1.2,⟨x.2.2.2.1,x.2.2.2.2.1,x.2.2.2.2.2.1⟩,x.2.2.2.2.2.2.1⟩:az)) (KS x.2.1.2 k v)
theorem Tp (k:ByteArray) (f:ar) (x:VX):aX k f x.v=((fx k f x).1,(fx k f x).2.v):=by
 unfold aX fx;split
 ·rfl
 split
 ·rename_i h;rw[if_pos (show(x.N.2 f.key).isSome from h)]
 rename_i h;rw[if_neg (show¬(x.N.2 f.key).isSome from h)];split
 ·rw[VX.v_setV,VX.v_setL]
 split
 ·rw[VX.v_setL]
 ·rw[←VX.v_setL,YT]
theorem Tq {k:ByteArray} {f:ar} {x:VX} {n:Nat} (h:x.n n):(fx k f x).2.n (n+1):=by
 obtain⟨h1,h2,h3⟩:=h;have h0:x.n (n+1):=⟨by omega,by omega,by omega⟩;have hl:(x.setL f.key f.line).n (n+1):=⟨by show x.1.1≤_;omega,by show x.L.1≤_;omega,by show x.N.1+1≤_;omega⟩;unfold fx;split
 ·exact h0
 split
 ·exact h0
 split
 ·exact⟨by show x.1.1≤_;omega,by show x.L.1+1≤_;omega,by show x.N.1+1≤_;omega⟩
 split
 ·exact hl
 ·obtain⟨q1,q2,q3⟩:=Ou f.key (f.vals.getD 0 ⟨#[]⟩) (x.setL f.key f.line);refine⟨aaM q1 (by show x.1.1+1≤_;omega),?_,?_⟩
  ·show(oo _ _ _).2.2.1.1≤_;rw[q2];exact hl.2.1
  ·show(oo _ _ _).2.2.2.1.1≤_;rw[q3];exact hl.2.2
theorem dR.kt {s:ByteArray} (h:dR s):Kt.ok .s s:=aaM h (by decide)
theorem Od:gi Tryz.prog 103 pV [(0,sV),(1,sS),(2,.st 0)] [(0,sV)] fun((x:VX),(k:ByteArray),(f:ar),_)=>.nd (x.n 999999999999∧so f) (.lf (uP (aI (fx k f x).1) (fx k f x).2)):=
 kM (C:=CV3) (nL _ _) 99 [(0,sV),(1,sS),(2,.st 0)] [(0,sV)] (fun((x:VX),(k:ByteArray),(f:ar),_)=>adV x k f) (fun⟨(x:VX),(k:ByteArray),(f:ar),_⟩ r _ ⟨⟨⟨n1,n2,n3⟩,f1,f2,f3⟩,h⟩=>by
  obtain rfl:uP (aI (fx k f x).1) (fx k f x).2=r:=h;unfold fx;by_cases h1:Lib.containsS (aD k) f.key=false
  ·rw[if_pos h1];exact aZ (by rw[h1];rfl) rfl
  rw[if_neg h1];refine bh (by simpa using h1) ⟨f1.kt,?_⟩;by_cases h2:(x.N.2 f.key).isSome
  ·rw[if_pos h2];exact aZ h2 rfl
  rw[if_neg h2];refine bh (by simpa using h2) ⟨⟨f1.kt,by omega⟩,?_⟩;by_cases h3:0<bW f.key
  ·rw[if_pos h3];exact aZ (decide_eq_true h3) ⟨f2,⟨f1.kt,by omega⟩,f3,rfl⟩
  rw[if_neg h3];refine bh (decide_eq_false h3) ?_;by_cases h4:f.vals.length=1
  ·rw[if_neg (by simp[h4])];refine bh (by rw[h4];rfl) ⟨by omega,⟨⟨f1.kt,by show x.1.1<_;omega⟩,?_⟩,rfl⟩;rw[aai,aae (by omega)];exact f3 _ (abF _)
  ·rw[if_pos h4];exact aZ (by simp;omega) rfl) Tryz.func103
noncomputable def CV4:ik Tryz.prog:=dE Nn [⟨_,_,_,tW⟩] []
abbrev Mx:SS:=.box 48 [.d tI,.d tI]
noncomputable abbrev coF:=Tryz.f104
abbrev pH:=eT [.d tI,.d tI]
abbrev coL:List (Nat×SS):=[(0,.rf 14),(1,sS),(2,sI),(6,Mx),(14,sL),(15,sI),(16,sI)]
abbrev coO:List (Nat×SS):=[(0,.rf 14),(1,sS),(2,sI),(6,Mx)]
abbrev Cn (a b:Int):XV:=.agg [.sym (.int .i64 a),.sym (.int .i64 b)]
abbrev CpE:=LE coL coO []
def QU (n:Int):T CpE:=.lf (.ret (.agg [.val (.int .i64 6),.sym (.int .i64 n)]) ())
def abl (x:az) (k:ByteArray) (n:Int) (y:pH) (l:List ByteArray) (a i:Int):T CpE:=.nd (cf (i+1)) (.lf (.back (x,k,n,y,l,a,i+1,())))
def cpT (x:az) (k:ByteArray) (n:Int) (y:pH) (l:List ByteArray) (a i:Int):T CpE:=
 .br (decide (i<a)) (.nd (0≤i∧i<l.length) (.nd (Kt.ok .s (l.getD i.toNat ⟨#[]⟩)) (.br (!((x.ln (l.getD i.toNat ⟨#[]⟩)).isSome)) (.br (!((l.getD i.toNat ⟨#[]⟩).toList==ay.toList)) (QU n) (.nd (Kt.ok .s aM) (.br (x.n aM==2) (QU n) (abl x k n y l a i)))) (abl x k n y l a i)))) (.lf (.out (x,k,n,y,())))
theorem qV {s:ByteArray} (h:s.size≤1000:=by decide):Kt.ok .s s:=aaM h (by decide)
theorem DO {v:az} {line:Int} {e:eE}:∀{l:List ByteArray},oy v line e l=if l.any (eZ v) then⟨6,line⟩ else e
 | []=>rfl
 | k::l=>by
  unfold oy;rw[acL,DO (l:=l)];cases eZ v k<;>rfl
theorem IW {v:az} {k:ByteArray} (h1:(v.ln k).isSome=false) (h2:k≠ay∨v.n aM=2):eZ v k=true:=by
 unfold eZ;rw[h1];rcases h2 with h|h
 ·rw[decide_eq_true h];rfl
 ·rw[decide_eq_true h,Bool.or_true];rfl
theorem Vz:eS (vI CV4 coF) 0 0 coL coO [] fun((x:az),(k:ByteArray),(n:Int),(y:pH),(l:List ByteArray),(a:Int),(i:Int),_)=>
 .nd (0≤i∧i≤l.length∧a=l.length∧∀s∈l,Kt.ok .s s) (.br ((l.drop i.toNat).any (eZ x)) (QU n) (.lf (.out (x,k,n,y,())))):=by
  refine eY _ (nL _ _) 99 0 0 coL coO [] (fun((x:az),(k:ByteArray),(n:Int),(y:pH),(l:List ByteArray),(a:Int),(i:Int),_)=>cpT x k n y l a i) (fun(_,_,_,_,(l:List ByteArray),_,(i:Int),_)=>l.length-i.toNat) ?_;rintro⟨(x:az),(k:ByteArray),(n:Int),(y:pH),(l:List ByteArray),(a:Int),(i:Int),_⟩ r ⟨_,_,_,_,hl,_⟩ ⟨⟨h0,h1,rfl,hk⟩,h⟩;have hl:l.length≤9223372036854775807:=hl;obtain⟨j,rfl⟩:∃j:Nat,i=j:=⟨i.toNat,by omega⟩;simp only[aak] at h;by_cases hi:j<l.length
  ·rw[getD_drop ⟨#[]⟩ hi,acL] at h;have hx:Kt.ok .s (l.getD j ⟨#[]⟩):=by
    rw[aai,aae hi];exact hk _ (abF _)
   have back:eZ x (l.getD j ⟨#[]⟩)=false→(T.nd (0≤(j:Int)+1∧(j:Int)+1≤l.length∧(l.length:Int)=l.length∧∀s∈l,Kt.ok .s s) (.br ((l.drop ((j:Int)+1).toNat).any (eZ x)) (QU n) (.lf (.out (x,k,n,y,()))))).hit r:=fun hm=>by
    rw[hm,acH] at h;exact⟨⟨by omega,by omega,rfl,hk⟩,h⟩
   have nx:(abl x k n y l l.length (j:Int)).hit (.back (x,k,n,y,l,(l.length:Int),(j:Int)+1,())):=⟨⟨by omega,by omega⟩,rfl⟩;have μ:l.length-((j:Int)+1).toNat<l.length-j:=by omega
   have aei:eZ x (l.getD j ⟨#[]⟩)=true→(QU n).hit r:=fun hm=>by
    rw[hm,Bool.true_or] at h;exact h.1 rfl
   have hn:(0:Int)≤j∧(j:Int)<l.length:=⟨by omega,by omega⟩;cases h3:(x.ln (l.getD j ⟨#[]⟩)).isSome
   ·by_cases h4:l.getD j ⟨#[]⟩=ay
    ·by_cases h5:x.n aM=2
     ·have q:=IW h3 (.inr h5);exact⟨_,aZ (decide_eq_true hn.2) ⟨hn,hx,aZ (by rw[aak,h3];rfl) (bh (by rw[aak,h4];simp) ⟨qV,aZ (by rw[h5];rfl) rfl⟩)⟩,(aei q)⟩
     ·exact⟨_,aZ (decide_eq_true hn.2) ⟨hn,hx,aZ (by rw[aak,h3];rfl) (bh (by rw[aak,h4];simp) ⟨qV,bh (beq_false_of_ne h5) nx⟩)⟩,μ,back (by unfold eZ;rw[h3,decide_eq_false (fun e=>e h4),decide_eq_false h5];rfl)⟩
    ·exact⟨_,aZ (decide_eq_true hn.2) ⟨hn,hx,aZ (by rw[aak,h3];rfl) (aZ (by rw[aak,eG,decide_eq_false h4];rfl) rfl)⟩,aei (IW h3 (.inl h4))⟩
   ·exact⟨_,aZ (decide_eq_true hn.2) ⟨hn,hx,bh (by rw[aak,h3];rfl) nx⟩,μ,back (by unfold eZ;rw[h3];rfl)⟩
  ·rw[aaL (by omega)] at h;exact⟨_,bh (decide_eq_false (by omega)) rfl,h.2 rfl⟩
def cS (x:az) (k:ByteArray) (n:Int):T XV:=.br (k.toList==aH.toList) (.nd (Kt.ok .s bi) (.nd (Kt.ok .s aW) (.br (decide (x.n bi>x.n aW)) (.lf (Cn 4 n)) (.lf (Cn 0 0))))) (.lf (Cn 0 0))
def cC (x:az) (k:ByteArray) (n:Int):T XV:=.br (k.toList==ah.toList) (.nd (Kt.ok .s aM) (.br (x.n aM==1) (.nd (Kt.ok .s bb) (.br (decide (x.n bb>1)) (.nd (Kt.ok .s bb) (.lf (Cn 4 (x.l bb)))) (cS x k n))) (cS x k n))) (cS x k n)
def cD (x:az) (k:ByteArray) (n:Int):T XV:=.nd (Kt.ok .s ay) (.br (x.ln ay).isSome (.nd (Kt.ok .s aM) (.br (!(x.n aM==2)) (.lf (Cn 5 (x.l ay))) (cC x k n))) (cC x k n))
def cB (x:az) (k:ByteArray) (n:Int):T XV:=.nd ((0:Int)≤0∧(0:Int)≤(aD k).length∧((aD k).length:Int)=(aD k).length∧∀s∈aD k,Kt.ok .s s) (.br ((aD k).any (eZ x)) (.lf (Cn 6 n)) (cD x k n))
theorem Hc (x:az) (k:ByteArray) (n:Int):(cS x k n).hit (if k=aH∧x.n aW<x.n bi then Cn 4 n else Cn 0 0):=by
 unfold cS;by_cases h1:k=aH
 ·refine aZ (by rw[h1];simp) ⟨qV,qV,?_⟩;by_cases h2:x.n aW<x.n bi
  ·rw[if_pos ⟨h1,h2⟩];exact aZ (decide_eq_true h2) rfl
  ·rw[if_neg fun q=>h2 q.2];exact bh (decide_eq_false h2) rfl
 ·rw[if_neg fun q=>h1 q.1];exact bh (by rw[eG];exact decide_eq_false h1) rfl
theorem abu (x:az) (k:ByteArray) (n:Int):(cC x k n).hit (if k=ah∧x.n aM=1∧1<x.n bb then Cn 4 (x.l bb) else if k=aH∧x.n aW<x.n bi then Cn 4 n else Cn 0 0):=by
 unfold cC;by_cases h1:k=ah
 ·refine aZ (by rw[h1];simp) ⟨qV,?_⟩;by_cases h2:x.n aM=1
  ·refine aZ (by rw[h2];rfl) ⟨qV,?_⟩;by_cases h3:1<x.n bb
   ·rw[if_pos ⟨h1,h2,h3⟩];exact aZ (decide_eq_true h3) ⟨qV,rfl⟩
   ·rw[if_neg fun q=>h3 q.2.2];exact bh (decide_eq_false h3) (Hc x k n)
  ·rw[if_neg fun q=>h2 q.2.1];exact bh (beq_false_of_ne h2) (Hc x k n)
 ·rw[if_neg fun q=>h1 q.1];exact bh (by rw[eG];exact decide_eq_false h1) (Hc x k n)
def aE (e:eE):XV:=Cn e.no e.line
theorem JW {P:Prop} [Decidable P] (a b:eE):aE (if P then a else b)=if P then aE a else aE b:=by split<;>rfl
theorem abt (x:az) (k:ByteArray) (n:Int):(cD x k n).hit (aE (jJ k n x)):=by
 have hc:=abu x k n;unfold jJ;rw[JW,JW,JW];refine⟨qV,?_⟩;cases h1:(x.ln ay).isSome
 ·rw[if_neg fun q=>by cases q.1];exact bh rfl hc
 ·refine aZ rfl ⟨qV,?_⟩;by_cases h2:x.n aM=2
  ·rw[if_neg fun q=>q.2 h2];exact bh (by rw[h2];rfl) hc
  ·rw[if_pos ⟨rfl,h2⟩];exact aZ (by rw[beq_false_of_ne h2];rfl) rfl
theorem Uy (k:ByteArray):∀s∈aD k,Kt.ok .s s:=by
 have h:∀a∈eQ,∀s∈aD a,s.size≤1000:=by decide
 by_cases hk:k∈eQ
 ·exact fun s hs=>qV (h k hk s hs)
 ·simp only[eQ,aaP,abL,or_false,not_or] at hk;simp[aD,hk]
theorem Q6:av Tryz.prog 104 false (aU [(0,.rf 14),(1,sS),(2,sI)] fun((x:az),(k:ByteArray),(n:Int),_)=>.lf (aE (eP k n x))):=
 bC (C:=CV4) ((nL _ _).add 0 _ Vz) false 99 [(0,.rf 14),(1,sS),(2,sI)] (fun((x:az),(k:ByteArray),(n:Int),_)=>cB x k n) (fun⟨(x:az),(k:ByteArray),(n:Int),_⟩ r _ h=>by
  obtain rfl:aE (eP k n x)=r:=h;refine⟨⟨⟨by omega,by omega,rfl,Uy k⟩,?_⟩,.inr rfl⟩;unfold eP;rw[DO,JW];cases (aD k).any (eZ x)
  ·exact bh rfl (abt x k n)
  ·exact aZ rfl rfl) Tryz.func104
noncomputable def CV5:ik Tryz.prog:=dE Nn [⟨_,_,_,tW⟩,⟨_,_,_,K5⟩,⟨_,_,_,Rw⟩,⟨_,_,_,Ju⟩,⟨_,_,_,VD⟩] []
def hd4 (k m:ByteArray) (ns:List ByteArray):T XV:=.br (m.toList==(⟨#[]⟩:ByteArray).toList) (.lf (aI 6)) (.nd (szB m) (.br (!(iI m.data.toList)) (.lf (aI 8)) (.nd ((0:Int)≤0∧(0:Int)<m.size) (.br (decide (((m.data.toList.getD 0 0).toNat:Int)<97)) (.lf (aI 8)) (.br (decide ((m.size:Int)>24)) (.lf (aI 8)) (.br (Lib.containsS ns m) (.lf (aI 3)) (.br ((ns.length:Int)==dt k) (.lf (aI 7)) (.lf (aI 0)))))))))
def hd3 (k m:ByteArray) (ns:List ByteArray):T XV:=.br (!(lM k)) (.lf (aI 0)) (hd4 k m ns)
def Sz (k m:ByteArray) (ns:List ByteArray):T XV:=.br (!(lM k)) (.br (decide ((ns.length:Int)>0)) (.lf (aI 3)) (hd3 k m ns)) (hd3 k m ns)
def Xa (k m:ByteArray) (ns:List ByteArray):T XV:=.br (!(lM k)) (.br (!(m.toList==(⟨#[]⟩:ByteArray).toList)) (.lf (aI 2)) (Sz k m ns)) (Sz k m ns)
def hd0 (k m:ByteArray) (ns:List ByteArray):T XV:=.nd (Kt.ok .s k) (.br ((aD k).isEmpty) (.lf (aI 2)) (Xa k m ns))
theorem Y1 {m:ByteArray} (h:m≠⟨#[]⟩):0<m.size:=by
 rcases acK m.size with e|e
 ·exact absurd (by rcases m with⟨a⟩;obtain rfl:a=#[]:=acf e;rfl) h
 ·exact e
theorem aaq {k m:ByteArray} (ns:List ByteArray) (hk:dR k) (hm:dR m):(hd0 k m ns).hit (aI (fM k m ns)):=by
 refine⟨hk.kt,?_⟩;unfold fM;by_cases h0:aD k=[]
 ·rw[if_pos h0];exact aZ (by rw[h0];rfl) rfl
 refine bh (by simpa using h0) ?_;rw[if_neg h0];unfold Xa;cases h1:lM k
 ·rw[if_pos rfl];refine aZ rfl ?_;by_cases h2:m=⟨#[]⟩
  ·rw[if_neg (by simpa using h2)];refine bh (by rw[h2];simp) ?_;unfold Sz;rw[h1];refine aZ rfl ?_;by_cases h3:0<ns.length
   ·rw[if_pos h3];exact aZ (decide_eq_true (by omega)) rfl
   ·rw[if_neg h3];refine bh (decide_eq_false (by omega)) ?_;unfold hd3;rw[h1];exact aZ rfl rfl
  ·rw[if_pos h2];exact aZ (by rw[eG,decide_eq_false h2];rfl) rfl
 ·rw[if_neg (by decide)];refine bh rfl ?_;unfold Sz hd3;rw[h1];refine bh rfl (bh rfl ?_);unfold hd4;by_cases h2:m=⟨#[]⟩
  ·rw[if_pos h2];exact aZ (by rw[h2];simp) rfl
  rw[if_neg h2];refine bh (by rw[eG];exact decide_eq_false h2) ⟨hm.szB,?_⟩;have hp:=Y1 h2;have e0:(m.data.toList[0]?).getD 0=m.data.toList.getD 0 0:=(aai ..).symm;rw[e0];by_cases h3:iI m.data.toList=false
  ·rw[if_pos (.inl h3)];exact aZ (by rw[h3];rfl) rfl
  refine bh (by simpa using h3) ⟨⟨by omega,by omega⟩,?_⟩;by_cases h4:(m.data.toList.getD 0 0).toNat<97
  ·rw[if_pos (.inr (.inl h4))];exact aZ (decide_eq_true (by omega)) rfl
  refine bh (decide_eq_false (by omega)) ?_;by_cases h5:24<m.size
  ·rw[if_pos (.inr (.inr h5))];exact aZ (decide_eq_true (by omega)) rfl
  rw[if_neg fun q=>q.elim h3 fun q=>q.elim h4 h5];refine bh (decide_eq_false (by omega)) ?_;cases h6:Lib.containsS ns m
  ·rw[if_neg (by decide)];refine bh rfl ?_;by_cases h7:(ns.length:Int)=dt k
   ·rw[if_pos h7];exact aZ (by rw[h7];simp) rfl
   ·rw[if_neg h7];exact bh (beq_false_of_ne h7) rfl
  ·exact aZ rfl rfl
theorem Qd:av Tryz.prog 102 false (aU [(0,.rf 15),(1,.st 1)] fun((x:Cu),(b:aw),_)=>.nd (dR b.kind∧dR b.name) (.lf (aI (fM b.kind b.name ((x.names b.kind).getD []))))):=
 bC (C:=CV5) (nL _ _) false 99 [(0,.rf 15),(1,.st 1)] (fun((x:Cu),(b:aw),_)=>hd0 b.kind b.name ((x.names b.kind).getD [])) (fun⟨(x:Cu),(b:aw),_⟩ r _ ⟨⟨h1,h2⟩,h⟩=>by
  obtain rfl:aI (fM b.kind b.name ((x.names b.kind).getD []))=r:=h;exact⟨aaq _ h1 h2,.inr rfl⟩) Tryz.func102
end Go.Proofs.YtdbpbfglhbiadaaGreatDoor
