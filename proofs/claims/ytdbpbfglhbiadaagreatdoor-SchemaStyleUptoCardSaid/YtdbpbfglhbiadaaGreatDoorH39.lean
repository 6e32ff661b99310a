/- Tm9 Tm16 Tm10 Tm11 Tm17 Law1 Law2 -/
import Derived.Test.YtdbpbfglhbiadaaGreatDoorH00
import Derived.Test.YtdbpbfglhbiadaaGreatDoorH37
import Derived.Test.YtdbpbfglhbiadaaGreatDoorH02
import Derived.Test.YtdbpbfglhbiadaaGreatDoorH18
set_option maxHeartbeats 4000000
set_option maxRecDepth 100000
namespace Go.Proofs.YtdbpbfglhbiadaaGreatDoor
open Go Go.RowKit
noncomputable def C9b:eP Tryz.prog:=bA pG [⟨_,_,_,rA⟩,⟨_,_,_,wJ⟩] []
theorem VO:ao Tryz.prog 86 false (az [(0,sI)] λ((n:Int),_)=>.lf (aS (DD n))):=
 aN (C:=C9b) (nL _ _) false 99 [(0,sI)] (λ((n:Int),_)=>.br (decide (n<0)) (.lf (aS ⟨#[]⟩)) (.br (decide (n>999999)) (.lf (aS ⟨#[]⟩)) (.nd (0<=n/\n<9223372036854775808) (.nd (bits (av (bits n.toNat))=bits n.toNat/\av (bits n.toNat)<2^200) (.lf (aS ⟨(bq (av (bits n.toNat))).toArray⟩))))))
  (λ⟨(n:Int),_⟩ r _ h=>by
   obtain rfl:aS (DD n)=r:=h;refine⟨?_,.inr rfl⟩;unfold DD;by_cases h1:n<0
   ·rw[if_pos (.inl h1)];exact aC (decide_eq_true h1) rfl
   ·by_cases h2:999999<n
    ·rw[if_pos (.inr h2)];exact aK (decide_eq_false h1) (aC (decide_eq_true h2) rfl)
    ·rw[if_neg (by omega)];refine aK (decide_eq_false h1) (aK (decide_eq_false (by omega)) ⟨⟨by omega,by omega⟩,?_⟩);rw[bm];exact⟨⟨rfl,abx (show n.toNat<1000000 by omega) (by decide)⟩,rfl⟩) Tryz.func86
theorem ML:ao Tryz.prog 87 false (az [(0,sI),(1,sL)] λ((n:Int),(l:List ByteArray),_)=>.lf (aS (oz n l))):=
 aN (C:=C9b) (nL _ _) false 99 [(0,sI),(1,sL)] (λ((n:Int),(l:List ByteArray),_)=>.br (decide (n<1)) (.lf (aS ⟨#[]⟩)) (.br (decide (n>l.length)) (.lf (aS ⟨#[]⟩)) (.nd (cw (n-1)) (.nd (0<=n-1/\n-1<l.length) (.lf (aS (l.getD (n-1).toNat ⟨#[]⟩)))))))
  (λ⟨(n:Int),(l:List ByteArray),_⟩ r ⟨_,hl,_⟩ h=>by
   obtain rfl:aS (oz n l)=r:=h;have hl:l.length<=9223372036854775807:=hl;refine⟨?_,.inr rfl⟩;unfold oz;by_cases h1:n<1
   ·rw[if_pos (.inl h1)];exact aC (decide_eq_true h1) rfl
   ·by_cases h2:(l.length:Int)<n
    ·rw[if_pos (.inr h2)];exact aK (decide_eq_false h1) (aC (decide_eq_true h2) rfl)
    ·rw[if_neg (by omega)];refine aK (decide_eq_false h1) (aK (decide_eq_false (by omega)) ⟨⟨by omega,by omega⟩,⟨by omega,by omega⟩,?_⟩);rw[show(n-1).toNat=n.toNat-1 by omega];rfl) Tryz.func87
theorem T1:ao Tryz.prog 85 true (az [(0,sS),(1,sS)] λ((k:ByteArray),(s:ByteArray),_)=>.lf (.agg (jS (.st 0) (⟨k,[s],0⟩:ai)))):=by
 refine ao.imp (l0:=[(0,sS),(1,sS)]) (F:=λ((k:ByteArray),(s:ByteArray),_)=>.lf (.agg [.sym (.string k),.list .str [s] true,.sym (.int .i64 0)])) (aN (C:=C9b) (nL _ _) true 99 [(0,sS),(1,sS)] (λ((k:ByteArray),(s:ByteArray),_)=>.lf (.agg [.sym (.string k),.list .str [s] true,.sym (.int .i64 0)])) (λ_ _ _ h=>⟨h,.inl rfl⟩) Tryz.func85) ?_;rintro⟨(k:ByteArray),(s:ByteArray),_⟩ r h;obtain rfl:XV.agg (jS (.st 0) (⟨k,[s],0⟩:ai))=r:=h;refine⟨_,rfl,λw S v h=>?_⟩;obtain⟨vs,rfl,h⟩:=h;refine⟨vs,rfl,?_⟩;cases h with
 | cons h1 h2=>cases h2 with
  | cons h2 h3=>
   obtain⟨A,n,c,e,h2,_⟩:=h2;exact .cons h1 (.cons ⟨A,n,c,e,h2,λe=>by cases e⟩ h3)
abbrev sOs:SS:=.c (.own .str 9)
abbrev sIs:SS:=sD (.list tI)
abbrev pkL:List (Nat×SS):=[(0,sL),(1,sIs),(5,sOs),(6,sI)]
abbrev PkE:=LE pkL [(5,sOs)] []
def Ii (rs:List ByteArray):PkE:=.out (rs,())
def z8 (xs:List ByteArray) (ix:List Int) (i:Int) (rs:List ByteArray) (s:ByteArray):T PkE:=.nd ((rs.length+1)*17<=140737488355328) (.nd (cw (i+1)) (.lf (.back (xs,ix,s::rs,i+1,()))))
def pkB (xs:List ByteArray) (ix:List Int) (rs:List ByteArray) (i:Int):T PkE:=.br (decide (i<ix.length)) (.nd (0<=i/\i<ix.length) (.br (decide (ix.getD i.toNat 0<0)) (z8 xs ix i rs ⟨#[]⟩) (.nd (0<=i/\i<ix.length) (.br (decide (ix.getD i.toNat 0>=xs.length)) (z8 xs ix i rs ⟨#[]⟩)
 (.nd (0<=i/\i<ix.length) (.nd (0<=ix.getD i.toNat 0/\ix.getD i.toNat 0<xs.length) (z8 xs ix i rs (xs.getD (ix.getD i.toNat 0).toNat ⟨#[]⟩)))))))) (.lf (.out (rs,())))
def pkN (ix:List Int) (rs:List ByteArray) (i:Int):Prop:=0<=i/\i<=ix.length/\(rs.length:Int)=i/\ix.length<=1099511627776
theorem TV:cL (mi C0 Tryz.f88) 0 0 pkL [(5,sOs)] [] λ((xs:List ByteArray),(ix:List Int),(rs:List ByteArray),(i:Int),_)=>.nd (pkN ix rs i) (.lf (Ii ((db (ix.drop i.toNat) xs).reverse++rs))):=by
 refine fy _ (nL _ _) 99 0 0 pkL [(5,sOs)] [] (λ((xs:List ByteArray),(ix:List Int),(rs:List ByteArray),(i:Int),_)=>pkB xs ix rs i) (λ(_,(ix:List Int),_,(i:Int),_)=>ix.length-i.toNat) ?_;rintro⟨(xs:List ByteArray),(ix:List Int),(rs:List ByteArray),(i:Int),_⟩ r _ ⟨⟨h0,h1,h2,h3⟩,hr⟩;obtain⟨k,rfl⟩:∃k:Nat,i=k:=⟨i.toNat,by omega⟩;have hr:Ii ((db (ix.drop k) xs).reverse++rs)=r:=hr;subst hr;show∃q,(pkB xs ix rs k).hit q/\_;unfold pkB;by_cases hk:k<ix.length
 ·rw[getD_drop 0 hk];obtain⟨n,hn⟩:∃n,nameAt xs (ix.getD k 0)=n:=⟨_,rfl⟩;have nx:pkN ix (n::rs) ((k:Int)+1):=⟨by omega,by omega,by rw[aaJ];omega,h3⟩;have eq:Ii ((db (ix.drop (k+1)) xs).reverse++n::rs)=Ii ((db (ix.getD k 0::ix.drop (k+1)) xs).reverse++rs):=by
   unfold db;rw[aco,ab8,abS,hn];rfl
  have dec:ix.length-(k+1)<ix.length-k:=by omega
  have bk:(z8 xs ix k rs n).hit (.back (xs,ix,n::rs,(k:Int)+1,())):=⟨by omega,⟨by omega,by omega⟩,rfl⟩;have gM:0<=(k:Int)/\(k:Int)<ix.length:=⟨by omega,by omega⟩;by_cases h4:ix.getD k 0<0
  ·rw[show n=⟨#[]⟩ by rw[<-hn];exact if_neg (by omega)] at nx eq bk;exact⟨_,aC (decide_eq_true (by omega)) ⟨gM,aC (decide_eq_true h4) bk⟩,dec,nx,eq⟩
  by_cases h5:(xs.length:Int)<=ix.getD k 0
  ·rw[show n=⟨#[]⟩ by rw[<-hn];exact if_neg (by omega)] at nx eq bk;exact⟨_,aC (decide_eq_true (by omega)) ⟨gM,aK (decide_eq_false h4) ⟨gM,aC (decide_eq_true h5) bk⟩⟩,dec,nx,eq⟩
  ·rw[show n=xs.getD (ix.getD k 0).toNat ⟨#[]⟩ by rw[<-hn];exact if_pos ⟨by omega,by omega⟩] at nx eq bk;exact⟨_,aC (decide_eq_true (by omega)) ⟨gM,aK (decide_eq_false h4) ⟨gM,aK (decide_eq_false h5) ⟨gM,⟨by rw[aae];omega,by rw[aae];omega⟩,bk⟩⟩⟩,dec,nx,eq⟩
 ·exact⟨_,aK (decide_eq_false (by omega)) rfl,by rw[aaQ (by omega)];rfl⟩
def rvR (l:List ByteArray):XV:=.one (.list .str l.reverse !l.isEmpty)
theorem Od:ao Tryz.prog 88 true (az [(0,sL),(1,sIs)] λ((xs:List ByteArray),(ix:List Int),_)=>.nd (ix.length<=1099511627776) (.lf (.one (.list .str (db ix xs) !(db ix xs).isEmpty)))):=
 aN (C:=C0) ((nL _ _).add 0 _ TV) true 99 [(0,sL),(1,sIs)] (λ((xs:List ByteArray),(ix:List Int),_)=>.nd (pkN ix [] 0) (.lf (rvR ((db (ix.drop 0) xs).reverse++[]))))
  (λ⟨(xs:List ByteArray),(ix:List Int),_⟩ r _ ⟨h1,h⟩=>by
   obtain rfl:XV.one (.list .str (db ix xs) !(db ix xs).isEmpty)=r:=h;refine⟨⟨⟨by omega,by omega,rfl,h1⟩,?_⟩,.inl rfl⟩;show rvR _=_;unfold rvR;rw[acr,acx,aat,ady]) Tryz.func88
noncomputable def WO (t:TypeId):Option Ty:=List.lookup t [(9,.str),(3,tI),(93,.st 0),(91,.st 1)]
noncomputable def C12:eP Tryz.prog:=bA WO [⟨_,_,_,VO⟩,⟨_,_,_,T1⟩,⟨_,_,_,ML⟩,⟨_,_,_,Od⟩,⟨_,_,_,Qr⟩,⟨_,_,_,Nf⟩] []
noncomputable abbrev YA:=Tryz.f40
noncomputable abbrev Tw:Rg Tryz.prog YA.ntmps:=Qq (mi C12 YA) [(17,[4])]
abbrev seC:List CS:=[.d .str,.d tI,.d tI,.d tI,.d (.list .str),.d (.list (.st 3)),.d (.list (.st 4)),.d tI,.d tI,.d .bool,.d (.list .limb),.d (.list .limb),.d tI,.d .str]
abbrev ssC:List CS:=[.d .str,.own (.st 1) 91]
abbrev sEs:SS:=.box 30 seC
abbrev sSs:SS:=.box 33 ssC
abbrev ua:=eB seC
abbrev tJ:=eB ssC
def ua.co (e:ua):List ae:=e.2.2.2.2.2.1
def ua.sy (e:ua):List aj:=e.2.2.2.2.2.2.1
def ua.pr (e:ua):List ByteArray:=e.2.2.2.2.1
def tJ.bs (s:tJ):List ak:=s.2.1
def tJ.put (s:tJ) (b:ak):tJ:=(s.1,b::s.bs,())
abbrev sVs:SS:=.box 33 [.d .str,.d (.list (.st 1))]
abbrev JC:=eB [.d .str,.d (.list (.st 1))]
abbrev YF:List (Nat×SS):=[(1,sEs),(2,sVs),(3,sSs),(4,sOs),(5,sI)]
abbrev YE:List (Nat×SS):=[(1,sEs),(2,sVs),(3,sSs),(4,sOs)]
def V1 (c:ae) (l:List ai):ak:=
 ⟨ar,c.name,[fB bg c.method gg,dJ bH c.seats,dJ gB c.ranks]++l++[fB il c.ties kF,fB ck c.over kH,fB im c.skip kG,⟨fK,(c.cands.reverse++[]).reverse,0⟩],0⟩
def Fq (e:ua) (v:JC) (s:tJ) (l:List ByteArray) (i:Int):LE YF YE []:=.back (e,v,s,l,i,())
def Hy (e:ua) (v:JC) (s:tJ) (l:List ByteArray):LE YF YE []:=.out (e,v,s,l,())
def s0E (e:ua) (v:JC) (s:tJ) (l:List ByteArray) (i:Int) (c:ae) (n:Nat) (ds:List ai):T (LE YF YE []):=.nd ((n+3)*49<=140737488355328) (.nd ((0+c.cands.length)*17<=140737488355328) (.nd ((n+3+1)*49<=140737488355328) (.nd ((s.bs.length+1)*65<=140737488355328) (.nd (cw (i+1)) (.lf (Fq e v (s.put (V1 c ds)) (c.name::l) (i+1)))))))
def s0B (e:ua) (v:JC) (s:tJ) (l:List ByteArray) (i:Int) (c:ae):T (LE YF YE []):=.br (c.method==2) (.nd ((3+1)*49<=140737488355328) (s0E e v s l i c 4 [dJ aH c.digits])) (s0E e v s l i c 3 [])
def s0T (e:ua) (v:JC) (s:tJ) (l:List ByteArray) (i:Int):T (LE YF YE []):=.br (decide (i<e.co.length)) (.nd (0<=i/\i<e.co.length) (.nd ((l.length+1)*17<=140737488355328) (s0B e v s l i (e.co.getD i.toNat ae.zero)))) (.lf (Hy e v s l))
theorem V0 (c:ae):dE c=V1 c (if c.method=2 then[dJ aH c.digits] else[]):=by
 unfold dE V1;rw[acx,aat]
def s0N (e:ua) (s:tJ) (l:List ByteArray) (i:Int):Prop:=0<=i/\i<=e.co.length/\e.co.length<=1048576/\(∀c∈e.co,c.cands.length<=1048576)/\(l.length:Int)=i/\s.bs.length<=3+i
theorem Fj:cL Tw 0 0 YF YE [] λ((e:ua),(v:JC),(s:tJ),(l:List ByteArray),(i:Int),_)=>.nd (s0N e s l i) (.lf (Hy e v (s.1,((e.co.drop i.toNat).map dE).reverse++s.bs,()) (((e.co.drop i.toNat).map (·.name)).reverse++l))):=by
 refine fy _ (nL _ _) 99 0 0 YF YE [] (λ((e:ua),(v:JC),(s:tJ),(l:List ByteArray),(i:Int),_)=>s0T e v s l i)
  (λ((e:ua),_,_,_,(i:Int),_)=>e.co.length-i.toNat) ?_
 rintro⟨(e:ua),(v:JC),(s:tJ),(l:List ByteArray),(i:Int),_⟩ r _ ⟨⟨h0,h1,h2,h3,h4,h5⟩,hr⟩;have hr:Hy e v (s.1,((e.co.drop i.toNat).map dE).reverse++s.bs,()) (((e.co.drop i.toNat).map (·.name)).reverse++l)=r:=hr;obtain rfl:=hr;obtain⟨k,rfl⟩:∃k:Nat,i=k:=⟨i.toNat,by omega⟩;rw[aae];show∃q,(s0T e v s l k).hit q/\_;unfold s0T;by_cases hk:k<e.co.length
 ·rw[getD_drop ae.zero hk,aae];obtain⟨c,hc⟩:∃c,e.co.getD k ae.zero=c:=⟨_,rfl⟩;have hcc:=h3 c (by rw[<-hc,aal,aac hk];exact ach hk);rw[hc];have key:∀(n:Nat) (ds:List ai),n<=4->dE c=V1 c ds->(s0E e v s l k c n ds).hit (Fq e v (s.put (dE c)) (c.name::l) (k+1)):=λn ds hn he=>⟨by omega,by omega,by omega,by omega,⟨by omega,by omega⟩,by rw[he];rfl⟩;refine⟨Fq e v (s.put (dE c)) (c.name::l) (k+1),aC (decide_eq_true (by omega)) ⟨⟨by omega,by omega⟩,by omega,?_⟩,?_,⟨by omega,by omega,h2,h3,by rw[aaJ];omega,?_⟩,?_⟩
  ·unfold s0B;have he:=V0 c;by_cases hm:c.method=2
   ·rw[if_pos hm] at he;exact aC (beq_iff_eq.2 hm) ⟨by omega,key 4 _ (by omega) he⟩
   ·rw[if_neg hm] at he;exact aK (beq_eq_false_iff_ne.2 hm) (key 3 _ (by omega) he)
  ·show e.co.length-(k+1)<e.co.length-k;omega
  ·have:(s.put (dE c)).bs.length=s.bs.length+1:=rfl;omega
  ·show Hy e v (s.1,((e.co.drop (k+1)).map dE).reverse++(dE c::s.bs),()) (((e.co.drop (k+1)).map (·.name)).reverse++(c.name::l))=_;rw[aco,aco,ab8,ab8,abS,abS];rfl
 ·rw[aaQ (by omega)];exact⟨_,aK (decide_eq_false (by omega)) rfl,rfl⟩
abbrev s1L:List (Nat×SS):=[(1,sEs),(2,sVs),(3,sSs),(4,sL),(8,sI)]
abbrev s1O:List (Nat×SS):=[(1,sEs),(2,sVs),(3,sSs)]
def aj.nul:aj:=⟨⟨#[]⟩,[],[]⟩
def Hw (e:ua) (v:JC) (s:tJ):LE s1L s1O []:=.out (e,v,s,())
def s1E (e:ua) (v:JC) (s:tJ) (l:List ByteArray) (i:Int) (y:aj):T (LE s1L s1O []):=.nd (y.prec.length<=1099511627776) (.nd (y.cont.length<=1099511627776) (.nd ((s.bs.length+1)*65<=140737488355328) (.nd (cw (i+1)) (.lf (.back (e,v,s.put (eT e.pr l y),l,i+1,()))))))
def s1T (e:ua) (v:JC) (s:tJ) (l:List ByteArray) (i:Int):T (LE s1L s1O []):=.br (decide (i<e.sy.length)) (.nd (0<=i/\i<e.sy.length) (s1E e v s l i (e.sy.getD i.toNat aj.nul))) (.lf (Hw e v s))
def s1N (e:ua) (s:tJ) (i:Int):Prop:=0<=i/\i<=e.sy.length/\e.sy.length<=1048576/\(∀y∈e.sy,y.prec.length<=1048576/\y.cont.length<=1048576)/\s.bs.length<=2097152+i
theorem Fi:cL Tw 1 2 s1L s1O [] λ((e:ua),(v:JC),(s:tJ),(l:List ByteArray),(i:Int),_)=>.nd (s1N e s i) (.lf (Hw e v (s.1,((e.sy.drop i.toNat).map (eT e.pr l)).reverse++s.bs,()))):=by
 refine fy _ (nL _ _) 99 1 2 s1L s1O [] (λ((e:ua),(v:JC),(s:tJ),(l:List ByteArray),(i:Int),_)=>s1T e v s l i)
  (λ((e:ua),_,_,_,(i:Int),_)=>e.sy.length-i.toNat) ?_
 rintro⟨(e:ua),(v:JC),(s:tJ),(l:List ByteArray),(i:Int),_⟩ r _ ⟨⟨h0,h1,h2,h3,h5⟩,hr⟩;have hr:Hw e v (s.1,((e.sy.drop i.toNat).map (eT e.pr l)).reverse++s.bs,())=r:=hr;obtain rfl:=hr;obtain⟨k,rfl⟩:∃k:Nat,i=k:=⟨i.toNat,by omega⟩;rw[aae];show∃q,(s1T e v s l k).hit q/\_;unfold s1T;by_cases hk:k<e.sy.length
 ·rw[getD_drop aj.nul hk,aae];obtain⟨y,hy⟩:∃y,e.sy.getD k aj.nul=y:=⟨_,rfl⟩;obtain⟨Xj,Sg⟩:=h3 y (by rw[<-hy,aal,aac hk];exact ach hk);rw[hy];refine⟨_,aC (decide_eq_true (by omega)) ⟨⟨by omega,by omega⟩,by omega,by omega,by omega,⟨by omega,by omega⟩,rfl⟩,?_,⟨by omega,by omega,h2,h3,?_⟩,?_⟩
  ·show e.sy.length-(k+1)<e.sy.length-k;omega
  ·have:(s.put (eT e.pr l y)).bs.length=s.bs.length+1:=rfl;omega
  ·show Hw e v (s.1,((e.sy.drop (k+1)).map (eT e.pr l)).reverse++(eT e.pr l y::s.bs),())=_;rw[aco,ab8,abS];rfl
 ·rw[aaQ (by omega)];exact⟨_,aK (decide_eq_false (by omega)) rfl,rfl⟩
def esE (e:aa):ua:=(e.title,e.dots,e.blank,e.marked,e.prec,e.cont,e.styl,e.scan,e.batch,e.risk.neg,e.risk.num,e.risk.den,e.cell,e.seed,())
def NK (e:aa):List ak:=[⟨af,⟨#[]⟩,[⟨eA,(e.prec.reverse++[]).reverse,0⟩],0⟩,⟨aX,⟨#[]⟩,[dJ fJ e.scan,dJ fL e.batch],0⟩,⟨bZ,⟨#[]⟩,[dJ iK e.dots,dJ cF e.blank,dJ bO e.marked],0⟩]
def ajF (e:aa):tJ:=(e.title,NK e,())
def scL (e:aa):List ByteArray:=(((e.cont.drop (Int.toNat 0)).map ae.name).reverse++[]).reverse
def Ke (e:aa):tJ:=(e.title,((e.cont.drop (Int.toNat 0)).map dE).reverse++NK e,())
def Kf (e:aa):List ak:=((e.styl.drop (Int.toNat 0)).map (eT e.prec (scL e))).reverse++(Ke e).bs
def scF (e:aa):List ak:=⟨bB,⟨#[]⟩,[dJ iL e.cell],0⟩::⟨bP,⟨#[]⟩,[⟨dZ,[⟨(ib (uJ (QT e.risk.q))).toArray⟩],0⟩,⟨gJ,[e.seed],0⟩],0⟩::Kf e
def scT (e:aa):T XV:=.nd ((0+1)*65<=140737488355328) (.nd ((1+1)*65<=140737488355328) (.nd ((0+e.prec.length)*17<=140737488355328) (.nd ((2+1)*65<=140737488355328) (.nd (s0N (esE e) (ajF e) [] 0) (.nd (s1N (esE e) (Ke e) 0)
 (.nd (e.risk.short 6) (.nd (FB (2^200) (QT e.risk.q)) (.nd (((Kf e).length+1)*65<=140737488355328) (.nd (((Kf e).length+1+1)*65<=140737488355328) (.lf (.agg [.sym (.string e.title),.list (.st 1) (scF e).reverse !(scF e).isEmpty])))))))))))
theorem YB (e:aa):(scF e).reverse=(dp e).blocks:=by
 unfold scF Kf Ke scL NK dp tJ.bs;rw[rq];simp
def wF (e:aa):Prop:=e.prec.length<=1048576/\e.cont.length<=1048576/\e.styl.length<=1048576/\(∀c∈e.cont,c.cands.length<=1048576)/\(∀y∈e.styl,y.prec.length<=1048576/\y.cont.length<=1048576)/\e.risk.short 6/\e.risk.q.n<2^200/\e.risk.q.d<2^200
theorem uQ:ao Tryz.prog 40 true (az [(0,.st 5)] λ((e:aa),_)=>.nd (wF e) (.lf (.agg (jS (.st 2) (dp e))))):=by
 refine ao.imp (l0:=[(0,.st 5)]) (F:=λ((e:aa),_)=>.nd (wF e) (.lf (.agg [.sym (.string e.title),.list (.st 1) (dp e).blocks true]))) (pT (R:=Tw) (((nL Tw YA).add 0 _ Fj).add 1 _ Fi) true 99 [(0,.st 5)] (λ((e:aa),_)=>scT e) (λ⟨(e:aa),_⟩ r hb ⟨⟨h1,h2,h3,h4,h5,h6,h7,h8⟩,h⟩=>?_) Tryz.func40) ?_
 ·obtain rfl:XV.agg [.sym (.string e.title),.list (.st 1) (dp e).blocks true]=r:=h;have e0:(Kf e).length=e.styl.length+(e.cont.length+3):=by
   unfold Kf Ke tJ.bs NK;simp
  have e1:(Ke e).bs.length=e.cont.length+3:=by
   unfold Ke tJ.bs NK;simp
  refine⟨⟨by omega,by omega,by omega,by omega,⟨by omega,ac3 _,h2,h4,rfl,by show(3:Int)<=3+0;omega⟩,⟨by omega,ac3 _,h3,h5,by rw[e1];omega⟩,h6,⟨by rw[rq],by rw[rq];exact⟨h7,h8⟩⟩,by rw[e0];omega,by rw[e0];omega,?_⟩,.inl rfl⟩;rw[YB];rfl
 ·rintro⟨(e:aa),_⟩ r ⟨h0,h⟩;obtain rfl:XV.agg (jS (.st 2) (dp e))=r:=h;refine⟨_,⟨h0,rfl⟩,λw S v h=>?_⟩;obtain⟨vs,rfl,h⟩:=h;refine⟨vs,rfl,?_⟩;cases h with
  | cons h1 h2=>cases h2 with
   | cons h2 h3=>
    obtain⟨A,n,c,e,h2,_⟩:=h2;exact .cons h1 (.cons ⟨A,n,c,e,h2,λe=>by cases e⟩ h3)
def aj.zero:aj:=⟨⟨#[]⟩,[],[]⟩
def xJ (p:Nat->Bool):Nat->Nat->Bool
 | 0,_=>true
 | k+1,i=>p i&&xJ p k (i+1)
theorem JA {α:Type} (q:α->Bool) (d:α):∀(l:List α) (k:Nat),k<=l.length->xJ (λi=>q (l.getD i d)) (l.length-k) k=(l.drop k).all q:=by
 intro l k hk;obtain⟨j,hj⟩:∃j,l.length-k=j:=⟨_,rfl⟩;induction j generalizing k with
 | zero=>rw[hj,aaQ (by omega)];rfl
 | succ j ih=>
  rw[hj,getD_drop d (by omega),acJ,<-ih (k+1) (by omega) (by omega),show l.length-(k+1)=j by omega];rfl
def Mi {L:Type} (out ret:L) (p:Nat->Bool) (len:Nat) (i:Int):T L:=.nd (0<=i/\i<=len) (.br (xJ p (len-i.toNat) i.toNat) (.lf out) (.lf ret))
theorem qV {L:Type} {back:Int->L} {out ret r:L} {len:Nat} {p:Nat->Bool} {TT:Int->T L} {i:Int} (hT:∀k:Nat,k<len->(p k=true->(TT k).hit (back ((k:Int)+1)))/\(p k=false->(TT k).hit ret)) (h:(Mi out ret p len i).hit r) : ∃q,(T.br (decide (i<len)) (TT i) (.lf out)).hit q/\((q=r/\(q=out\/q=ret))\/(q=back (i+1)/\len-(i+1).toNat<len-i.toNat/\(Mi out ret p len (i+1)).hit r)):=by
 obtain⟨⟨h0,h1⟩,h⟩:=h;obtain⟨k,rfl⟩:∃k:Nat,i=k:=⟨i.toNat,by omega⟩;by_cases hk:k<len
 ·obtain⟨t1,t2⟩:=hT k hk;have e1:((k:Int)+1).toNat=k+1:=by omega
  rw[aae,show len-k=(len-(k+1))+1 by omega] at h;cases hp:p k with
  | true=>
   refine⟨_,aC (decide_eq_true (by omega)) (t1 hp),.inr ⟨rfl,by omega,⟨by omega,by omega⟩,?_⟩⟩;rw[e1];simpa only[xJ,hp,acO] using h
  | false=>
   have h:=h.2 (by simp only[xJ,hp,adi]);exact⟨_,aC (decide_eq_true (by omega)) (t2 hp),.inl ⟨h,.inr rfl⟩⟩
 ·rw[aae,show len-k=0 by omega] at h;exact⟨_,aK (decide_eq_false (by omega)) rfl,.inl ⟨h.1 rfl,.inl rfl⟩⟩
abbrev ewC:List CS:=[.d .str,.d tI,.d tI,.d tI,.d (.list .str),.d (.list (.st 3)),.d (.list (.st 4)),.d tI,.d tI,.d .bool,.d (.list .limb),.d (.list .limb),.d tI,.d .str]
abbrev NL:SS:=.box 30 ewC
abbrev mg:=eB ewC
def mg.cont (x:mg):List ae:=x.2.2.2.2.2.1
def mg.styl (x:mg):List aj:=x.2.2.2.2.2.2.1
abbrev smL (s:Nat):List (Nat×SS):=[(1,NL),(s,sI)]
abbrev SmE (s:Nat):=LE (smL s) [(1,NL)] []
def rC (s:Nat) (x:mg) (i:Int):SmE s:=.back (x,i,())
def Ht (s:Nat) (x:mg):SmE s:=.out (x,())
def uS (s:Nat):SmE s:=.ret (.one (.val (.bool false))) ()
def smC (c:ae):Bool:=decide (c.cands.length<=7)
def Tr (c:aj):Bool:=decide (c.prec.length<=12)&&decide (c.cont.length<=4)
theorem J7:cL (mi C0 Tryz.f45) 0 0 (smL 3) [(1,NL)] [] λ((x:mg),(i:Int),_)=>Mi (Ht 3 x) (uS 3) (λk=>smC (x.cont.getD k ae.zero)) x.cont.length i:=by
 refine fy _ (nL _ _) 99 0 0 (smL 3) [(1,NL)] [] (λ((x:mg),(i:Int),_)=>.br (decide (i<x.cont.length)) (.nd (0<=i/\i<x.cont.length) (.br (decide (((x.cont.getD i.toNat ae.zero).cands.length:Int)>7)) (.lf (uS 3)) (.nd (cw (i+1)) (.lf (rC 3 x (i+1)))))) (.lf (Ht 3 x))) (λ((x:mg),(i:Int),_)=>x.cont.length-i.toNat) ?_;rintro⟨(x:mg),(i:Int),_⟩ r rh h;have hl:x.cont.length<=9223372036854775807:=rh.1.2.2.2.2.2.1;obtain⟨q,h1,h2⟩:=qV (back:=rC 3 x) (TT:=λi=>.nd (0<=i/\i<x.cont.length) (.br (decide (((x.cont.getD i.toNat ae.zero).cands.length:Int)>7)) (.lf (uS 3)) (.nd (cw (i+1)) (.lf (rC 3 x (i+1)))))) (λk hk=>⟨λhp=>⟨⟨by omega,by omega⟩,aK (decide_eq_false (by have:=of_decide_eq_true hp;rw[aae];omega)) ⟨⟨by omega,by omega⟩,rfl⟩⟩,λhp=>⟨⟨by omega,by omega⟩,aC (decide_eq_true (by have:=of_decide_eq_false hp;rw[aae];omega)) rfl⟩⟩) h;refine⟨q,h1,?_⟩;rcases h2 with⟨rfl,rfl|rfl⟩|⟨rfl,h3,h4⟩
 ·rfl
 ·rfl
 ·exact⟨h3,h4⟩
def J9 (x:mg) (i:Int):T (SmE 4):=.nd (0<=i/\i<x.styl.length) (.br (decide (((x.styl.getD i.toNat aj.zero).prec.length:Int)>12)) (.lf (uS 4)) (.nd (0<=i/\i<x.styl.length) (.br (decide (((x.styl.getD i.toNat aj.zero).cont.length:Int)>4)) (.lf (uS 4)) (.nd (cw (i+1)) (.lf (rC 4 x (i+1)))))))
theorem J6:cL (mi C0 Tryz.f45) 1 2 (smL 4) [(1,NL)] [] λ((x:mg),(i:Int),_)=>Mi (Ht 4 x) (uS 4) (λk=>Tr (x.styl.getD k aj.zero)) x.styl.length i:=by
 refine fy _ (nL _ _) 99 1 2 (smL 4) [(1,NL)] [] (λ((x:mg),(i:Int),_)=>.br (decide (i<x.styl.length)) (J9 x i) (.lf (Ht 4 x))) (λ((x:mg),(i:Int),_)=>x.styl.length-i.toNat) ?_;rintro⟨(x:mg),(i:Int),_⟩ r rh h;have hl:x.styl.length<=9223372036854775807:=rh.1.2.2.2.2.2.2.1;have hT:∀k:Nat,k<x.styl.length->(Tr (x.styl.getD k aj.zero)=true->(J9 x k).hit (rC 4 x ((k:Int)+1)))/\(Tr (x.styl.getD k aj.zero)=false->(J9 x k).hit (uS 4)):=by
  refine λk hk=>⟨λhp=>?_,λhp=>?_⟩
  ·unfold Tr at hp;rw[aav,decide_eq_true_eq,decide_eq_true_eq] at hp;unfold J9;rw[aae];exact⟨⟨by omega,by omega⟩,aK (decide_eq_false (by omega)) ⟨⟨by omega,by omega⟩,aK (decide_eq_false (by omega)) ⟨⟨by omega,by omega⟩,rfl⟩⟩⟩
  ·unfold Tr at hp;unfold J9;rw[aae];refine⟨⟨by omega,by omega⟩,?_⟩;by_cases h1:(x.styl.getD k aj.zero).prec.length<=12
   ·rw[decide_eq_true h1,acO] at hp;have:=of_decide_eq_false hp;exact aK (decide_eq_false (by omega)) ⟨⟨by omega,by omega⟩,aC (decide_eq_true (by omega)) rfl⟩
   ·exact aC (decide_eq_true (by omega)) rfl
 obtain⟨q,h1,h2⟩:=qV (back:=rC 4 x) (TT:=J9 x) hT h;refine⟨q,h1,?_⟩;rcases h2 with⟨rfl,rfl|rfl⟩|⟨rfl,h3,h4⟩
 ·rfl
 ·rfl
 ·exact⟨h3,h4⟩
abbrev sE:SS:=.st 5
def smB (e:aa):T XV:=.br (decide ((e.prec.length:Int)>12)) (.lf (aB false)) (.br (decide ((e.cont.length:Int)>4)) (.lf (aB false)) (.br (decide ((e.styl.length:Int)>6)) (.lf (aB false)) (.br (decide ((e.risk.num.length:Int)>1)) (.lf (aB false)) (.br (decide ((e.risk.den.length:Int)>1)) (.lf (aB false))
 (.nd ((0:Int)<=0/\(0:Int)<=e.cont.length) (.br (xJ (λk=>smC (e.cont.getD k ae.zero)) (e.cont.length-0) 0) (.nd ((0:Int)<=0/\(0:Int)<=e.styl.length) (.br (xJ (λk=>Tr (e.styl.getD k aj.zero)) (e.styl.length-0) 0) (.lf (aB true)) (.lf (aB false)))) (.lf (aB false))))))))
theorem Di {p:Prop} [Decidable p] {b y:Bool} {x:T XV} (hp:b=true↔¬p) (h:x.hit (aB y)):(T.br b (.lf (aB false)) x).hit (aB (decide p&&y)):=by
 by_cases h1:p
 ·rw[decide_eq_true h1,acO];exact aK (by cases b with|false=>rfl|true=>exact absurd h1 (hp.1 rfl)) h
 ·rw[decide_eq_false h1,adi];exact aC (hp.2 h1) rfl
theorem J8:ao Tryz.prog 45 false (az [(0,sE)] λ((e:aa),_)=>.lf (aB (jL e))):=
 aN (C:=C0) (((nL _ _).add 0 _ J7).add 1 _ J6) false 99 [(0,sE)] (λ((e:aa),_)=>smB e)
  (λ⟨(e:aa),_⟩ r _ h=>by
   obtain rfl:aB (jL e)=r:=h;refine⟨?_,.inr rfl⟩;show(smB e).hit _;unfold smB jL;rw[JA smC ae.zero e.cont 0 (abz _),JA Tr aj.zero e.styl 0 (abz _),acr,acr];refine Di (by rw[decide_eq_true_eq];omega) (Di (by rw[decide_eq_true_eq];omega) (Di (by rw[decide_eq_true_eq];omega) (Di (by rw[decide_eq_true_eq];omega) (Di (by rw[decide_eq_true_eq];omega) ⟨⟨by omega,by omega⟩,?_⟩))));show(T.br (e.cont.all smC) _ _).hit (aB (e.cont.all smC&&e.styl.all Tr));refine I8 λ_=>⟨⟨by omega,by omega⟩,?_⟩;cases e.styl.all Tr with
   | true=>exact aC rfl rfl
   | false=>exact aK rfl rfl) Tryz.func45
theorem BN:ao Tryz.prog 44 false (az [(0,sL),(1,sL)] λ((xs:List ByteArray),(ys:List ByteArray),_)=>.lf (aB (decide (xs=ys)))):=Rj (t:=.str) (g:=λ(xs ys:List ByteArray)=>decide (xs=ys)) λ_ _ _ _ _ _ _ xs ys _ h1 h2=>aa3 (xs:=xs) (ys:=ys) h1 h2
theorem Pp:ao Tryz.prog 56 false (az [(0,sIs),(1,sIs)] λ((xs:List Int),(ys:List Int),_)=>.lf (aB (decide (xs=ys)))):=Rj (t:=tI) (g:=λ(xs ys:List Int)=>decide (xs=ys)) λ_ _ _ _ _ _ _ xs ys _ h1 h2=>aa6 (xs:=xs) (ys:=ys) h1 h2
theorem TK:ao Tryz.prog 55 false (az [(0,.st 8),(1,.st 8)] λ((a:Raw),(b:Raw),_)=>.lf (aB (decide (a.neg=b.neg)&&(decide (a.num=b.num)&&decide (a.den=b.den))))):=
 gQ λw S x vs r hS he hl hr=>by
  obtain⟨(a:Raw),(b:Raw),_⟩:=x;obtain⟨v,h1,cs,h2,h3⟩:=he 0 (.agg (jS (.st 8) a)) aaz;obtain⟨v',jh,hZ,EI,Lv⟩:=he 1 (.agg (jS (.st 8) b)) (aa0 _ aaz);obtain rfl:=hr
  match vs,hl,h1,jh with
  | [u,u'],_,h1,jh=>
   injection h1 with h1
   injection jh with jh
   subst h1 jh h2 EI;have k1:SV w S (.agg cs.toArray) a:=⟨cs,rfl,jJ (t:=.st 8) (us:=jS (.st 8) a) rfl h3⟩;have k2:SV w S (.agg hZ.toArray) b:=⟨hZ,rfl,jJ (t:=.st 8) (us:=jS (.st 8) b) rfl Lv⟩;exact Calls.mono (Fx k1 k2 hS hS) λe w' ⟨e1,e2⟩=>⟨_,λ_=>False,e1,e2,λ_ q=>q.elim,rfl,rfl⟩
noncomputable def C11:eP Tryz.prog:=bA pG [⟨_,_,_,BN⟩,⟨_,_,_,Pp⟩,⟨_,_,_,TK⟩] []
noncomputable abbrev qfn:=Tryz.f21
noncomputable abbrev qRg:Rg Tryz.prog qfn.ntmps:=mi C11 qfn
theorem X1 {α:Type} (q:α->α->Bool) (d:α) {l m:List α} (hlm:l.length=m.length) (k:Nat) (hk:k<=l.length):xJ (λi=>q (l.getD i d) (m.getD i d)) (l.length-k) k=gw q (l.drop k) (m.drop k):=by
 obtain⟨j,hj⟩:∃j,l.length-k=j:=⟨_,rfl⟩;induction j generalizing k with
 | zero=>rw[hj,aaQ (by omega),aaQ (by omega)];rfl
 | succ j ih=>
  rw[hj,getD_drop d (by omega),getD_drop d (show k<m.length by omega),gw,<-ih (k+1) (by omega) (by omega),show l.length-(k+1)=j by omega];rfl
theorem wY {α:Type} {q:α->α->Bool}:∀{l m:List α},gw q l m=true->l.length=m.length
 | [],[],_=>rfl
 | _::_,_::_,h=>by
  rw[gw,aav] at h;rw[aaJ,aaJ,wY h.2]
def aa8 (a b:ae):List Bool:=[a.name.toList==b.name.toList,decide (a.cands=b.cands),a.method==b.method,a.seats==b.seats,a.ranks==b.ranks,a.digits==b.digits,a.ties==b.ties,a.over==b.over,a.skip==b.skip]
def aa4 (a b:aj):List Bool:=[a.name.toList==b.name.toList,decide (a.prec=b.prec),decide (a.cont=b.cont)]
theorem Dv (a b:ae):(aa8 a b).all id=aU a b:=by
 simp only[aa8,aU,acJ,adI,id,Bool.and_true,cO];rfl
theorem Dt (a b:aj):(aa4 a b).all id=be a b:=by
 simp only[aa4,be,acJ,adI,id,Bool.and_true,cO]
abbrev eqL (s:Nat):List (Nat×SS):=[(2,NL),(3,NL),(s,sI)]
abbrev eqO:List (Nat×SS):=[(2,NL),(3,NL)]
abbrev EqE (s:Nat):=LE (eqL s) eqO []
def si (s:Nat) (e f:mg) (i:Int):EqE s:=.back (e,f,i,())
def Jb (s:Nat) (e f:mg):EqE s:=.out (e,f,())
def yU (s:Nat):EqE s:=.ret (.one (.val (.bool false))) ()
def agt (e f:mg) (i:Int):T (EqE 5):=.nd (0<=i/\i<e.cont.length) (.nd (0<=i/\i<f.cont.length) (LX (.lf (yU 5)) (aa8 (e.cont.getD i.toNat ae.zero) (f.cont.getD i.toNat ae.zero)) (.nd (cw (i+1)) (.lf (si 5 e f (i+1))))))
def ags (e f:mg) (i:Int):T (EqE 8):=.nd (0<=i/\i<e.styl.length) (.nd (0<=i/\i<f.styl.length) (LX (.lf (yU 8)) (aa4 (e.styl.getD i.toNat aj.zero) (f.styl.getD i.toNat aj.zero)) (.nd (cw (i+1)) (.lf (si 8 e f (i+1))))))
theorem aa2:cL qRg 0 0 (eqL 5) eqO [] λ((e:mg),(f:mg),(i:Int),_)=>.nd (e.cont.length=f.cont.length) (Mi (Jb 5 e f) (yU 5) (λk=>aU (e.cont.getD k ae.zero) (f.cont.getD k ae.zero)) e.cont.length i):=by
 refine fy _ (nL _ _) 99 0 0 (eqL 5) eqO [] (λ((e:mg),(f:mg),(i:Int),_)=>.br (decide (i<e.cont.length)) (agt e f i) (.lf (Jb 5 e f))) (λ((e:mg),_,(i:Int),_)=>e.cont.length-i.toNat) ?_;rintro⟨(e:mg),(f:mg),(i:Int),_⟩ r rh ⟨bJ,h⟩;have hl:e.cont.length<=9223372036854775807:=rh.1.2.2.2.2.2.1;obtain⟨q,h1,h2⟩:=qV (back:=si 5 e f) (TT:=agt e f) (λk hk=>⟨λhp=>⟨⟨by omega,by omega⟩,⟨by omega,by omega⟩,Jp (t:=.nd (cw ((k:Int)+1)) (.lf (si 5 e f ((k:Int)+1)))) ⟨⟨by omega,by omega⟩,rfl⟩ _ (by rw[Dv];exact hp)⟩,λhp=>⟨⟨by omega,by omega⟩,⟨by omega,by omega⟩,Jq (ret:=.lf (yU 5)) rfl _ (by rw[Dv];exact hp)⟩⟩) h;refine⟨q,h1,?_⟩;rcases h2 with⟨rfl,rfl|rfl⟩|⟨rfl,h3,h4⟩
 ·rfl
 ·rfl
 ·exact⟨h3,bJ,h4⟩
theorem aa1:cL qRg 1 2 (eqL 8) eqO [] λ((e:mg),(f:mg),(i:Int),_)=>.nd (e.styl.length=f.styl.length) (Mi (Jb 8 e f) (yU 8) (λk=>be (e.styl.getD k aj.zero) (f.styl.getD k aj.zero)) e.styl.length i):=by
 refine fy _ (nL _ _) 99 1 2 (eqL 8) eqO [] (λ((e:mg),(f:mg),(i:Int),_)=>.br (decide (i<e.styl.length)) (ags e f i) (.lf (Jb 8 e f))) (λ((e:mg),_,(i:Int),_)=>e.styl.length-i.toNat) ?_;rintro⟨(e:mg),(f:mg),(i:Int),_⟩ r rh ⟨bJ,h⟩;have hl:e.styl.length<=9223372036854775807:=rh.1.2.2.2.2.2.2.1;obtain⟨q,h1,h2⟩:=qV (back:=si 8 e f) (TT:=ags e f) (λk hk=>⟨λhp=>⟨⟨by omega,by omega⟩,⟨by omega,by omega⟩,Jp (t:=.nd (cw ((k:Int)+1)) (.lf (si 8 e f ((k:Int)+1)))) ⟨⟨by omega,by omega⟩,rfl⟩ _ (by rw[Dt];exact hp)⟩,λhp=>⟨⟨by omega,by omega⟩,⟨by omega,by omega⟩,Jq (ret:=.lf (yU 8)) rfl _ (by rw[Dt];exact hp)⟩⟩) h;refine⟨q,h1,?_⟩;rcases h2 with⟨rfl,rfl|rfl⟩|⟨rfl,h3,h4⟩
 ·rfl
 ·rfl
 ·exact⟨h3,bJ,h4⟩
def QF (e f:aa):List Bool:=[e.title.toList==f.title.toList,e.dots==f.dots,e.blank==f.blank,e.marked==f.marked,e.scan==f.scan,e.batch==f.batch,e.cell==f.cell,e.seed.toList==f.seed.toList,
 decide (e.risk.neg=f.risk.neg)&&(decide (e.risk.num=f.risk.num)&&decide (e.risk.den=f.risk.den)),decide (e.prec=f.prec),(e.cont.length:Int)==(f.cont.length:Int),(e.styl.length:Int)==(f.styl.length:Int)]
def eqB (e f:aa):T XV:=LX (.lf (aB false)) (QF e f) (.nd (e.cont.length=f.cont.length) (.nd ((0:Int)<=0/\(0:Int)<=e.cont.length) (.br (xJ (λk=>aU (e.cont.getD k ae.zero) (f.cont.getD k ae.zero)) (e.cont.length-0) 0)
 (.nd (e.styl.length=f.styl.length) (.nd ((0:Int)<=0/\(0:Int)<=e.styl.length) (.br (xJ (λk=>be (e.styl.getD k aj.zero) (f.styl.getD k aj.zero)) (e.styl.length-0) 0) (.lf (aB true)) (.lf (aB false))))) (.lf (aB false)))))
theorem VF (e f:aa):EJ e f=((QF e f).all id&&(gw aU e.cont f.cont&&gw be e.styl f.styl)):=by
 rw[acD];simp only[EJ,QF,acJ,adI,id,cO,aav,decide_eq_true_eq,beq_iff_eq,Int.natCast_inj];constructor
 ·rintro⟨h1,h2,h3,h4,h5,h6,h7,h8,h9,h10,h11,h12,h13,h14⟩;exact⟨⟨h1,h2,h3,h4,h5,h6,h7,h8,⟨h9,h10,h11⟩,h12,wY h13,wY h14,trivial⟩,h13,h14⟩
 ·rintro⟨⟨h1,h2,h3,h4,h5,h6,h7,h8,⟨h9,h10,h11⟩,h12,_,_,_⟩,h13,h14⟩;exact⟨h1,h2,h3,h4,h5,h6,h7,h8,h9,h10,h11,h12,h13,h14⟩
theorem Gh:ao Tryz.prog 21 false (az [(0,sE),(1,sE)] λ((e:aa),(f:aa),_)=>.lf (aB (EJ e f))):=
 aN (C:=C11) (((nL _ _).add 0 _ aa2).add 1 _ aa1) false 99 [(0,sE),(1,sE)] (λ((e:aa),(f:aa),_)=>eqB e f)
  (λ⟨(e:aa),(f:aa),_⟩ r _ h=>by
   obtain rfl:aB (EJ e f)=r:=h;refine⟨?_,.inr rfl⟩;show(eqB e f).hit _;unfold eqB;rw[VF];cases eQ:(QF e f).all id with
   | false=>exact Jq (ret:=.lf (aB false)) rfl _ eQ
   | true=>
    have I2:e.cont.length=f.cont.length/\e.styl.length=f.styl.length:=by
     simp only[QF,acJ,adI,id,aav,beq_iff_eq,Int.natCast_inj] at eQ;obtain⟨_,_,_,_,_,_,_,_,_,_,h1,h2,_⟩:=eQ;exact⟨h1,h2⟩
    refine Jp (r:=aB _) ?_ _ eQ;refine⟨I2.1,⟨by omega,by omega⟩,?_⟩;rw[X1 aU ae.zero I2.1 0 (abz _),X1 be aj.zero I2.2 0 (abz _),acr,acr,acr,acr,acO];refine I8 λ_=>⟨I2.2,⟨by omega,by omega⟩,?_⟩;cases gw be e.styl f.styl with
    | true=>exact aC rfl rfl
    | false=>exact aK rfl rfl) Tryz.func21
theorem qx (l:List ByteArray) (s:ByteArray):dc l s=true↔s∈l:=Lib.containsS_iff l s
theorem K8 (l:List UInt8):jM l=gK l:=by
 rw[acD];constructor
 ·intro h;unfold jM at h;simp only[aav,decide_eq_true_eq,abc,acK,acs] at h;obtain⟨h1,h2,h3,h4⟩:=h;have hw:=kE h1;unfold gK;simp only[aav,decide_eq_true_eq];refine⟨by rintro rfl;simp at h2,?_⟩;unfold cK;rw[hw.1,if_neg];rintro(h|h|⟨h,h'⟩|h)
  ·omega
  ·omega
  ·rcases h4 with h4|h4
   ·omega
   ·rw[h] at h4;simp at h4
  ·rw[abC (aaG _)] at h;simp at h
 ·intro h;obtain⟨h1,h2,h3⟩:=gS h;have hw:=kE h3;unfold gK at h;simp only[aav,decide_eq_true_eq] at h;have h4:=h.2;have hl:1<=l.length:=by
   rcases l with _|⟨c,r⟩
   ·exact absurd rfl h1
   ·simp
  unfold jM;simp only[aav,decide_eq_true_eq,abc,acK,acs];refine⟨h3,hl,h2,?_⟩;unfold cK at h4;rw[hw.1] at h4;by_cases jh:l.length=1
  ·exact .inl jh
  ·refine .inr ?_;by_cases h5:l.head?=some 48
   ·rw[if_pos (.inr (.inr (.inl ⟨h5,by omega⟩)))] at h4;omega
   ·simpa using h5
theorem Cr {x:UInt8} {d:Nat} (h:Lib.digitVal x=some d) (n:Nat):cP (n:Int) x=((n*10+d:Nat):Int):=by
 unfold Lib.digitVal at h;split at h
 ·injection h with h
  unfold cP;omega
 ·cases h
theorem Dp:∀(l:List UInt8) (cY n:Nat),Lib.decFrom cY l=some n->l.foldl cP (cY:Int)=(n:Int)
 | [],cY,n,h=>by simp only[Lib.decFrom,Option.some.injEq] at h;simp[h]
 | x::l,cY,n,h=>by
  simp only[Lib.decFrom] at h;cases hd:Lib.digitVal x with
  | none=>rw[hd] at h;cases h
  | some d=>
   rw[hd] at h;rw[adl,Cr hd];exact Dp l _ n h
theorem vt (l:List UInt8):(cW l).2=(bQ l).2:=by
 unfold cW bQ;rw[K8];cases gK l<;>rfl
theorem vn {l:List UInt8} (h:(bQ l).2=true):(cW l).1=(bQ l).1:=by
 have hn:gK l=true:=by
  unfold bQ at h;cases hb:gK l with
  | true=>rfl
  | false=>rw[hb] at h;simp at h
 obtain⟨h1,h2,h3⟩:=gS hn;obtain⟨n,hn2⟩:=kf l 0 h3;have hd:Lib.decNat l=some n:=by
  unfold Lib.decNat;rw[if_neg (by cases l with|nil=>exact absurd rfl h1|cons _ _=>simp)];exact hn2
 unfold cW bQ;rw[hn,if_pos rfl,hd,acz h2];exact Dp l 0 n hn2
theorem CW {c:UInt8} {r:List UInt8}:iu (c::r)=true↔iD (c::r)=true/\97<=c.toNat:=by
 constructor
 ·intro h;unfold iu at h;simp only[aav,decide_eq_true_eq,List.head?_cons,acU,acw] at h;obtain⟨_,h2,h3⟩:=h;have hc:97<=c.toNat:=by
   unfold fl at h2;simp only[aav,decide_eq_true_eq] at h2;exact h2.1
  refine⟨?_,hc⟩;unfold iD;rw[if_neg (by simp),if_pos];left
  unfold dn;simp only;rw[if_pos h2];exact h3
 ·rintro⟨h1,h2⟩;have EE:∀q:List UInt8,gK (c::q)=true->False:=λq h=>by
   have:=(gS h).2.2 c (by simp);unfold digitB at this;simp only[aav,decide_eq_true_eq] at this;omega
  unfold iD at h1;rw[if_neg (by simp)] at h1;split at h1
  ·rename_i h3;rcases h3 with h3|h3
   ·unfold dn at h3;simp only at h3;by_cases hl:fl c=true
    ·rw[if_pos hl] at h3;unfold iu;simp only[aav,decide_eq_true_eq,List.head?_cons,acU,acw];exact⟨by simp,hl,h3⟩
    ·rw[if_neg hl] at h3;simp at h3
   ·exfalso
    refine EE r ?_;unfold gK;simp only[aav,decide_eq_true_eq];exact⟨by simp,h3⟩
  ·exfalso
   simp only[aav,decide_eq_true_eq] at h1;obtain⟨_,h4,_,h5,_⟩:=h1;have h6:gK (dy (c::r))=true:=by
    unfold gK;simp only[aav,decide_eq_true_eq];exact⟨h4,h5⟩
   unfold dy at h6 h4;rw[ade] at h6 h4;split at h6
   ·exact EE _ h6
   ·rename_i h7;rw[if_neg h7] at h4;exact h4 rfl
theorem SO {l:List UInt8} (hl:l≠[]):iu l=false↔iD l=false\/((l[0]?).getD 0).toNat<97:=by
 cases l with
 | nil=>exact absurd rfl hl
 | cons c r=>
  have h:=CW (c:=c) (r:=r);simp only[adb,acw];constructor
  ·intro h1;by_cases h2:97<=c.toNat
   ·left
    cases h3:iD (c::r) with
    | false=>rfl
    | true=>rw[h.2 ⟨h3,h2⟩] at h1;cases h1
   ·right;omega
  ·intro h1;cases h2:iu (c::r) with
   | false=>rfl
   | true=>
    obtain⟨h3,h4⟩:=h.1 h2;rcases h1 with h1|h1
    ·rw[h3] at h1;cases h1
    ·omega
theorem gW (s:Bool) {A B:Nat} (hB:0<B):0<(dN s A B).d/\(dN s A B).n*B=A*(dN s A B).d:=by
 unfold dN;split
 ·rename_i h;rcases h with h|h
  ·simp[h]
  ·omega
 ·rename_i h;have hA:0<A:=by omega
  refine⟨Nat.div_pos (Nat.gcd_le_right _ hB) (Nat.gcd_pos_of_pos_left _ hA),?_⟩;show A/Nat.gcd A B*B=A*(B/Nat.gcd A B);rw[Nat.div_mul_right_comm (Nat.gcd_dvd_left A B),Nat.mul_div_assoc _ (Nat.gcd_dvd_right A B)]
theorem fw (s:Bool) {A B:Nat} (hB:0<B):((dN s A B).n=0↔A=0)/\(dN s A B).neg=(s&&!decide (A=0)):=by
 unfold dN;split
 ·rename_i h;rcases h with h|h
  ·simp[h]
  ·omega
 ·rename_i h;have hA:0<A:=by omega
  have hg:0<A/Nat.gcd A B:=Nat.div_pos (Nat.gcd_le_left _ hA) (Nat.gcd_pos_of_pos_left _ hA);refine⟨⟨λh=>?_,λh=>by omega⟩,by simp;omega⟩;have h1:A/Nat.gcd A B=0:=h;omega
theorem Ra {p q:Q} (hp:p.neg=false) (hq:q.neg=true\/q.n=0) (hpd:0<p.d) (Xm:0<q.d):(m8 p q<0↔p.n*q.d<q.n*p.d)/\(0<m8 p q↔q.n*p.d<p.n*q.d):=by
 have hd:0<p.d*q.d:=Nat.mul_pos hpd Xm;obtain⟨X,hX⟩:∃X,p.n*q.d=X:=⟨_,rfl⟩;obtain⟨Y,hY⟩:∃Y,q.n*p.d=Y:=⟨_,rfl⟩;unfold m8 xa;rw[hX,hY,hp];obtain⟨D,hD⟩:∃D,p.d*q.d=D:=⟨_,rfl⟩;rw[hD] at hd;rw[hD];have hs:oQ false X q.neg Y=if Y<=X then(false,X-Y) else(true,Y-X):=by
  unfold oQ;cases hn:q.neg with
  | true=>simp
  | false=>
   rcases hq with hq|hq
   ·rw[hn] at hq;cases hq
   ·have Gd:Y=0:=by rw[<-hY,hq,Nat.zero_mul]
    subst Gd;simp
 rw[hs];by_cases h:Y<=X
 ·rw[if_pos h];have hz:=fw false (A:=X-Y) hd;simp only[adi] at hz;rw[hz.2];by_cases h0:X-Y=0
  ·rw[if_neg (by simp),if_pos (hz.1.2 h0)];constructor<;>constructor<;>intro h'<;>omega
  ·rw[if_neg (by simp),if_neg (λh'=>h0 (hz.1.1 h'))];constructor<;>constructor<;>intro h'<;>omega
 ·rw[if_neg h];have hz:=fw true (A:=Y-X) hd;have h0:¬Y-X=0:=by omega
  rw[decide_eq_false h0] at hz;rw[if_pos (by rw[hz.2];rfl)];constructor<;>constructor<;>intro h'<;>omega
theorem kX (A C:Nat) {B D:Nat} (hB:0<B) (hD:0<D):(oq (dN false A B) (dN false C D)<0↔A*D<C*B)/\(0<oq (dN false A B) (dN false C D)↔C*B<A*D):=by
 have h1:=gW false (A:=A) hB;have h2:=gW false (A:=C) hD;have n1:=fw false (A:=A) hB;obtain⟨a,ha⟩:∃a,dN false A B=a:=⟨_,rfl⟩;obtain⟨c,hc⟩:∃c,dN false C D=c:=⟨_,rfl⟩;rw[ha] at h1 n1;rw[hc] at h2;rw[ha,hc];have e1:a.raw.q=dN a.neg a.n a.d:=Q.raw_q a;have e2:c.raw.flip.q=dN (!c.neg) c.n c.d:=by simp[Q.raw,Raw.flip,Raw.q,bn]
 have c0:c.neg=false:=by rw[<-hc];exact(fw false hD).2
 have a0:a.neg=false:=n1.2;unfold oq;rw[e1,e2,c0,a0];have p1:=gW false (A:=a.n) h1.1;have p2:=gW (!false) (A:=c.n) h2.1;have z1:=fw false (A:=a.n) h1.1;have z2:=fw (!false) (A:=c.n) h2.1;obtain⟨p,hp⟩:∃p,dN false a.n a.d=p:=⟨_,rfl⟩;obtain⟨q,hq⟩:∃q,dN (!false) c.n c.d=q:=⟨_,rfl⟩;rw[hp] at p1 z1;rw[hq] at p2 z2;rw[hp,hq];have hqn:q.neg=true\/q.n=0:=by
  by_cases h:c.n=0
  ·exact .inr (z2.1.2 h)
  ·left;rw[z2.2,decide_eq_false h];rfl
 have hm:=Ra z1.2 hqn p1.1 p2.1;have x1:p.n*B=A*p.d:=by
  have:p.n*B*a.d=A*p.d*a.d:=by
   calc p.n*B*a.d=(p.n*a.d)*B:=by rw[ac4]
    _=(a.n*p.d)*B:=by rw[p1.2]
    _=(a.n*B)*p.d:=by rw[ac4]
    _=(A*a.d)*p.d:=by rw[h1.2]
    _=A*p.d*a.d:=by rw[ac4]
  exact adv h1.1 this
 have x2:q.n*D=C*q.d:=by
  have:q.n*D*c.d=C*q.d*c.d:=by
   calc q.n*D*c.d=(q.n*c.d)*D:=by rw[ac4]
    _=(c.n*q.d)*D:=by rw[p2.2]
    _=(c.n*D)*q.d:=by rw[ac4]
    _=(C*c.d)*q.d:=by rw[h2.2]
    _=C*q.d*c.d:=by rw[ac4]
  exact adv h2.1 this
 have hBD:0<B*D:=Nat.mul_pos hB hD;have hpq:0<p.d*q.d:=Nat.mul_pos p1.1 p2.1;have y1:(p.n*q.d)*(B*D)=(A*D)*(p.d*q.d):=by
  calc (p.n*q.d)*(B*D)=(p.n*B)*(q.d*D):=by rw[acX]
   _=(A*p.d)*(D*q.d):=by rw[x1,adm q.d D]
   _=(A*D)*(p.d*q.d):=by rw[acX]
 have y2:(q.n*p.d)*(B*D)=(C*B)*(p.d*q.d):=by
  calc (q.n*p.d)*(B*D)=(q.n*p.d)*(D*B):=by rw[adm B D]
   _=(q.n*D)*(p.d*B):=by rw[acX]
   _=(C*q.d)*(B*p.d):=by rw[x2,adm p.d B]
   _=(C*B)*(q.d*p.d):=by rw[acX]
   _=(C*B)*(p.d*q.d):=by rw[adm q.d p.d]
 have hlt:∀u v u' v':Nat,u*(B*D)=u'*(p.d*q.d)->v*(B*D)=v'*(p.d*q.d)->(u<v↔u'<v'):=λu v u' v' e1 e2=>by
  rw[<-Nat.mul_lt_mul_right hBD,e1,e2,Nat.mul_lt_mul_right hpq]
 exact⟨hm.1.trans (hlt _ _ _ _ y1 y2),hm.2.trans (hlt _ _ _ _ y2 y1)⟩
theorem nV (a b:Nat):fh a b=dN false a b:=by
 unfold fh;have h1:decide ((a:Int)<0)=false:=decide_eq_false (by omega);have h2:decide ((b:Int)<0)=false:=decide_eq_false (by omega);rw[h1,h2];simp
theorem pW (l:List UInt8):∃n:Nat,(bQ l).1=(n:Int):=⟨(bQ l).1.toNat,by have:=(gR l).1;omega⟩
theorem VS {l:List UInt8} (h:iJ l=false):(bQ (dw l)).2=false:=by
 rcases ji l with h1|⟨k,_,h2,h3,_⟩
 ·rw[(wL h1).2.1];rfl
 ·rw[(qI h2 h3).2.2] at h;cases h
theorem Ca (l:List UInt8):(dR l).1=(ig l).1/\((ig l).1=0->(ig l).2=some (dR l).2):=by
 unfold dR ig;rw[vt,vt];by_cases hn:((bQ (dy l)).2&&(bQ (dw l)).2)=false
 ·rw[if_pos (.inr hn),if_pos hn];exact⟨rfl,λh=>by cases h⟩
 ·have hc:¬iJ l=false:=λh=>hn (by rw[VS h,Bool.and_false]);rw[if_neg (by rintro(h|h);exact hc h;exact hn h),if_neg hn];have um:(bQ (dy l)).2=true/\(bQ (dw l)).2=true:=by
   revert hn
   cases (bQ (dy l)).2<;>cases (bQ (dw l)).2<;>simp
  rw[vn um.1,vn um.2];obtain⟨a,ha⟩:=pW (dy l);obtain⟨b,hb⟩:=pW (dw l);rw[ha,hb];have e1:fh 1 1000=dN false 1 1000:=nV 1 1000;have e2:fh 1 2=dN false 1 2:=nV 1 2;rw[nV,e1,e2];have afR:((b:Int)=0\/1000*(a:Int)<b\/(b:Int)<2*a)↔((b:Int)=0\/oq (dN false a b) (dN false 1 1000)<0\/0<oq (dN false a b) (dN false 1 2)):=by
   by_cases hb0:b=0
   ·simp[hb0]
   ·have hbp:0<b:=by omega
    rw[(kX a 1 hbp (by omega:0<1000)).1,(kX a 1 hbp (by omega:0<2)).2];omega
  by_cases h4:(b:Int)=0\/1000*(a:Int)<b\/(b:Int)<2*a
  ·rw[if_pos h4,if_pos (afR.1 h4)];exact⟨rfl,λh=>by cases h⟩
  ·rw[if_neg h4,if_neg (λh=>h4 (afR.2 h))];exact⟨rfl,λ_=>rfl⟩
theorem Fp (s:ByteArray):da s 0 24=true↔¬(s≠⟨#[]⟩/\mT s=false):=by
 by_cases h:s=⟨#[]⟩
 ·subst h;simp;kernel_rfl
 ·have hs:1<=s.size:=by
   rcases ac0 s.size with h0|h0
   ·exfalso
    apply h;obtain⟨⟨l⟩⟩:=s;have:l.length=0:=h0;rw[aaY this]
   ·exact h0
  have e:mT s=da s 0 24:=by
   unfold mT da;rw[decide_eq_true (by omega:(1:Int)<=(s.size:Int)),decide_eq_true (by omega:(0:Int)<=(s.size:Int))];rw[acO,acO,Bool.and_comm]
  rw[e];simp[h]
def jr (no line:Int):dG:=if no=0 then⟨0,0⟩ else⟨no,line⟩
theorem gm (no line:Int):(⟨0,0⟩:dG).note no line=jr no line:=by
 unfold dG.note jr;by_cases h:no=0
 ·rw[if_neg (λk=>k.2 h),if_pos h]
 ·rw[if_pos ⟨rfl,h⟩,if_neg h]
theorem qA (line:Int):jr 0 line=⟨0,0⟩:=rfl
theorem qC {no line:Int}:(jr no line).no=no:=by
 unfold jr;split
 ·rename_i h;exact h.symm
 ·rfl
theorem rF {f:dG} {no line:Int} (h:f.no≠0):f.note no line=f:=by
 unfold dG.note;rw[if_neg (λk=>h k.1)]
theorem FH (f:dG) (line:Int):f.note 0 line=f:=by
 unfold dG.note;rw[if_neg (λk=>k.2 rfl)]
theorem ii {kind:ByteArray} {f:ai} {v:aJ} {lo hi:Int} (dQ:Lib.containsS (aO kind) f.key=true) (hk:(v.ln f.key).isSome=false) (h1:bL f.key=0) (h2:aD f.key=[]) (h3:f.key≠dZ) (h4:f.key≠gJ) (h5:dz f.key=(lo,hi)) : (bV kind f v).1=qY f.vals lo hi/\(qY f.vals lo hi=0->(bV kind f v).2={ v with ln:=setF v.ln f.key f.line,num:=setF v.num f.key (lm f.vals) }):=by
 unfold bV qY;rw[if_neg (by rw[dQ];simp),if_neg (by rw[hk];simp),if_neg (by rw[h1];simp)];by_cases hl:f.vals.length≠1
 ·rw[if_pos hl,if_pos hl];exact⟨rfl,λh=>by cases h⟩
 ·rw[if_neg hl,if_neg hl];have hv:bf f.vals=f.vals.getD 0 ⟨#[]⟩:=by unfold bf;rw[if_neg hl]
  unfold vi lm;rw[hv,if_neg (by rw[h2];simp),if_neg h3,if_neg h4,h5,vt];by_cases hn:(bQ (f.vals.getD 0 ⟨#[]⟩).data.toList).2=false
  ·rw[if_pos hn,if_pos hn];exact⟨rfl,λh=>by cases h⟩
  ·rw[if_neg hn,if_neg hn,vn (by simpa using hn)];simp only;split
   ·exact⟨rfl,λh=>by cases h⟩
   ·exact⟨rfl,λ_=>rfl⟩
theorem pP {kind:ByteArray} {f:ai} {v:aJ} {ws:List ByteArray} (dQ:Lib.containsS (aO kind) f.key=true) (hk:(v.ln f.key).isSome=false) (h1:bL f.key=0) (h2:aD f.key=ws) (h3:ws≠[]) : (bV kind f v).1=pk f.vals ws/\(pk f.vals ws=0->(bV kind f v).2={ v with ln:=setF v.ln f.key f.line,num:=setF v.num f.key (jT f.vals ws) }):=by
 unfold bV pk;rw[if_neg (by rw[dQ];simp),if_neg (by rw[hk];simp),if_neg (by rw[h1];simp)];by_cases hl:f.vals.length≠1
 ·rw[if_pos hl,if_pos hl];exact⟨rfl,λh=>by cases h⟩
 ·rw[if_neg hl,if_neg hl];have hv:bf f.vals=f.vals.getD 0 ⟨#[]⟩:=by unfold bf;rw[if_neg hl]
  unfold vi jT;rw[hv,if_pos (by rw[h2];exact h3),h2];have hm:-1<=Lib.idxOfS ws (f.vals.getD 0 ⟨#[]⟩):=by
   unfold Lib.idxOfS;exact(iy (f.vals.getD 0 ⟨#[]⟩) ws 0).1
  simp only;by_cases hn:Lib.idxOfS ws (f.vals.getD 0 ⟨#[]⟩)<0
  ·rw[if_pos hn,if_pos (by omega)];exact⟨rfl,λh=>by cases h⟩
  ·rw[if_neg hn,if_neg (by omega)];refine⟨?_,λ_=>?_⟩<;>first|rfl|trivial
theorem pK {kind:ByteArray} {f:ai} {v:aJ} {n:Int} (dQ:Lib.containsS (aO kind) f.key=true) (hk:(v.ln f.key).isSome=false) (h1:bL f.key=n) (hn:0<n) : (bV kind f v).1=dl f.vals n/\(dl f.vals n=0->(bV kind f v).2={ v with ln:=setF v.ln f.key f.line,lst:=setF v.lst f.key f.vals }):=by
 unfold bV;rw[if_neg (by rw[dQ];simp),if_neg (by rw[hk];simp),if_pos (by rw[h1];exact hn),h1];exact⟨rfl,λ_=>rfl⟩
theorem Kq {kind:ByteArray} {f:ai} {v:aJ} (dQ:Lib.containsS (aO kind) f.key=true) (hk:(v.ln f.key).isSome=false) (h:f.key=dZ) : (bV kind f v).1=jZ f.vals/\(jZ f.vals=0->(bV kind f v).2={ v with ln:=setF v.ln f.key f.line,risk:=(dR (bf f.vals).data.toList).2 }):=by
 have h1:bL f.key=0:=by rw[h];kernel_rfl
 have h2:aD f.key=[]:=by rw[h];kernel_rfl
 unfold bV jZ;rw[if_neg (by rw[dQ];simp),if_neg (by rw[hk];simp),if_neg (by rw[h1];simp)];by_cases hl:f.vals.length≠1
 ·rw[if_pos hl,if_pos hl];exact⟨rfl,λh=>by cases h⟩
 ·rw[if_neg hl,if_neg hl];have hv:bf f.vals=f.vals.getD 0 ⟨#[]⟩:=by unfold bf;rw[if_neg hl]
  unfold vi;rw[hv,if_neg (by rw[h2];simp),if_pos h];have hr:=Ca (f.vals.getD 0 ⟨#[]⟩).data.toList;refine⟨hr.1.symm,λh0=>?_⟩;rw[hr.2 (hr.1.symm.trans h0)];rfl
theorem Kp {kind:ByteArray} {f:ai} {v:aJ} (dQ:Lib.containsS (aO kind) f.key=true) (hk:(v.ln f.key).isSome=false) (h:f.key=gJ) : (bV kind f v).1=mN f.vals/\(mN f.vals=0->(bV kind f v).2={ v with ln:=setF v.ln f.key f.line,seed:=bf f.vals }):=by
 have h1:bL f.key=0:=by rw[h];kernel_rfl
 have h2:aD f.key=[]:=by rw[h];kernel_rfl
 unfold bV mN;rw[if_neg (by rw[dQ];simp),if_neg (by rw[hk];simp),if_neg (by rw[h1];simp)];by_cases hl:f.vals.length≠1
 ·rw[if_pos hl,if_pos hl];exact⟨rfl,λh=>by cases h⟩
 ·rw[if_neg hl,if_neg hl];have hv:bf f.vals=f.vals.getD 0 ⟨#[]⟩:=by unfold bf;rw[if_neg hl]
  unfold vi;rw[hv,if_neg (by rw[h2];simp),if_neg (by rw[h];decide),if_pos h];have hp:=Fp (f.vals.getD 0 ⟨#[]⟩);by_cases hq:da (f.vals.getD 0 ⟨#[]⟩) 0 24=true
  ·rw[if_pos hq,if_neg (hp.1 hq)];exact⟨rfl,λ_=>rfl⟩
  ·rw[if_neg hq,if_pos (aca.1 λh'=>hq (hp.2 h'))];exact⟨rfl,λh=>by cases h⟩
structure nr (kind nm:ByteArray) (b:cE) (v:aJ) (x:em):Prop where
 f:x.f=⟨0,0⟩
 kn:∀k,dc x.known k=(v.ln k).isSome
 only:∀k,(v.ln k).isSome=true->k∈aO kind
 e:kind≠ar->kind≠aG->x.e=(bb kind nm v b).e
 e':(kind=ar\/kind=aG)->x.e=b.e
 c:kind=ar->({ x.c with name:=nm }:ae)=dK nm v/\x.digits=v.l aH/\x.seats=v.l bH
 c':kind≠ar->x.c=ae.zero
 s:kind=aG->x.n0=v.s af/\x.n1=v.s ay/\x.l0=v.l af/\x.l1=v.l ay
theorem yL (l:List ByteArray) (a k:ByteArray):dc (l++[a]) k=(dc l k||decide (k=a)):=by
 rw[acD,acK,qx,qx,decide_eq_true_eq];simp
theorem UP {l:List ByteArray} {ln:ByteArray->Option Int} (h:∀k,dc l k=(ln k).isSome) (a:ByteArray) (line:Int):∀k,dc (l++[a]) k=(setF ln a line k).isSome:=by
 intro k;rw[yL,h];unfold setF;by_cases e:k=a
 ·rw[if_pos e,decide_eq_true e];simp
 ·rw[if_neg e,decide_eq_false e];simp
theorem KF {kind:ByteArray} {ln:ByteArray->Option Int} (h:∀k,(ln k).isSome=true->k∈aO kind) {a:ByteArray} (ha:a∈aO kind) (line:Int):∀k,(setF ln a line k).isSome=true->k∈aO kind:=by
 intro k hk;unfold setF at hk;split at hk
 ·rename_i e;rw[e];exact ha
 ·exact h k hk
theorem lF {kind key:ByteArray} (h:key∈aO kind):(kind=bZ/\(key=iK\/key=cF\/key=bO))\/(kind=aX/\(key=fJ\/key=fL))\/(kind=af/\(key=eA))\/(kind=ar/\(key=bg\/key=bH\/key=gB\/key=aH\/key=il\/key=ck\/key=im\/key=fK))\/(kind=aG/\(key=af\/key=ay))\/(kind=bP/\(key=dZ\/key=gJ))\/(kind=bB/\(key=iL)):=by
 unfold aO at h;split at h
 ·rename_i e;have h2:key∈[iK,cF,bO]:=h;exact .inl (⟨e,by simpa using h2⟩)
 split at h
 ·rename_i e;have h2:key∈[fJ,fL]:=h;exact .inr (.inl (⟨e,by simpa using h2⟩))
 split at h
 ·rename_i e;have h2:key∈[eA]:=h;exact .inr (.inr (.inl (⟨e,by simpa using h2⟩)))
 split at h
 ·rename_i e;have h2:key∈[bg,bH,gB,aH,il,ck,im,fK]:=h;exact .inr (.inr (.inr (.inl (⟨e,by simpa using h2⟩))))
 split at h
 ·rename_i e;have h2:key∈[af,ay]:=h;exact .inr (.inr (.inr (.inr (.inl (⟨e,by simpa using h2⟩)))))
 split at h
 ·rename_i e;have h2:key∈[dZ,gJ]:=h;exact .inr (.inr (.inr (.inr (.inr (.inl (⟨e,by simpa using h2⟩))))))
 split at h
 ·rename_i e;have h2:key∈[iL]:=h;exact .inr (.inr (.inr (.inr (.inr (.inr (⟨e,by simpa using h2⟩))))))
 ·cases h
theorem CU:aO bP=[dZ,gJ]:=by kernel_rfl
def Ex (kind nm:ByteArray) (b:cE) (v:aJ) (x:em) (f:ai):Prop:=
 (eK kind x f).f=jr (bV kind f v).1 f.line/\((bV kind f v).1=0->nr kind nm b (bV kind f v).2 (eK kind x f))
section
variable {kind key nm:ByteArray} {b:cE} {v v':aJ} {x y:em} {vals:List ByteArray} {line C:Int}
theorem zE (h:nr kind nm b v x) (dQ:Lib.containsS (aO kind) key=true) (hr:(bV kind ⟨key,vals,line⟩ v).1=C/\(C=0->(bV kind ⟨key,vals,line⟩ v).2=v')) (hv:v'.ln=setF v.ln key line) (hs:eK kind x ⟨key,vals,line⟩={ y with f:=jr C line,known:=x.known++[key] }) (e:kind≠ar->kind≠aG->y.e=(bb kind nm v' b).e) (e':(kind=ar\/kind=aG)->y.e=b.e) (c:kind=ar->({ y.c with name:=nm }:ae)=dK nm v'/\y.digits=v'.l aH/\y.seats=v'.l bH) (c':kind≠ar->y.c=ae.zero) (s:kind=aG->y.n0=v'.s af/\y.n1=v'.s ay/\y.l0=v'.l af/\y.l1=v'.l ay):Ex kind nm b v x ⟨key,vals,line⟩:=by
 unfold Ex;rw[hs,hr.1];refine⟨rfl,λh0=>?_⟩;rw[hr.2 h0,h0];exact⟨rfl,hv▸UP h.kn _ _,hv▸KF h.only ((qx _ _).1 dQ) _,e,e',c,c',s⟩
variable (h:nr kind nm b v x) (hk:(v.ln key).isSome=false) (dQ:Lib.containsS (aO kind) key=true)
include h hk dQ
theorem Ff:eK kind x ⟨key,vals,line⟩=if kind=ar then { x with f:=jr (kg x.c ⟨key,vals,line⟩).2 line,known:=x.known++[key],c:=(kg x.c ⟨key,vals,line⟩).1,digits:=if key=aH then line else x.digits,seats:=if key=bH then line else x.seats } else if kind=aG/\key=af then { x with f:=jr (dl vals 12) line,known:=x.known++[key],n0:=vals,l0:=line } else if kind=aG then { x with f:=jr (dl vals 4) line,known:=x.known++[key],n1:=vals,l1:=line } else { x with f:=jr (gT kind x.e ⟨key,vals,line⟩).2 line,known:=x.known++[key],e:=(gT kind x.e ⟨key,vals,line⟩).1 }:=by
 have PW:dc (aO kind) key=true:=dQ;have pz:dc x.known key=false:=(h.kn _).trans hk;unfold eK;simp only[h.f,PW,pz,if_true,FH,acC,if_false,ne_eq,not_true_eq_false,gm]
theorem lx (up:aa->aa) (hr:(bV kind ⟨key,vals,line⟩ v).1=C/\(C=0->(bV kind ⟨key,vals,line⟩ v).2=v')) (hc:∀e,gT kind e ⟨key,vals,line⟩=(up e,C)) (eu:∀b,up (bb kind nm v b).e=(bb kind nm v' b).e) (hv:v'.ln=setF v.ln key line:=by rfl) (h1:kind≠ar:=by decide) (h2:kind≠aG:=by decide):Ex kind nm b v x ⟨key,vals,line⟩:=
 zE h dQ hr hv (y:={ x with e:=up x.e }) (by rw[Ff h hk dQ,if_neg h1,if_neg (λq=>h2 q.1),if_neg h2,hc]) (λ_ _=>(congrArg up (h.e h1 h2)).trans (eu b)) (λq=>(q.elim h1 h2).elim) (λq=>(h1 q).elim) h.c' λq=>(h2 q).elim
omit h hk dQ in
theorem OS (hv:v'.ln=setF v.ln key line) (k:ByteArray):v'.l k=if k=key then line else v.l k:=by
 unfold aJ.l setF at*;rw[hv];simp only;split<;>rfl
theorem mL (up:ae->ae) (hK:kind=ar) (hr:(bV kind ⟨key,vals,line⟩ v).1=C/\(C=0->(bV kind ⟨key,vals,line⟩ v).2=v')) (hc:∀c,kg c ⟨key,vals,line⟩=(up c,C)) (eu:up (dK nm v)=dK nm v') (hn:∀c:ae,({ up c with name:=nm }:ae)=up { c with name:=nm }:=by intro c;rfl) (hv:v'.ln=setF v.ln key line:=by rfl):Ex kind nm b v x ⟨key,vals,line⟩:=by
 obtain⟨c1,c2,c3⟩:=h.c hK;refine zE h dQ hr hv (y:={ x with c:=up x.c,digits:=if key=aH then line else x.digits,seats:=if key=bH then line else x.seats }) (by rw[Ff h hk dQ,if_pos hK,hc]) (λq=>(q hK).elim) h.e'
  (λ_=>⟨(hn x.c).trans ((congrArg up c1).trans eu),?_,?_⟩) (λq=>(q hK).elim) λq=>absurd (hK.symm.trans q) (by decide)
 ·show(if key=aH then _ else _)=_;rw[OS hv,c2];simp only[eq_comm]
 ·show(if key=bH then _ else _)=_;rw[OS hv,c3];simp only[eq_comm]
theorem Nr (hK:kind=aG) (hr:(bV kind ⟨key,vals,line⟩ v).1=C/\(C=0->(bV kind ⟨key,vals,line⟩ v).2={ v with ln:=setF v.ln key line,lst:=setF v.lst key vals })) (hC:C=dl vals (if key=af then 12 else 4)) (hp:key=af\/key=ay):Ex kind nm b v x ⟨key,vals,line⟩:=by
 subst hC hK;have hy:=Ff (vals:=vals) (line:=line) h hk dQ;rw[if_neg (by decide)] at hy;obtain⟨s1,s2,s3,s4⟩:=h.s rfl;rcases hp with rfl|rfl
 ·rw[if_pos ⟨rfl,rfl⟩] at hy;exact zE h dQ hr rfl (y:={ x with n0:=vals,l0:=line }) hy (λ_ q=>(q rfl).elim) h.e' (λq=>absurd q (by decide)) h.c' λ_=>⟨rfl,s2,rfl,s4⟩
 ·rw[if_neg (by decide),if_pos rfl] at hy;exact zE h dQ hr rfl (y:={ x with n1:=vals,l1:=line }) hy (λ_ q=>(q rfl).elim) h.e' (λq=>absurd q (by decide)) h.c' λ_=>⟨s1,rfl,s3,rfl⟩
end
theorem Tg {kind nm:ByteArray} {b:cE} {v:aJ} {x:em} (h:nr kind nm b v x) (f:ai) : (eK kind x f).f=jr (bV kind f v).1 f.line/\((bV kind f v).1=0->nr kind nm b (bV kind f v).2 (eK kind x f)):=by
 have hf:=h.f;by_cases dQ:Lib.containsS (aO kind) f.key=true
 ·by_cases hk:(v.ln f.key).isSome=true
  ·have hr:bV kind f v=(3,v):=by
    unfold bV;rw[if_neg (by rw[dQ];simp),if_pos hk]
   have PW:dc (aO kind) f.key=true:=dQ;have pz:dc x.known f.key=true:=(h.kn _).trans hk;rw[hr];refine⟨?_,λh0=>by cases h0⟩;unfold eK;simp only[hf,PW,pz,if_true,FH,gm];rw[if_pos (by rw[qC];omega)]
  ·have hk:(v.ln f.key).isSome=false:=by simpa using hk
   have hm:f.key∈aO kind:=(qx _ _).1 dQ;have hc:=lF hm;obtain⟨key,vals,line⟩:=f;simp only at hc dQ hk;rcases hc with⟨rfl,(rfl|rfl|rfl)⟩|⟨rfl,(rfl|rfl)⟩|⟨rfl,rfl⟩|⟨rfl,(rfl|rfl|rfl|rfl|rfl|rfl|rfl|rfl)⟩|⟨rfl,(rfl|rfl)⟩|⟨rfl,(rfl|rfl)⟩|⟨rfl,rfl⟩
   ·exact lx h hk dQ (λe=>{ e with dots:=lm vals }) (ii (lo:=2) (hi:=7) dQ hk (by kernel_rfl) (by kernel_rfl) (by dsimp only;decide) (by dsimp only;decide) (by kernel_rfl)) (λ_=>by kernel_rfl) λ_=>by kernel_rfl
   ·exact lx h hk dQ (λe=>{ e with blank:=lm vals }) (ii (lo:=1) (hi:=100) dQ hk (by kernel_rfl) (by kernel_rfl) (by dsimp only;decide) (by dsimp only;decide) (by kernel_rfl)) (λ_=>by kernel_rfl) λ_=>by kernel_rfl
   ·exact lx h hk dQ (λe=>{ e with marked:=lm vals }) (ii (lo:=1) (hi:=100) dQ hk (by kernel_rfl) (by kernel_rfl) (by dsimp only;decide) (by dsimp only;decide) (by kernel_rfl)) (λ_=>by kernel_rfl) λ_=>by kernel_rfl
   ·exact lx h hk dQ (λe=>{ e with scan:=lm vals }) (ii (lo:=1) (hi:=6) dQ hk (by kernel_rfl) (by kernel_rfl) (by dsimp only;decide) (by dsimp only;decide) (by kernel_rfl)) (λ_=>by kernel_rfl) λ_=>by kernel_rfl
   ·exact lx h hk dQ (λe=>{ e with batch:=lm vals }) (ii (lo:=1) (hi:=16) dQ hk (by kernel_rfl) (by kernel_rfl) (by dsimp only;decide) (by dsimp only;decide) (by kernel_rfl)) (λ_=>by kernel_rfl) λ_=>by kernel_rfl
   ·exact lx h hk dQ (λe=>{ e with prec:=vals }) (pK (n:=12) dQ hk (by kernel_rfl) (by decide)) (λ_=>by kernel_rfl) λ_=>by kernel_rfl
   ·exact mL h hk dQ (λc=>{ c with method:=jT vals gg }) rfl (pP (ws:=gg) dQ hk (by kernel_rfl) (by kernel_rfl) (by decide)) (λ_=>by kernel_rfl) (by kernel_rfl)
   ·exact mL h hk dQ (λc=>{ c with seats:=lm vals }) rfl (ii (lo:=1) (hi:=5) dQ hk (by kernel_rfl) (by kernel_rfl) (by dsimp only;decide) (by dsimp only;decide) (by kernel_rfl)) (λ_=>by kernel_rfl) (by kernel_rfl)
   ·exact mL h hk dQ (λc=>{ c with ranks:=lm vals }) rfl (ii (lo:=1) (hi:=7) dQ hk (by kernel_rfl) (by kernel_rfl) (by dsimp only;decide) (by dsimp only;decide) (by kernel_rfl)) (λ_=>by kernel_rfl) (by kernel_rfl)
   ·exact mL h hk dQ (λc=>{ c with digits:=lm vals }) rfl (ii (lo:=1) (hi:=6) dQ hk (by kernel_rfl) (by kernel_rfl) (by dsimp only;decide) (by dsimp only;decide) (by kernel_rfl)) (λ_=>by kernel_rfl) (by kernel_rfl)
   ·exact mL h hk dQ (λc=>{ c with ties:=jT vals kF }) rfl (pP (ws:=kF) dQ hk (by kernel_rfl) (by kernel_rfl) (by decide)) (λ_=>by kernel_rfl) (by kernel_rfl)
   ·exact mL h hk dQ (λc=>{ c with over:=jT vals kH }) rfl (pP (ws:=kH) dQ hk (by kernel_rfl) (by kernel_rfl) (by decide)) (λ_=>by kernel_rfl) (by kernel_rfl)
   ·exact mL h hk dQ (λc=>{ c with skip:=jT vals kG }) rfl (pP (ws:=kG) dQ hk (by kernel_rfl) (by kernel_rfl) (by decide)) (λ_=>by kernel_rfl) (by kernel_rfl)
   ·exact mL h hk dQ (λc=>{ c with cands:=vals }) rfl (pK (n:=7) dQ hk (by kernel_rfl) (by decide)) (λ_=>by kernel_rfl) (by kernel_rfl)
   ·exact Nr h hk dQ rfl (pK (n:=12) dQ hk (by kernel_rfl) (by decide)) (by kernel_rfl) (.inl rfl)
   ·exact Nr h hk dQ rfl (pK (n:=4) dQ hk (by kernel_rfl) (by decide)) (by kernel_rfl) (.inr rfl)
   ·exact lx h hk dQ (λe=>{ e with risk:=(dR (bf vals).data.toList).2 }) (Kq dQ hk rfl) (λ_=>by kernel_rfl) λ_=>by kernel_rfl
   ·exact lx h hk dQ (λe=>{ e with seed:=bf vals }) (Kp dQ hk rfl) (λ_=>by kernel_rfl) λ_=>by kernel_rfl
   ·exact lx h hk dQ (λe=>{ e with cell:=lm vals }) (ii (lo:=1) (hi:=400) dQ hk (by kernel_rfl) (by kernel_rfl) (by dsimp only;decide) (by dsimp only;decide) (by kernel_rfl)) (λ_=>by kernel_rfl) λ_=>by kernel_rfl
 ·have dQ:Lib.containsS (aO kind) f.key=false:=by simpa using dQ
  have hr:bV kind f v=(2,v):=by
   unfold bV;rw[if_pos dQ]
  have PW:dc (aO kind) f.key=false:=dQ;rw[hr];refine⟨?_,λh0=>by cases h0⟩;unfold eK;simp only[hf,PW,acC,if_false,gm];have h2:(jr 2 f.line).no≠0:=by rw[qC];omega
  rw[rF h2,if_pos h2]
theorem BP {kind nm:ByteArray} {b:cE}:∀(fs:List ai) {v:aJ} {x:em},nr kind nm b v x-> (dj kind fs x).f=(dU kind fs v).1/\((dU kind fs v).1.no=0->nr kind nm b (dU kind fs v).2 (dj kind fs x))
 | [],v,x,h=>⟨h.f,λ_=>h⟩
 | f::l,v,x,h=>by
  have hs:=Tg h f;unfold dj dU;rw[if_neg (by rw[h.f];simp)];by_cases h0:(bV kind f v).1=0
  ·rw[if_neg (by rw[h0];simp)];exact BP l (hs.2 h0)
  ·rw[if_pos h0];have hf:(eK kind x f).f=⟨(bV kind f v).1,f.line⟩:=by
    rw[hs.1];unfold jr;rw[if_neg h0]
   have eu:dj kind l (eK kind x f)=eK kind x f:=by
    cases l with
    | nil=>rfl
    | cons g l=>unfold dj;rw[if_pos (by rw[hf];exact h0)]
   rw[eu];exact⟨hf,λh1=>absurd h1 h0⟩
end Go.Proofs.YtdbpbfglhbiadaaGreatDoor
