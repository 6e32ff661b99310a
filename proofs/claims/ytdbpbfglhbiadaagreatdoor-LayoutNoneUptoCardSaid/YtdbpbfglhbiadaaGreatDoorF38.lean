/- Tm9 Tm16 Tm10 Tm11 Tm17 Law1 Law2 -/
import Derived.Test.YtdbpbfglhbiadaaGreatDoorF00
import Derived.Test.YtdbpbfglhbiadaaGreatDoorF35
import Derived.Test.YtdbpbfglhbiadaaGreatDoorF11
import Derived.Test.YtdbpbfglhbiadaaGreatDoorF18
set_option maxHeartbeats 8000000
set_option maxRecDepth 100000
namespace Go.Proofs.YtdbpbfglhbiadaaGreatDoor
open Go Go.RowKit
noncomputable def C9b:gb Tryz.prog:=ci rQ [⟨_,_,_,qi⟩,⟨_,_,_,uQ⟩] []
theorem S5:au Tryz.prog 86 false (aD [(0,sI)] λ((n:Int),_)=>.lf (aS (BR n))):=
 bg (C:=C9b) (nL _ _) false 99 [(0,sI)] (λ((n:Int),_)=>.br (decide (n<0)) (.lf (aS ⟨#[]⟩)) (.br (decide (n>999999)) (.lf (aS ⟨#[]⟩)) (.nd (0<=n/\n<9223372036854775808) (.nd (bits (ar (bits n.toNat))=bits n.toNat/\ar (bits n.toNat)<2^200) (.lf (aS ⟨(bj (ar (bits n.toNat))).toArray⟩))))))
  (λ⟨(n:Int),_⟩ r _ h=>by
   obtain rfl:aS (BR n)=r:=h;refine⟨?_,.inr rfl⟩;unfold BR;by_cases h1:n<0
   ·rw[if_pos (.inl h1)];exact aH (decide_eq_true h1) rfl
   ·by_cases h2:999999<n
    ·rw[if_pos (.inr h2)];exact aP (decide_eq_false h1) (aH (decide_eq_true h2) rfl)
    ·rw[if_neg (by omega)];refine aP (decide_eq_false h1) (aP (decide_eq_false (by omega)) ⟨⟨by omega,by omega⟩,?_⟩);rw[bh];exact⟨⟨rfl,aay (show n.toNat<1000000 by omega) (by decide)⟩,rfl⟩) Tryz.func86
theorem KE:au Tryz.prog 87 false (aD [(0,sI),(1,sL)] λ((n:Int),(l:List ByteArray),_)=>.lf (aS (nJ n l))):=
 bg (C:=C9b) (nL _ _) false 99 [(0,sI),(1,sL)] (λ((n:Int),(l:List ByteArray),_)=>.br (decide (n<1)) (.lf (aS ⟨#[]⟩)) (.br (decide (n>l.length)) (.lf (aS ⟨#[]⟩)) (.nd (bX (n-1)) (.nd (0<=n-1/\n-1<l.length) (.lf (aS (l.getD (n-1).toNat ⟨#[]⟩)))))))
  (λ⟨(n:Int),(l:List ByteArray),_⟩ r ⟨_,hl,_⟩ h=>by
   obtain rfl:aS (nJ n l)=r:=h;have hl:l.length<=9223372036854775807:=hl;refine⟨?_,.inr rfl⟩;unfold nJ;by_cases h1:n<1
   ·rw[if_pos (.inl h1)];exact aH (decide_eq_true h1) rfl
   ·by_cases h2:(l.length:Int)<n
    ·rw[if_pos (.inr h2)];exact aP (decide_eq_false h1) (aH (decide_eq_true h2) rfl)
    ·rw[if_neg (by omega)];refine aP (decide_eq_false h1) (aP (decide_eq_false (by omega)) ⟨⟨by omega,by omega⟩,⟨by omega,by omega⟩,?_⟩);rw[show(n-1).toNat=n.toNat-1 by omega];rfl) Tryz.func87
theorem QV:au Tryz.prog 85 true (aD [(0,sS),(1,sS)] λ((k:ByteArray),(s:ByteArray),_)=>.lf (.agg (jV (.st 0) (⟨k,[s],0⟩:ao)))):=by
 refine au.imp (l0:=[(0,sS),(1,sS)]) (F:=λ((k:ByteArray),(s:ByteArray),_)=>.lf (.agg [.sym (.string k),.list .str [s] true,.sym (.int .i64 0)])) (bg (C:=C9b) (nL _ _) true 99 [(0,sS),(1,sS)] (λ((k:ByteArray),(s:ByteArray),_)=>.lf (.agg [.sym (.string k),.list .str [s] true,.sym (.int .i64 0)])) (λ_ _ _ h=>⟨h,.inl rfl⟩) Tryz.func85) ?_;rintro⟨(k:ByteArray),(s:ByteArray),_⟩ r h;obtain rfl:XV.agg (jV (.st 0) (⟨k,[s],0⟩:ao))=r:=h;refine⟨_,rfl,λw S v h=>?_⟩;obtain⟨vs,rfl,h⟩:=h;refine⟨vs,rfl,?_⟩;cases h with
 | cons h1 h2=>cases h2 with
  | cons h2 h3=>
   obtain⟨A,n,c,e,h2,_⟩:=h2;exact .cons h1 (.cons ⟨A,n,c,e,h2,λe=>by cases e⟩ h3)
abbrev ZK:SS:=.c (.own .str 9)
abbrev sIs:SS:=sD (.list tI)
abbrev pkL:List (Nat×SS):=[(0,sL),(1,sIs),(5,ZK),(6,sI)]
abbrev PkE:=LE pkL [(5,ZK)] []
def FX (rs:List ByteArray):PkE:=.out (rs,())
def yx (xs:List ByteArray) (ix:List Int) (i:Int) (rs:List ByteArray) (s:ByteArray):T PkE:=.nd ((rs.length+1)*17<=140737488355328) (.nd (bX (i+1)) (.lf (.back (xs,ix,s::rs,i+1,()))))
def pkB (xs:List ByteArray) (ix:List Int) (rs:List ByteArray) (i:Int):T PkE:=.br (decide (i<ix.length)) (.nd (0<=i/\i<ix.length) (.br (decide (ix.getD i.toNat 0<0)) (yx xs ix i rs ⟨#[]⟩) (.nd (0<=i/\i<ix.length) (.br (decide (ix.getD i.toNat 0>=xs.length)) (yx xs ix i rs ⟨#[]⟩)
 (.nd (0<=i/\i<ix.length) (.nd (0<=ix.getD i.toNat 0/\ix.getD i.toNat 0<xs.length) (yx xs ix i rs (xs.getD (ix.getD i.toNat 0).toNat ⟨#[]⟩)))))))) (.lf (.out (rs,())))
def pkN (ix:List Int) (rs:List ByteArray) (i:Int):Prop:=0<=i/\i<=ix.length/\(rs.length:Int)=i/\ix.length<=1099511627776
theorem QQ:eD (vE C0 Tryz.f88) 0 0 pkL [(5,ZK)] [] λ((xs:List ByteArray),(ix:List Int),(rs:List ByteArray),(i:Int),_)=>.nd (pkN ix rs i) (.lf (FX ((cV (ix.drop i.toNat) xs).reverse++rs))):=by
 refine eI _ (nL _ _) 99 0 0 pkL [(5,ZK)] [] (λ((xs:List ByteArray),(ix:List Int),(rs:List ByteArray),(i:Int),_)=>pkB xs ix rs i) (λ(_,(ix:List Int),_,(i:Int),_)=>ix.length-i.toNat) ?_;rintro⟨(xs:List ByteArray),(ix:List Int),(rs:List ByteArray),(i:Int),_⟩ r _ ⟨⟨h0,h1,h2,h3⟩,hr⟩;obtain⟨k,rfl⟩:∃k:Nat,i=k:=⟨i.toNat,by omega⟩;have hr:FX ((cV (ix.drop k) xs).reverse++rs)=r:=hr;subst hr;show∃q,(pkB xs ix rs k).hit q/\_;unfold pkB;by_cases hk:k<ix.length
 ·rw[getD_drop 0 hk];obtain⟨n,hn⟩:∃n,nameAt xs (ix.getD k 0)=n:=⟨_,rfl⟩;have nx:pkN ix (n::rs) ((k:Int)+1):=⟨by omega,by omega,by rw[aar];omega,h3⟩;have eq:FX ((cV (ix.drop (k+1)) xs).reverse++n::rs)=FX ((cV (ix.getD k 0::ix.drop (k+1)) xs).reverse++rs):=by
   unfold cV;rw[abH,abc,aaR,hn];rfl
  have dec:ix.length-(k+1)<ix.length-k:=by omega
  have bk:(yx xs ix k rs n).hit (.back (xs,ix,n::rs,(k:Int)+1,())):=⟨by omega,⟨by omega,by omega⟩,rfl⟩;have gr:0<=(k:Int)/\(k:Int)<ix.length:=⟨by omega,by omega⟩;by_cases h4:ix.getD k 0<0
  ·rw[show n=⟨#[]⟩ by rw[<-hn];exact if_neg (by omega)] at nx eq bk;exact⟨_,aH (decide_eq_true (by omega)) ⟨gr,aH (decide_eq_true h4) bk⟩,dec,nx,eq⟩
  by_cases h5:(xs.length:Int)<=ix.getD k 0
  ·rw[show n=⟨#[]⟩ by rw[<-hn];exact if_neg (by omega)] at nx eq bk;exact⟨_,aH (decide_eq_true (by omega)) ⟨gr,aP (decide_eq_false h4) ⟨gr,aH (decide_eq_true h5) bk⟩⟩,dec,nx,eq⟩
  ·rw[show n=xs.getD (ix.getD k 0).toNat ⟨#[]⟩ by rw[<-hn];exact if_pos ⟨by omega,by omega⟩] at nx eq bk;exact⟨_,aH (decide_eq_true (by omega)) ⟨gr,aP (decide_eq_false h4) ⟨gr,aP (decide_eq_false h5) ⟨gr,⟨by rw[aae];omega,by rw[aae];omega⟩,bk⟩⟩⟩,dec,nx,eq⟩
 ·exact⟨_,aP (decide_eq_false (by omega)) rfl,by rw[aaq (by omega)];rfl⟩
def rvR (l:List ByteArray):XV:=.one (.list .str l.reverse !l.isEmpty)
theorem LU:au Tryz.prog 88 true (aD [(0,sL),(1,sIs)] λ((xs:List ByteArray),(ix:List Int),_)=>.nd (ix.length<=1099511627776) (.lf (.one (.list .str (cV ix xs) !(cV ix xs).isEmpty)))):=
 bg (C:=C0) ((nL _ _).add 0 _ QQ) true 99 [(0,sL),(1,sIs)] (λ((xs:List ByteArray),(ix:List Int),_)=>.nd (pkN ix [] 0) (.lf (rvR ((cV (ix.drop 0) xs).reverse++[]))))
  (λ⟨(xs:List ByteArray),(ix:List Int),_⟩ r _ ⟨h1,h⟩=>by
   obtain rfl:XV.one (.list .str (cV ix xs) !(cV ix xs).isEmpty)=r:=h;refine⟨⟨⟨by omega,by omega,rfl,h1⟩,?_⟩,.inl rfl⟩;show rvR _=_;unfold rvR;rw[acF,ack,aag,List.isEmpty_reverse]) Tryz.func88
noncomputable def Ud (t:TypeId):Option Ty:=List.lookup t [(9,.str),(3,tI),(93,.st 0),(91,.st 1)]
noncomputable def C12:gb Tryz.prog:=ci Ud [⟨_,_,_,S5⟩,⟨_,_,_,QV⟩,⟨_,_,_,KE⟩,⟨_,_,_,LU⟩,⟨_,_,_,Of⟩,⟨_,_,_,K1⟩] []
noncomputable abbrev VS:=Tryz.f40
noncomputable abbrev QC:Rg Tryz.prog VS.ntmps:=Oe (vE C12 VS) [(17,[4])]
abbrev seC:List CS:=[.d .str,.d tI,.d tI,.d tI,.d (.list .str),.d (.list (.st 3)),.d (.list (.st 4)),.d tI,.d tI,.d .bool,.d (.list .limb),.d (.list .limb),.d tI,.d .str]
abbrev ssC:List CS:=[.d .str,.own (.st 1) 91]
abbrev sEs:SS:=.box 30 seC
abbrev sSs:SS:=.box 33 ssC
abbrev sf:=dZ seC
abbrev rO:=dZ ssC
def sf.co (e:sf):List ae:=e.2.2.2.2.2.1
def sf.sy (e:sf):List ai:=e.2.2.2.2.2.2.1
def sf.pr (e:sf):List ByteArray:=e.2.2.2.2.1
def rO.bs (s:rO):List av:=s.2.1
def rO.put (s:rO) (b:av):rO:=(s.1,b::s.bs,())
abbrev sVs:SS:=.box 33 [.d .str,.d (.list (.st 1))]
abbrev Hl:=dZ [.d .str,.d (.list (.st 1))]
abbrev VW:List (Nat×SS):=[(1,sEs),(2,sVs),(3,sSs),(4,ZK),(5,sI)]
abbrev VV:List (Nat×SS):=[(1,sEs),(2,sVs),(3,sSs),(4,ZK)]
def Tf (c:ae) (l:List ao):av:=
 ⟨aj,c.name,[fj be c.method fR,dB bz c.seats,dB gg c.ranks]++l++[fj gV c.ties kq,fj bV c.over ku,fj gW c.skip kr,⟨ft,(c.cands.reverse++[]).reverse,0⟩],0⟩
def DO (e:sf) (v:Hl) (s:rO) (l:List ByteArray) (i:Int):LE VW VV []:=.back (e,v,s,l,i,())
def FK (e:sf) (v:Hl) (s:rO) (l:List ByteArray):LE VW VV []:=.out (e,v,s,l,())
def s0E (e:sf) (v:Hl) (s:rO) (l:List ByteArray) (i:Int) (c:ae) (n:Nat) (ds:List ao):T (LE VW VV []):=.nd ((n+3)*49<=140737488355328) (.nd ((0+c.cands.length)*17<=140737488355328) (.nd ((n+3+1)*49<=140737488355328) (.nd ((s.bs.length+1)*65<=140737488355328) (.nd (bX (i+1)) (.lf (DO e v (s.put (Tf c ds)) (c.name::l) (i+1)))))))
def s0B (e:sf) (v:Hl) (s:rO) (l:List ByteArray) (i:Int) (c:ae):T (LE VW VV []):=.br (c.method==2) (.nd ((3+1)*49<=140737488355328) (s0E e v s l i c 4 [dB aC c.digits])) (s0E e v s l i c 3 [])
def s0T (e:sf) (v:Hl) (s:rO) (l:List ByteArray) (i:Int):T (LE VW VV []):=.br (decide (i<e.co.length)) (.nd (0<=i/\i<e.co.length) (.nd ((l.length+1)*17<=140737488355328) (s0B e v s l i (e.co.getD i.toNat ae.zero)))) (.lf (FK e v s l))
theorem Te (c:ae):dp c=Tf c (if c.method=2 then[dB aC c.digits] else[]):=by
 unfold dp Tf;rw[ack,aag]
def s0N (e:sf) (s:rO) (l:List ByteArray) (i:Int):Prop:=0<=i/\i<=e.co.length/\e.co.length<=1048576/\(∀c∈e.co,c.cands.length<=1048576)/\(l.length:Int)=i/\s.bs.length<=3+i
theorem DD:eD QC 0 0 VW VV [] λ((e:sf),(v:Hl),(s:rO),(l:List ByteArray),(i:Int),_)=>.nd (s0N e s l i) (.lf (FK e v (s.1,((e.co.drop i.toNat).map dp).reverse++s.bs,()) (((e.co.drop i.toNat).map (·.name)).reverse++l))):=by
 refine eI _ (nL _ _) 99 0 0 VW VV [] (λ((e:sf),(v:Hl),(s:rO),(l:List ByteArray),(i:Int),_)=>s0T e v s l i)
  (λ((e:sf),_,_,_,(i:Int),_)=>e.co.length-i.toNat) ?_
 rintro⟨(e:sf),(v:Hl),(s:rO),(l:List ByteArray),(i:Int),_⟩ r _ ⟨⟨h0,h1,h2,h3,h4,h5⟩,hr⟩;have hr:FK e v (s.1,((e.co.drop i.toNat).map dp).reverse++s.bs,()) (((e.co.drop i.toNat).map (·.name)).reverse++l)=r:=hr;obtain rfl:=hr;obtain⟨k,rfl⟩:∃k:Nat,i=k:=⟨i.toNat,by omega⟩;rw[aae];show∃q,(s0T e v s l k).hit q/\_;unfold s0T;by_cases hk:k<e.co.length
 ·rw[getD_drop ae.zero hk,aae];obtain⟨c,hc⟩:∃c,e.co.getD k ae.zero=c:=⟨_,rfl⟩;have hcc:=h3 c (by rw[<-hc,aac,aaa hk];exact aaG hk);rw[hc];have key:∀(n:Nat) (ds:List ao),n<=4->dp c=Tf c ds->(s0E e v s l k c n ds).hit (DO e v (s.put (dp c)) (c.name::l) (k+1)):=λn ds hn he=>⟨by omega,by omega,by omega,by omega,⟨by omega,by omega⟩,by rw[he];rfl⟩;refine⟨DO e v (s.put (dp c)) (c.name::l) (k+1),aH (decide_eq_true (by omega)) ⟨⟨by omega,by omega⟩,by omega,?_⟩,?_,⟨by omega,by omega,h2,h3,by rw[aar];omega,?_⟩,?_⟩
  ·unfold s0B;have he:=Te c;by_cases hm:c.method=2
   ·rw[if_pos hm] at he;exact aH (beq_iff_eq.2 hm) ⟨by omega,key 4 _ (by omega) he⟩
   ·rw[if_neg hm] at he;exact aP (beq_eq_false_iff_ne.2 hm) (key 3 _ (by omega) he)
  ·show e.co.length-(k+1)<e.co.length-k;omega
  ·have:(s.put (dp c)).bs.length=s.bs.length+1:=rfl;omega
  ·show FK e v (s.1,((e.co.drop (k+1)).map dp).reverse++(dp c::s.bs),()) (((e.co.drop (k+1)).map (·.name)).reverse++(c.name::l))=_;rw[abH,abH,abc,abc,aaR,aaR];rfl
 ·rw[aaq (by omega)];exact⟨_,aP (decide_eq_false (by omega)) rfl,rfl⟩
abbrev s1L:List (Nat×SS):=[(1,sEs),(2,sVs),(3,sSs),(4,sL),(8,sI)]
abbrev s1O:List (Nat×SS):=[(1,sEs),(2,sVs),(3,sSs)]
def ai.nul:ai:=⟨⟨#[]⟩,[],[]⟩
def FJ (e:sf) (v:Hl) (s:rO):LE s1L s1O []:=.out (e,v,s,())
def s1E (e:sf) (v:Hl) (s:rO) (l:List ByteArray) (i:Int) (y:ai):T (LE s1L s1O []):=.nd (y.prec.length<=1099511627776) (.nd (y.cont.length<=1099511627776) (.nd ((s.bs.length+1)*65<=140737488355328) (.nd (bX (i+1)) (.lf (.back (e,v,s.put (eG e.pr l y),l,i+1,()))))))
def s1T (e:sf) (v:Hl) (s:rO) (l:List ByteArray) (i:Int):T (LE s1L s1O []):=.br (decide (i<e.sy.length)) (.nd (0<=i/\i<e.sy.length) (s1E e v s l i (e.sy.getD i.toNat ai.nul))) (.lf (FJ e v s))
def s1N (e:sf) (s:rO) (i:Int):Prop:=0<=i/\i<=e.sy.length/\e.sy.length<=1048576/\(∀y∈e.sy,y.prec.length<=1048576/\y.cont.length<=1048576)/\s.bs.length<=2097152+i
theorem DC:eD QC 1 2 s1L s1O [] λ((e:sf),(v:Hl),(s:rO),(l:List ByteArray),(i:Int),_)=>.nd (s1N e s i) (.lf (FJ e v (s.1,((e.sy.drop i.toNat).map (eG e.pr l)).reverse++s.bs,()))):=by
 refine eI _ (nL _ _) 99 1 2 s1L s1O [] (λ((e:sf),(v:Hl),(s:rO),(l:List ByteArray),(i:Int),_)=>s1T e v s l i)
  (λ((e:sf),_,_,_,(i:Int),_)=>e.sy.length-i.toNat) ?_
 rintro⟨(e:sf),(v:Hl),(s:rO),(l:List ByteArray),(i:Int),_⟩ r _ ⟨⟨h0,h1,h2,h3,h5⟩,hr⟩;have hr:FJ e v (s.1,((e.sy.drop i.toNat).map (eG e.pr l)).reverse++s.bs,())=r:=hr;obtain rfl:=hr;obtain⟨k,rfl⟩:∃k:Nat,i=k:=⟨i.toNat,by omega⟩;rw[aae];show∃q,(s1T e v s l k).hit q/\_;unfold s1T;by_cases hk:k<e.sy.length
 ·rw[getD_drop ai.nul hk,aae];obtain⟨y,hy⟩:∃y,e.sy.getD k ai.nul=y:=⟨_,rfl⟩;obtain⟨UE,PN⟩:=h3 y (by rw[<-hy,aac,aaa hk];exact aaG hk);rw[hy];refine⟨_,aH (decide_eq_true (by omega)) ⟨⟨by omega,by omega⟩,by omega,by omega,by omega,⟨by omega,by omega⟩,rfl⟩,?_,⟨by omega,by omega,h2,h3,?_⟩,?_⟩
  ·show e.sy.length-(k+1)<e.sy.length-k;omega
  ·have:(s.put (eG e.pr l y)).bs.length=s.bs.length+1:=rfl;omega
  ·show FJ e v (s.1,((e.sy.drop (k+1)).map (eG e.pr l)).reverse++(eG e.pr l y::s.bs),())=_;rw[abH,abc,aaR];rfl
 ·rw[aaq (by omega)];exact⟨_,aP (decide_eq_false (by omega)) rfl,rfl⟩
def esE (e:aa):sf:=(e.title,e.dots,e.blank,e.marked,e.prec,e.cont,e.styl,e.scan,e.batch,e.risk.neg,e.risk.num,e.risk.den,e.cell,e.seed,())
def Ly (e:aa):List av:=[⟨af,⟨#[]⟩,[⟨ed,(e.prec.reverse++[]).reverse,0⟩],0⟩,⟨aO,⟨#[]⟩,[dB fq e.scan,dB fu e.batch],0⟩,⟨bR,⟨#[]⟩,[dB il e.dots,dB ct e.blank,dB bF e.marked],0⟩]
def af8 (e:aa):rO:=(e.title,Ly e,())
def scL (e:aa):List ByteArray:=(((e.cont.drop (Int.toNat 0)).map ae.name).reverse++[]).reverse
def Is (e:aa):rO:=(e.title,((e.cont.drop (Int.toNat 0)).map dp).reverse++Ly e,())
def It (e:aa):List av:=((e.styl.drop (Int.toNat 0)).map (eG e.prec (scL e))).reverse++(Is e).bs
def scF (e:aa):List av:=⟨bo,⟨#[]⟩,[dB im e.cell],0⟩::⟨bG,⟨#[]⟩,[⟨dP,[⟨(gD (tf (QT e.risk.q))).toArray⟩],0⟩,⟨gm,[e.seed],0⟩],0⟩::It e
def scT (e:aa):T XV:=.nd ((0+1)*65<=140737488355328) (.nd ((1+1)*65<=140737488355328) (.nd ((0+e.prec.length)*17<=140737488355328) (.nd ((2+1)*65<=140737488355328) (.nd (s0N (esE e) (af8 e) [] 0) (.nd (s1N (esE e) (Is e) 0)
 (.nd (e.risk.short 6) (.nd (D1 (2^200) (QT e.risk.q)) (.nd (((It e).length+1)*65<=140737488355328) (.nd (((It e).length+1+1)*65<=140737488355328) (.lf (.agg [.sym (.string e.title),.list (.st 1) (scF e).reverse !(scF e).isEmpty])))))))))))
theorem VT (e:aa):(scF e).reverse=(dX e).blocks:=by
 unfold scF It Is scL Ly dX rO.bs;rw[qh];simp
def GQ (e:aa):Prop:=e.prec.length<=1048576/\e.cont.length<=1048576/\e.styl.length<=1048576/\(∀c∈e.cont,c.cands.length<=1048576)/\(∀y∈e.styl,y.prec.length<=1048576/\y.cont.length<=1048576)/\e.risk.short 6/\e.risk.q.n<2^200/\e.risk.q.d<2^200
theorem DF:au Tryz.prog 40 true (aD [(0,.st 5)] λ((e:aa),_)=>.nd (GQ e) (.lf (.agg (jV (.st 2) (dX e))))):=by
 refine au.imp (l0:=[(0,.st 5)]) (F:=λ((e:aa),_)=>.nd (GQ e) (.lf (.agg [.sym (.string e.title),.list (.st 1) (dX e).blocks true]))) (sk (R:=QC) (((nL QC VS).add 0 _ DD).add 1 _ DC) true 99 [(0,.st 5)] (λ((e:aa),_)=>scT e) (λ⟨(e:aa),_⟩ r hb ⟨⟨h1,h2,h3,h4,h5,h6,h7,h8⟩,h⟩=>?_) Tryz.func40) ?_
 ·obtain rfl:XV.agg [.sym (.string e.title),.list (.st 1) (dX e).blocks true]=r:=h;have e0:(It e).length=e.styl.length+(e.cont.length+3):=by
   unfold It Is rO.bs Ly;simp
  have e1:(Is e).bs.length=e.cont.length+3:=by
   unfold Is rO.bs Ly;simp
  refine⟨⟨by omega,by omega,by omega,by omega,⟨by omega,aeg _,h2,h4,rfl,by show(3:Int)<=3+0;omega⟩,⟨by omega,aeg _,h3,h5,by rw[e1];omega⟩,h6,⟨by rw[qh],by rw[qh];exact⟨h7,h8⟩⟩,by rw[e0];omega,by rw[e0];omega,?_⟩,.inl rfl⟩;rw[VT];rfl
 ·rintro⟨(e:aa),_⟩ r ⟨h0,h⟩;obtain rfl:XV.agg (jV (.st 2) (dX e))=r:=h;refine⟨_,⟨h0,rfl⟩,λw S v h=>?_⟩;obtain⟨vs,rfl,h⟩:=h;refine⟨vs,rfl,?_⟩;cases h with
  | cons h1 h2=>cases h2 with
   | cons h2 h3=>
    obtain⟨A,n,c,e,h2,_⟩:=h2;exact .cons h1 (.cons ⟨A,n,c,e,h2,λe=>by cases e⟩ h3)
def ai.zero:ai:=⟨⟨#[]⟩,[],[]⟩
def ww (p:Nat->Bool):Nat->Nat->Bool
 | 0,_=>true
 | k+1,i=>p i&&ww p k (i+1)
theorem Hj {α:Type} (q:α->Bool) (d:α):∀(l:List α) (k:Nat),k<=l.length->ww (λi=>q (l.getD i d)) (l.length-k) k=(l.drop k).all q:=by
 intro l k hk;obtain⟨j,hj⟩:∃j,l.length-k=j:=⟨_,rfl⟩;induction j generalizing k with
 | zero=>rw[hj,aaq (by omega)];rfl
 | succ j ih=>
  rw[hj,getD_drop d (by omega),ac9,<-ih (k+1) (by omega) (by omega),show l.length-(k+1)=j by omega];rfl
def Kc {L:Type} (out ret:L) (p:Nat->Bool) (len:Nat) (i:Int):T L:=.nd (0<=i/\i<=len) (.br (ww p (len-i.toNat) i.toNat) (.lf out) (.lf ret))
theorem pR {L:Type} {back:Int->L} {out ret r:L} {len:Nat} {p:Nat->Bool} {TT:Int->T L} {i:Int} (hT:∀k:Nat,k<len->(p k=true->(TT k).hit (back ((k:Int)+1)))/\(p k=false->(TT k).hit ret)) (h:(Kc out ret p len i).hit r) : ∃q,(T.br (decide (i<len)) (TT i) (.lf out)).hit q/\((q=r/\(q=out\/q=ret))\/(q=back (i+1)/\len-(i+1).toNat<len-i.toNat/\(Kc out ret p len (i+1)).hit r)):=by
 obtain⟨⟨h0,h1⟩,h⟩:=h;obtain⟨k,rfl⟩:∃k:Nat,i=k:=⟨i.toNat,by omega⟩;by_cases hk:k<len
 ·obtain⟨t1,t2⟩:=hT k hk;have e1:((k:Int)+1).toNat=k+1:=by omega
  rw[aae,show len-k=(len-(k+1))+1 by omega] at h;cases hp:p k with
  | true=>
   refine⟨_,aH (decide_eq_true (by omega)) (t1 hp),.inr ⟨rfl,by omega,⟨by omega,by omega⟩,?_⟩⟩;rw[e1];simpa only[ww,hp,acW] using h
  | false=>
   have h:=h.2 (by simp only[ww,hp,adK]);exact⟨_,aH (decide_eq_true (by omega)) (t2 hp),.inl ⟨h,.inr rfl⟩⟩
 ·rw[aae,show len-k=0 by omega] at h;exact⟨_,aP (decide_eq_false (by omega)) rfl,.inl ⟨h.1 rfl,.inl rfl⟩⟩
abbrev ewC:List CS:=[.d .str,.d tI,.d tI,.d tI,.d (.list .str),.d (.list (.st 3)),.d (.list (.st 4)),.d tI,.d tI,.d .bool,.d (.list .limb),.d (.list .limb),.d tI,.d .str]
abbrev PI:SS:=.box 30 ewC
abbrev nH:=dZ ewC
def nH.cont (x:nH):List ae:=x.2.2.2.2.2.1
def nH.styl (x:nH):List ai:=x.2.2.2.2.2.2.1
abbrev smL (s:Nat):List (Nat×SS):=[(1,PI),(s,sI)]
abbrev SmE (s:Nat):=LE (smL s) [(1,PI)] []
def qj (s:Nat) (x:nH) (i:Int):SmE s:=.back (x,i,())
def FF (s:Nat) (x:nH):SmE s:=.out (x,())
def tr (s:Nat):SmE s:=.ret (.one (.val (.bool false))) ()
def smC (c:ae):Bool:=decide (c.cands.length<=7)
def Qy (c:ai):Bool:=decide (c.prec.length<=12)&&decide (c.cont.length<=4)
theorem Ij:eD (vE C0 Tryz.f45) 0 0 (smL 3) [(1,PI)] [] λ((x:nH),(i:Int),_)=>Kc (FF 3 x) (tr 3) (λk=>smC (x.cont.getD k ae.zero)) x.cont.length i:=by
 refine eI _ (nL _ _) 99 0 0 (smL 3) [(1,PI)] [] (λ((x:nH),(i:Int),_)=>.br (decide (i<x.cont.length)) (.nd (0<=i/\i<x.cont.length) (.br (decide (((x.cont.getD i.toNat ae.zero).cands.length:Int)>7)) (.lf (tr 3)) (.nd (bX (i+1)) (.lf (qj 3 x (i+1)))))) (.lf (FF 3 x))) (λ((x:nH),(i:Int),_)=>x.cont.length-i.toNat) ?_;rintro⟨(x:nH),(i:Int),_⟩ r pZ h;have hl:x.cont.length<=9223372036854775807:=pZ.1.2.2.2.2.2.1;obtain⟨q,h1,h2⟩:=pR (back:=qj 3 x) (TT:=λi=>.nd (0<=i/\i<x.cont.length) (.br (decide (((x.cont.getD i.toNat ae.zero).cands.length:Int)>7)) (.lf (tr 3)) (.nd (bX (i+1)) (.lf (qj 3 x (i+1)))))) (λk hk=>⟨λhp=>⟨⟨by omega,by omega⟩,aP (decide_eq_false (by have:=of_decide_eq_true hp;rw[aae];omega)) ⟨⟨by omega,by omega⟩,rfl⟩⟩,λhp=>⟨⟨by omega,by omega⟩,aH (decide_eq_true (by have:=of_decide_eq_false hp;rw[aae];omega)) rfl⟩⟩) h;refine⟨q,h1,?_⟩;rcases h2 with⟨rfl,rfl|rfl⟩|⟨rfl,h3,h4⟩
 ·rfl
 ·rfl
 ·exact⟨h3,h4⟩
def Il (x:nH) (i:Int):T (SmE 4):=.nd (0<=i/\i<x.styl.length) (.br (decide (((x.styl.getD i.toNat ai.zero).prec.length:Int)>12)) (.lf (tr 4)) (.nd (0<=i/\i<x.styl.length) (.br (decide (((x.styl.getD i.toNat ai.zero).cont.length:Int)>4)) (.lf (tr 4)) (.nd (bX (i+1)) (.lf (qj 4 x (i+1)))))))
theorem Ii:eD (vE C0 Tryz.f45) 1 2 (smL 4) [(1,PI)] [] λ((x:nH),(i:Int),_)=>Kc (FF 4 x) (tr 4) (λk=>Qy (x.styl.getD k ai.zero)) x.styl.length i:=by
 refine eI _ (nL _ _) 99 1 2 (smL 4) [(1,PI)] [] (λ((x:nH),(i:Int),_)=>.br (decide (i<x.styl.length)) (Il x i) (.lf (FF 4 x))) (λ((x:nH),(i:Int),_)=>x.styl.length-i.toNat) ?_;rintro⟨(x:nH),(i:Int),_⟩ r pZ h;have hl:x.styl.length<=9223372036854775807:=pZ.1.2.2.2.2.2.2.1;have hT:∀k:Nat,k<x.styl.length->(Qy (x.styl.getD k ai.zero)=true->(Il x k).hit (qj 4 x ((k:Int)+1)))/\(Qy (x.styl.getD k ai.zero)=false->(Il x k).hit (tr 4)):=by
  refine λk hk=>⟨λhp=>?_,λhp=>?_⟩
  ·unfold Qy at hp;rw[aal,decide_eq_true_eq,decide_eq_true_eq] at hp;unfold Il;rw[aae];exact⟨⟨by omega,by omega⟩,aP (decide_eq_false (by omega)) ⟨⟨by omega,by omega⟩,aP (decide_eq_false (by omega)) ⟨⟨by omega,by omega⟩,rfl⟩⟩⟩
  ·unfold Qy at hp;unfold Il;rw[aae];refine⟨⟨by omega,by omega⟩,?_⟩;by_cases h1:(x.styl.getD k ai.zero).prec.length<=12
   ·rw[decide_eq_true h1,acW] at hp;have:=of_decide_eq_false hp;exact aP (decide_eq_false (by omega)) ⟨⟨by omega,by omega⟩,aH (decide_eq_true (by omega)) rfl⟩
   ·exact aH (decide_eq_true (by omega)) rfl
 obtain⟨q,h1,h2⟩:=pR (back:=qj 4 x) (TT:=Il x) hT h;refine⟨q,h1,?_⟩;rcases h2 with⟨rfl,rfl|rfl⟩|⟨rfl,h3,h4⟩
 ·rfl
 ·rfl
 ·exact⟨h3,h4⟩
abbrev sE:SS:=.st 5
def smB (e:aa):T XV:=.br (decide ((e.prec.length:Int)>12)) (.lf (aB false)) (.br (decide ((e.cont.length:Int)>4)) (.lf (aB false)) (.br (decide ((e.styl.length:Int)>6)) (.lf (aB false)) (.br (decide ((e.risk.num.length:Int)>1)) (.lf (aB false)) (.br (decide ((e.risk.den.length:Int)>1)) (.lf (aB false))
 (.nd ((0:Int)<=0/\(0:Int)<=e.cont.length) (.br (ww (λk=>smC (e.cont.getD k ae.zero)) (e.cont.length-0) 0) (.nd ((0:Int)<=0/\(0:Int)<=e.styl.length) (.br (ww (λk=>Qy (e.styl.getD k ai.zero)) (e.styl.length-0) 0) (.lf (aB true)) (.lf (aB false)))) (.lf (aB false))))))))
theorem By {p:Prop} [Decidable p] {b y:Bool} {x:T XV} (hp:b=true↔¬p) (h:x.hit (aB y)):(T.br b (.lf (aB false)) x).hit (aB (decide p&&y)):=by
 by_cases h1:p
 ·rw[decide_eq_true h1,acW];exact aP (by cases b with|false=>rfl|true=>exact absurd h1 (hp.1 rfl)) h
 ·rw[decide_eq_false h1,adK];exact aH (hp.2 h1) rfl
theorem Ik:au Tryz.prog 45 false (aD [(0,sE)] λ((e:aa),_)=>.lf (aB (j6 e))):=
 bg (C:=C0) (((nL _ _).add 0 _ Ij).add 1 _ Ii) false 99 [(0,sE)] (λ((e:aa),_)=>smB e)
  (λ⟨(e:aa),_⟩ r _ h=>by
   obtain rfl:aB (j6 e)=r:=h;refine⟨?_,.inr rfl⟩;show(smB e).hit _;unfold smB j6;rw[Hj smC ae.zero e.cont 0 (aaS _),Hj Qy ai.zero e.styl 0 (aaS _),acF,acF];refine By (by rw[decide_eq_true_eq];omega) (By (by rw[decide_eq_true_eq];omega) (By (by rw[decide_eq_true_eq];omega) (By (by rw[decide_eq_true_eq];omega) (By (by rw[decide_eq_true_eq];omega) ⟨⟨by omega,by omega⟩,?_⟩))));show(T.br (e.cont.all smC) _ _).hit (aB (e.cont.all smC&&e.styl.all Qy));refine GK λ_=>⟨⟨by omega,by omega⟩,?_⟩;cases e.styl.all Qy with
   | true=>exact aH rfl rfl
   | false=>exact aP rfl rfl) Tryz.func45
theorem Lc:au Tryz.prog 44 false (aD [(0,sL),(1,sL)] λ((xs:List ByteArray),(ys:List ByteArray),_)=>.lf (aB (decide (xs=ys)))):=OU (t:=.str) (g:=λ(xs ys:List ByteArray)=>decide (xs=ys)) λ_ _ _ _ _ _ _ xs ys _ h1 h2=>Yz (xs:=xs) (ys:=ys) h1 h2
theorem M7:au Tryz.prog 56 false (aD [(0,sIs),(1,sIs)] λ((xs:List Int),(ys:List Int),_)=>.lf (aB (decide (xs=ys)))):=OU (t:=tI) (g:=λ(xs ys:List Int)=>decide (xs=ys)) λ_ _ _ _ _ _ _ xs ys _ h1 h2=>YC (xs:=xs) (ys:=ys) h1 h2
theorem QO:au Tryz.prog 55 false (aD [(0,.st 8),(1,.st 8)] λ((a:Raw),(b:Raw),_)=>.lf (aB (decide (a.neg=b.neg)&&(decide (a.num=b.num)&&decide (a.den=b.den))))):=
 fK λw S x vs r hS he hl hr=>by
  obtain⟨(a:Raw),(b:Raw),_⟩:=x;obtain⟨v,h1,cs,h2,h3⟩:=he 0 (.agg (jV (.st 8) a)) aah;obtain⟨v',ib,gP,zP,Jt⟩:=he 1 (.agg (jV (.st 8) b)) (aap _ aah);obtain rfl:=hr
  match vs,hl,h1,ib with
  | [u,u'],_,h1,ib=>
   injection h1 with h1
   injection ib with ib
   subst h1 ib h2 zP;have k1:SV w S (.agg cs.toArray) a:=⟨cs,rfl,jr (t:=.st 8) (us:=jV (.st 8) a) rfl h3⟩;have k2:SV w S (.agg gP.toArray) b:=⟨gP,rfl,jr (t:=.st 8) (us:=jV (.st 8) b) rfl Jt⟩;exact Calls.mono (DY k1 k2 hS hS) λe w' ⟨e1,e2⟩=>⟨_,λ_=>False,e1,e2,λ_ q=>q.elim,rfl,rfl⟩
noncomputable def C11:gb Tryz.prog:=ci rQ [⟨_,_,_,Lc⟩,⟨_,_,_,M7⟩,⟨_,_,_,QO⟩] []
noncomputable abbrev qfn:=Tryz.f21
noncomputable abbrev qRg:Rg Tryz.prog qfn.ntmps:=vE C11 qfn
theorem Vi {α:Type} (q:α->α->Bool) (d:α) {l m:List α} (hlm:l.length=m.length) (k:Nat) (hk:k<=l.length):ww (λi=>q (l.getD i d) (m.getD i d)) (l.length-k) k=fY q (l.drop k) (m.drop k):=by
 obtain⟨j,hj⟩:∃j,l.length-k=j:=⟨_,rfl⟩;induction j generalizing k with
 | zero=>rw[hj,aaq (by omega),aaq (by omega)];rfl
 | succ j ih=>
  rw[hj,getD_drop d (by omega),getD_drop d (show k<m.length by omega),fY,<-ih (k+1) (by omega) (by omega),show l.length-(k+1)=j by omega];rfl
theorem vf {α:Type} {q:α->α->Bool}:∀{l m:List α},fY q l m=true->l.length=m.length
 | [],[],_=>rfl
 | _::_,_::_,h=>by
  rw[fY,aal] at h;rw[aar,aar,vf h.2]
def YE (a b:ae):List Bool:=[a.name.toList==b.name.toList,decide (a.cands=b.cands),a.method==b.method,a.seats==b.seats,a.ranks==b.ranks,a.digits==b.digits,a.ties==b.ties,a.over==b.over,a.skip==b.skip]
def YA (a b:ai):List Bool:=[a.name.toList==b.name.toList,decide (a.prec=b.prec),decide (a.cont=b.cont)]
theorem BJ (a b:ae):(YE a b).all id=aK a b:=by
 simp only[YE,aK,ac9,ad8,id,Bool.and_true,dJ];rfl
theorem BH (a b:ai):(YA a b).all id=aZ a b:=by
 simp only[YA,aZ,ac9,ad8,id,Bool.and_true,dJ]
abbrev eqL (s:Nat):List (Nat×SS):=[(2,PI),(3,PI),(s,sI)]
abbrev eqO:List (Nat×SS):=[(2,PI),(3,PI)]
abbrev EqE (s:Nat):=LE (eqL s) eqO []
def qK (s:Nat) (e f:nH) (i:Int):EqE s:=.back (e,f,i,())
def GP (s:Nat) (e f:nH):EqE s:=.out (e,f,())
def xF (s:Nat):EqE s:=.ret (.one (.val (.bool false))) ()
def adu (e f:nH) (i:Int):T (EqE 5):=.nd (0<=i/\i<e.cont.length) (.nd (0<=i/\i<f.cont.length) (ET (.lf (xF 5)) (YE (e.cont.getD i.toNat ae.zero) (f.cont.getD i.toNat ae.zero)) (.nd (bX (i+1)) (.lf (qK 5 e f (i+1))))))
def adt (e f:nH) (i:Int):T (EqE 8):=.nd (0<=i/\i<e.styl.length) (.nd (0<=i/\i<f.styl.length) (ET (.lf (xF 8)) (YA (e.styl.getD i.toNat ai.zero) (f.styl.getD i.toNat ai.zero)) (.nd (bX (i+1)) (.lf (qK 8 e f (i+1))))))
theorem Yw:eD qRg 0 0 (eqL 5) eqO [] λ((e:nH),(f:nH),(i:Int),_)=>.nd (e.cont.length=f.cont.length) (Kc (GP 5 e f) (xF 5) (λk=>aK (e.cont.getD k ae.zero) (f.cont.getD k ae.zero)) e.cont.length i):=by
 refine eI _ (nL _ _) 99 0 0 (eqL 5) eqO [] (λ((e:nH),(f:nH),(i:Int),_)=>.br (decide (i<e.cont.length)) (adu e f i) (.lf (GP 5 e f))) (λ((e:nH),_,(i:Int),_)=>e.cont.length-i.toNat) ?_;rintro⟨(e:nH),(f:nH),(i:Int),_⟩ r pZ ⟨bm,h⟩;have hl:e.cont.length<=9223372036854775807:=pZ.1.2.2.2.2.2.1;obtain⟨q,h1,h2⟩:=pR (back:=qK 5 e f) (TT:=adu e f) (λk hk=>⟨λhp=>⟨⟨by omega,by omega⟩,⟨by omega,by omega⟩,Ch (t:=.nd (bX ((k:Int)+1)) (.lf (qK 5 e f ((k:Int)+1)))) ⟨⟨by omega,by omega⟩,rfl⟩ _ (by rw[BJ];exact hp)⟩,λhp=>⟨⟨by omega,by omega⟩,⟨by omega,by omega⟩,G2 (ret:=.lf (xF 5)) rfl _ (by rw[BJ];exact hp)⟩⟩) h;refine⟨q,h1,?_⟩;rcases h2 with⟨rfl,rfl|rfl⟩|⟨rfl,h3,h4⟩
 ·rfl
 ·rfl
 ·exact⟨h3,bm,h4⟩
theorem Yv:eD qRg 1 2 (eqL 8) eqO [] λ((e:nH),(f:nH),(i:Int),_)=>.nd (e.styl.length=f.styl.length) (Kc (GP 8 e f) (xF 8) (λk=>aZ (e.styl.getD k ai.zero) (f.styl.getD k ai.zero)) e.styl.length i):=by
 refine eI _ (nL _ _) 99 1 2 (eqL 8) eqO [] (λ((e:nH),(f:nH),(i:Int),_)=>.br (decide (i<e.styl.length)) (adt e f i) (.lf (GP 8 e f))) (λ((e:nH),_,(i:Int),_)=>e.styl.length-i.toNat) ?_;rintro⟨(e:nH),(f:nH),(i:Int),_⟩ r pZ ⟨bm,h⟩;have hl:e.styl.length<=9223372036854775807:=pZ.1.2.2.2.2.2.2.1;obtain⟨q,h1,h2⟩:=pR (back:=qK 8 e f) (TT:=adt e f) (λk hk=>⟨λhp=>⟨⟨by omega,by omega⟩,⟨by omega,by omega⟩,Ch (t:=.nd (bX ((k:Int)+1)) (.lf (qK 8 e f ((k:Int)+1)))) ⟨⟨by omega,by omega⟩,rfl⟩ _ (by rw[BH];exact hp)⟩,λhp=>⟨⟨by omega,by omega⟩,⟨by omega,by omega⟩,G2 (ret:=.lf (xF 8)) rfl _ (by rw[BH];exact hp)⟩⟩) h;refine⟨q,h1,?_⟩;rcases h2 with⟨rfl,rfl|rfl⟩|⟨rfl,h3,h4⟩
 ·rfl
 ·rfl
 ·exact⟨h3,bm,h4⟩
def Ou (e f:aa):List Bool:=[e.title.toList==f.title.toList,e.dots==f.dots,e.blank==f.blank,e.marked==f.marked,e.scan==f.scan,e.batch==f.batch,e.cell==f.cell,e.seed.toList==f.seed.toList,
 decide (e.risk.neg=f.risk.neg)&&(decide (e.risk.num=f.risk.num)&&decide (e.risk.den=f.risk.den)),decide (e.prec=f.prec),(e.cont.length:Int)==(f.cont.length:Int),(e.styl.length:Int)==(f.styl.length:Int)]
def eqB (e f:aa):T XV:=ET (.lf (aB false)) (Ou e f) (.nd (e.cont.length=f.cont.length) (.nd ((0:Int)<=0/\(0:Int)<=e.cont.length) (.br (ww (λk=>aK (e.cont.getD k ae.zero) (f.cont.getD k ae.zero)) (e.cont.length-0) 0)
 (.nd (e.styl.length=f.styl.length) (.nd ((0:Int)<=0/\(0:Int)<=e.styl.length) (.br (ww (λk=>aZ (e.styl.getD k ai.zero) (f.styl.getD k ai.zero)) (e.styl.length-0) 0) (.lf (aB true)) (.lf (aB false))))) (.lf (aB false)))))
theorem SK (e f:aa):SL e f=((Ou e f).all id&&(fY aK e.cont f.cont&&fY aZ e.styl f.styl)):=by
 rw[ady];simp only[SL,Ou,ac9,ad8,id,dJ,aal,decide_eq_true_eq,beq_iff_eq,Int.natCast_inj];constructor
 ·rintro⟨h1,h2,h3,h4,h5,h6,h7,h8,h9,h10,h11,h12,h13,h14⟩;exact⟨⟨h1,h2,h3,h4,h5,h6,h7,h8,⟨h9,h10,h11⟩,h12,vf h13,vf h14,trivial⟩,h13,h14⟩
 ·rintro⟨⟨h1,h2,h3,h4,h5,h6,h7,h8,⟨h9,h10,h11⟩,h12,_,_,_⟩,h13,h14⟩;exact⟨h1,h2,h3,h4,h5,h6,h7,h8,h9,h10,h11,h12,h13,h14⟩
theorem Yy:au Tryz.prog 21 false (aD [(0,sE),(1,sE)] λ((e:aa),(f:aa),_)=>.lf (aB (SL e f))):=
 bg (C:=C11) (((nL _ _).add 0 _ Yw).add 1 _ Yv) false 99 [(0,sE),(1,sE)] (λ((e:aa),(f:aa),_)=>eqB e f)
  (λ⟨(e:aa),(f:aa),_⟩ r _ h=>by
   obtain rfl:aB (SL e f)=r:=h;refine⟨?_,.inr rfl⟩;show(eqB e f).hit _;unfold eqB;rw[SK];cases dW:(Ou e f).all id with
   | false=>exact G2 (ret:=.lf (aB false)) rfl _ dW
   | true=>
    have GD:e.cont.length=f.cont.length/\e.styl.length=f.styl.length:=by
     simp only[Ou,ac9,ad8,id,aal,beq_iff_eq,Int.natCast_inj] at dW;obtain⟨_,_,_,_,_,_,_,_,_,_,h1,h2,_⟩:=dW;exact⟨h1,h2⟩
    refine Ch (r:=aB _) ?_ _ dW;refine⟨GD.1,⟨by omega,by omega⟩,?_⟩;rw[Vi aK ae.zero GD.1 0 (aaS _),Vi aZ ai.zero GD.2 0 (aaS _),acF,acF,acF,acF,acW];refine GK λ_=>⟨GD.2,⟨by omega,by omega⟩,?_⟩;cases fY aZ e.styl f.styl with
    | true=>exact aH rfl rfl
    | false=>exact aP rfl rfl) Tryz.func21
theorem po (l:List ByteArray) (s:ByteArray):cW l s=true↔s∈l:=Lib.containsS_iff l s
theorem Jd (l:List UInt8):ju l=gG l:=by
 rw[ady];constructor
 ·intro h;unfold ju at h;simp only[aal,decide_eq_true_eq,aau,acG,aci] at h;obtain⟨h1,h2,h3,h4⟩:=h;have hw:=ko h1;unfold gG;simp only[aal,decide_eq_true_eq];refine⟨by rintro rfl;simp at h2,?_⟩;unfold fL;rw[hw.1,if_neg];rintro(h|h|⟨h,h'⟩|h)
  ·omega
  ·omega
  ·rcases h4 with h4|h4
   ·omega
   ·rw[h] at h4;simp at h4
  ·rw[aaE (aam _)] at h;simp at h
 ·intro h;obtain⟨h1,h2,h3⟩:=gz h;have hw:=ko h3;unfold gG at h;simp only[aal,decide_eq_true_eq] at h;have h4:=h.2;have hl:1<=l.length:=by
   rcases l with _|⟨c,r⟩
   ·exact absurd rfl h1
   ·simp
  unfold ju;simp only[aal,decide_eq_true_eq,aau,acG,aci];refine⟨h3,hl,h2,?_⟩;unfold fL at h4;rw[hw.1] at h4;by_cases ib:l.length=1
  ·exact .inl ib
  ·refine .inr ?_;by_cases h5:l.head?=some 48
   ·rw[if_pos (.inr (.inr (.inl ⟨h5,by omega⟩)))] at h4;omega
   ·simpa using h5
theorem AO {x:UInt8} {d:Nat} (h:Lib.digitVal x=some d) (n:Nat):cK (n:Int) x=((n*10+d:Nat):Int):=by
 unfold Lib.digitVal at h;split at h
 ·injection h with h
  unfold cK;omega
 ·cases h
theorem BE:∀(l:List UInt8) (dy n:Nat),Lib.decFrom dy l=some n->l.foldl cK (dy:Int)=(n:Int)
 | [],dy,n,h=>by simp only[Lib.decFrom,Option.some.injEq] at h;simp[h]
 | x::l,dy,n,h=>by
  simp only[Lib.decFrom] at h;cases hd:Lib.digitVal x with
  | none=>rw[hd] at h;cases h
  | some d=>
   rw[hd] at h;rw[adT,AO hd];exact BE l _ n h
theorem tT (l:List UInt8):(cP l).2=(bI l).2:=by
 unfold cP bI;rw[Jd];cases gG l<;>rfl
theorem tR {l:List UInt8} (h:(bI l).2=true):(cP l).1=(bI l).1:=by
 have hn:gG l=true:=by
  unfold bI at h;cases hb:gG l with
  | true=>rfl
  | false=>rw[hb] at h;simp at h
 obtain⟨h1,h2,h3⟩:=gz hn;obtain⟨n,hn2⟩:=jZ l 0 h3;have hd:Lib.decNat l=some n:=by
  unfold Lib.decNat;rw[if_neg (by cases l with|nil=>exact absurd rfl h1|cons _ _=>simp)];exact hn2
 unfold cP bI;rw[hn,if_pos rfl,hd,acR h2];exact BE l 0 n hn2
theorem Bl {c:UInt8} {r:List UInt8}:gX (c::r)=true↔gH (c::r)=true/\97<=c.toNat:=by
 constructor
 ·intro h;unfold gX at h;simp only[aal,decide_eq_true_eq,List.head?_cons,adf,acl] at h;obtain⟨_,h2,h3⟩:=h;have hc:97<=c.toNat:=by
   unfold fB at h2;simp only[aal,decide_eq_true_eq] at h2;exact h2.1
  refine⟨?_,hc⟩;unfold gH;rw[if_neg (by simp),if_pos];left
  unfold jc;simp only;rw[if_pos h2];exact h3
 ·rintro⟨h1,h2⟩;have GB:∀q:List UInt8,gG (c::q)=true->False:=λq h=>by
   have:=(gz h).2.2 c (by simp);unfold digitB at this;simp only[aal,decide_eq_true_eq] at this;omega
  unfold gH at h1;rw[if_neg (by simp)] at h1;split at h1
  ·rename_i h3;rcases h3 with h3|h3
   ·unfold jc at h3;simp only at h3;by_cases hl:fB c=true
    ·rw[if_pos hl] at h3;unfold gX;simp only[aal,decide_eq_true_eq,List.head?_cons,adf,acl];exact⟨by simp,hl,h3⟩
    ·rw[if_neg hl] at h3;simp at h3
   ·exfalso
    refine GB r ?_;unfold gG;simp only[aal,decide_eq_true_eq];exact⟨by simp,h3⟩
  ·exfalso
   simp only[aal,decide_eq_true_eq] at h1;obtain⟨_,h4,_,h5,_⟩:=h1;have h6:gG (dn (c::r))=true:=by
    unfold gG;simp only[aal,decide_eq_true_eq];exact⟨h4,h5⟩
   unfold dn at h6 h4;rw[List.takeWhile_cons] at h6 h4;split at h6
   ·exact GB _ h6
   ·rename_i h7;rw[if_neg h7] at h4;exact h4 rfl
theorem Qd {l:List UInt8} (hl:l≠[]):gX l=false↔gH l=false\/((l[0]?).getD 0).toNat<97:=by
 cases l with
 | nil=>exact absurd rfl hl
 | cons c r=>
  have h:=Bl (c:=c) (r:=r);simp only[adC,acl];constructor
  ·intro h1;by_cases h2:97<=c.toNat
   ·left
    cases h3:gH (c::r) with
    | false=>rfl
    | true=>rw[h.2 ⟨h3,h2⟩] at h1;cases h1
   ·right;omega
  ·intro h1;cases h2:gX (c::r) with
   | false=>rfl
   | true=>
    obtain⟨h3,h4⟩:=h.1 h2;rcases h1 with h1|h1
    ·rw[h3] at h1;cases h1
    ·omega
theorem gF (s:Bool) {A B:Nat} (hB:0<B):0<(dE s A B).d/\(dE s A B).n*B=A*(dE s A B).d:=by
 unfold dE;split
 ·rename_i h;rcases h with h|h
  ·simp[h]
  ·omega
 ·rename_i h;have hA:0<A:=by omega
  refine⟨Nat.div_pos (Nat.gcd_le_right _ hB) (Nat.gcd_pos_of_pos_left _ hA),?_⟩;show A/Nat.gcd A B*B=A*(B/Nat.gcd A B);rw[Nat.div_mul_right_comm (Nat.gcd_dvd_left A B),Nat.mul_div_assoc _ (Nat.gcd_dvd_right A B)]
theorem fg (s:Bool) {A B:Nat} (hB:0<B):((dE s A B).n=0↔A=0)/\(dE s A B).neg=(s&&!decide (A=0)):=by
 unfold dE;split
 ·rename_i h;rcases h with h|h
  ·simp[h]
  ·omega
 ·rename_i h;have hA:0<A:=by omega
  have hg:0<A/Nat.gcd A B:=Nat.div_pos (Nat.gcd_le_left _ hA) (Nat.gcd_pos_of_pos_left _ hA);refine⟨⟨λh=>?_,λh=>by omega⟩,by simp;omega⟩;have h1:A/Nat.gcd A B=0:=h;omega
theorem OO {p q:Q} (hp:p.neg=false) (hq:q.neg=true\/q.n=0) (hpd:0<p.d) (UG:0<q.d):(mG p q<0↔p.n*q.d<q.n*p.d)/\(0<mG p q↔q.n*p.d<p.n*q.d):=by
 have hd:0<p.d*q.d:=Nat.mul_pos hpd UG;obtain⟨X,hX⟩:∃X,p.n*q.d=X:=⟨_,rfl⟩;obtain⟨Y,hY⟩:∃Y,q.n*p.d=Y:=⟨_,rfl⟩;unfold mG vh;rw[hX,hY,hp];obtain⟨D,hD⟩:∃D,p.d*q.d=D:=⟨_,rfl⟩;rw[hD] at hd;rw[hD];have hs:nX false X q.neg Y=if Y<=X then(false,X-Y) else(true,Y-X):=by
  unfold nX;cases hn:q.neg with
  | true=>simp
  | false=>
   rcases hq with hq|hq
   ·rw[hn] at hq;cases hq
   ·have Sw:Y=0:=by rw[<-hY,hq,aej]
    subst Sw;simp
 rw[hs];by_cases h:Y<=X
 ·rw[if_pos h];have hz:=fg false (A:=X-Y) hd;simp only[adK] at hz;rw[hz.2];by_cases h0:X-Y=0
  ·rw[if_neg (by simp),if_pos (hz.1.2 h0)];constructor<;>constructor<;>intro h'<;>omega
  ·rw[if_neg (by simp),if_neg (λh'=>h0 (hz.1.1 h'))];constructor<;>constructor<;>intro h'<;>omega
 ·rw[if_neg h];have hz:=fg true (A:=Y-X) hd;have h0:¬Y-X=0:=by omega
  rw[decide_eq_false h0] at hz;rw[if_pos (by rw[hz.2];rfl)];constructor<;>constructor<;>intro h'<;>omega
theorem kJ (A C:Nat) {B D:Nat} (hB:0<B) (hD:0<D):(nE (dE false A B) (dE false C D)<0↔A*D<C*B)/\(0<nE (dE false A B) (dE false C D)↔C*B<A*D):=by
 have h1:=gF false (A:=A) hB;have h2:=gF false (A:=C) hD;have n1:=fg false (A:=A) hB;obtain⟨a,ha⟩:∃a,dE false A B=a:=⟨_,rfl⟩;obtain⟨c,hc⟩:∃c,dE false C D=c:=⟨_,rfl⟩;rw[ha] at h1 n1;rw[hc] at h2;rw[ha,hc];have e1:a.raw.q=dE a.neg a.n a.d:=Q.raw_q a;have e2:c.raw.flip.q=dE (!c.neg) c.n c.d:=by simp[Q.raw,Raw.flip,Raw.q,bi]
 have c0:c.neg=false:=by rw[<-hc];exact(fg false hD).2
 have a0:a.neg=false:=n1.2;unfold nE;rw[e1,e2,c0,a0];have p1:=gF false (A:=a.n) h1.1;have p2:=gF (!false) (A:=c.n) h2.1;have z1:=fg false (A:=a.n) h1.1;have z2:=fg (!false) (A:=c.n) h2.1;obtain⟨p,hp⟩:∃p,dE false a.n a.d=p:=⟨_,rfl⟩;obtain⟨q,hq⟩:∃q,dE (!false) c.n c.d=q:=⟨_,rfl⟩;rw[hp] at p1 z1;rw[hq] at p2 z2;rw[hp,hq];have Xv:q.neg=true\/q.n=0:=by
  by_cases h:c.n=0
  ·exact .inr (z2.1.2 h)
  ·left;rw[z2.2,decide_eq_false h];rfl
 have hm:=OO z1.2 Xv p1.1 p2.1;have x1:p.n*B=A*p.d:=by
  have:p.n*B*a.d=A*p.d*a.d:=by
   calc p.n*B*a.d=(p.n*a.d)*B:=by rw[adk]
    _=(a.n*p.d)*B:=by rw[p1.2]
    _=(a.n*B)*p.d:=by rw[adk]
    _=(A*a.d)*p.d:=by rw[h1.2]
    _=A*p.d*a.d:=by rw[adk]
  exact ad1 h1.1 this
 have x2:q.n*D=C*q.d:=by
  have:q.n*D*c.d=C*q.d*c.d:=by
   calc q.n*D*c.d=(q.n*c.d)*D:=by rw[adk]
    _=(c.n*q.d)*D:=by rw[p2.2]
    _=(c.n*D)*q.d:=by rw[adk]
    _=(C*c.d)*q.d:=by rw[h2.2]
    _=C*q.d*c.d:=by rw[adk]
  exact ad1 h2.1 this
 have hBD:0<B*D:=Nat.mul_pos hB hD;have hpq:0<p.d*q.d:=Nat.mul_pos p1.1 p2.1;have y1:(p.n*q.d)*(B*D)=(A*D)*(p.d*q.d):=by
  calc (p.n*q.d)*(B*D)=(p.n*B)*(q.d*D):=by rw[ac4]
   _=(A*p.d)*(D*q.d):=by rw[x1,adU q.d D]
   _=(A*D)*(p.d*q.d):=by rw[ac4]
 have y2:(q.n*p.d)*(B*D)=(C*B)*(p.d*q.d):=by
  calc (q.n*p.d)*(B*D)=(q.n*p.d)*(D*B):=by rw[adU B D]
   _=(q.n*D)*(p.d*B):=by rw[ac4]
   _=(C*q.d)*(B*p.d):=by rw[x2,adU p.d B]
   _=(C*B)*(q.d*p.d):=by rw[ac4]
   _=(C*B)*(p.d*q.d):=by rw[adU q.d p.d]
 have hlt:∀u v u' v':Nat,u*(B*D)=u'*(p.d*q.d)->v*(B*D)=v'*(p.d*q.d)->(u<v↔u'<v'):=λu v u' v' e1 e2=>by
  rw[<-Nat.mul_lt_mul_right hBD,e1,e2,Nat.mul_lt_mul_right hpq]
 exact⟨hm.1.trans (hlt _ _ _ _ y1 y2),hm.2.trans (hlt _ _ _ _ y2 y1)⟩
theorem m6 (a b:Nat):eS a b=dE false a b:=by
 unfold eS;have h1:decide ((a:Int)<0)=false:=decide_eq_false (by omega);have h2:decide ((b:Int)<0)=false:=decide_eq_false (by omega);rw[h1,h2];simp
theorem oZ (l:List UInt8):∃n:Nat,(bI l).1=(n:Int):=⟨(bI l).1.toNat,by have:=(gy l).1;omega⟩
theorem S7 {l:List UInt8} (h:ij l=false):(bI (cY l)).2=false:=by
 rcases iQ l with h1|⟨k,_,h2,h3,_⟩
 ·rw[(uS h1).2.1];rfl
 ·rw[(pD h2 h3).2.2] at h;cases h
theorem Az (l:List UInt8):(dK l).1=(gQ l).1/\((gQ l).1=0->(gQ l).2=some (dK l).2):=by
 unfold dK gQ;rw[tT,tT];by_cases hn:((bI (dn l)).2&&(bI (cY l)).2)=false
 ·rw[if_pos (.inr hn),if_pos hn];exact⟨rfl,λh=>by cases h⟩
 ·have hc:¬ij l=false:=λh=>hn (by rw[S7 h,Bool.and_false]);rw[if_neg (by rintro(h|h);exact hc h;exact hn h),if_neg hn];have sx:(bI (dn l)).2=true/\(bI (cY l)).2=true:=by
   revert hn
   cases (bI (dn l)).2<;>cases (bI (cY l)).2<;>simp
  rw[tR sx.1,tR sx.2];obtain⟨a,ha⟩:=oZ (dn l);obtain⟨b,hb⟩:=oZ (cY l);rw[ha,hb];have e1:eS 1 1000=dE false 1 1000:=m6 1 1000;have e2:eS 1 2=dE false 1 2:=m6 1 2;rw[m6,e1,e2];have acT:((b:Int)=0\/1000*(a:Int)<b\/(b:Int)<2*a)↔((b:Int)=0\/nE (dE false a b) (dE false 1 1000)<0\/0<nE (dE false a b) (dE false 1 2)):=by
   by_cases hb0:b=0
   ·simp[hb0]
   ·have hbp:0<b:=by omega
    rw[(kJ a 1 hbp (by omega:0<1000)).1,(kJ a 1 hbp (by omega:0<2)).2];omega
  by_cases h4:(b:Int)=0\/1000*(a:Int)<b\/(b:Int)<2*a
  ·rw[if_pos h4,if_pos (acT.1 h4)];exact⟨rfl,λh=>by cases h⟩
  ·rw[if_neg h4,if_neg (λh=>h4 (acT.2 h))];exact⟨rfl,λ_=>rfl⟩
theorem DL (s:ByteArray):cU s 0 24=true↔¬(s≠⟨#[]⟩/\mj s=false):=by
 by_cases h:s=⟨#[]⟩
 ·subst h;simp;kernel_rfl
 ·have hs:1<=s.size:=by
   rcases adg s.size with h0|h0
   ·exfalso
    apply h;obtain⟨⟨l⟩⟩:=s;have:l.length=0:=h0;rw[aaw this]
   ·exact h0
  have e:mj s=cU s 0 24:=by
   unfold mj cU;rw[decide_eq_true (by omega:(1:Int)<=(s.size:Int)),decide_eq_true (by omega:(0:Int)<=(s.size:Int))];rw[acW,acW,Bool.and_comm]
  rw[e];simp[h]
def iZ (no line:Int):dH:=if no=0 then⟨0,0⟩ else⟨no,line⟩
theorem fV (no line:Int):(⟨0,0⟩:dH).note no line=iZ no line:=by
 unfold dH.note iZ;by_cases h:no=0
 ·rw[if_neg (λk=>k.2 h),if_pos h]
 ·rw[if_pos ⟨rfl,h⟩,if_neg h]
theorem py (line:Int):iZ 0 line=⟨0,0⟩:=rfl
theorem pz {no line:Int}:(iZ no line).no=no:=by
 unfold iZ;split
 ·rename_i h;exact h.symm
 ·rfl
theorem qp {f:dH} {no line:Int} (h:f.no≠0):f.note no line=f:=by
 unfold dH.note;rw[if_neg (λk=>h k.1)]
theorem D5 (f:dH) (line:Int):f.note 0 line=f:=by
 unfold dH.note;rw[if_neg (λk=>k.2 rfl)]
theorem gR {kind:ByteArray} {f:ao} {v:aF} {lo hi:Int} (dI:Lib.containsS (aJ kind) f.key=true) (hk:(v.ln f.key).isSome=false) (h1:bB f.key=0) (h2:az f.key=[]) (h3:f.key≠dP) (h4:f.key≠gm) (h5:dj f.key=(lo,hi)) : (bN kind f v).1=pX f.vals lo hi/\(pX f.vals lo hi=0->(bN kind f v).2={ v with ln:=setF v.ln f.key f.line,num:=setF v.num f.key (kV f.vals) }):=by
 unfold bN pX;rw[if_neg (by rw[dI];simp),if_neg (by rw[hk];simp),if_neg (by rw[h1];simp)];by_cases hl:f.vals.length≠1
 ·rw[if_pos hl,if_pos hl];exact⟨rfl,λh=>by cases h⟩
 ·rw[if_neg hl,if_neg hl];have hv:bc f.vals=f.vals.getD 0 ⟨#[]⟩:=by unfold bc;rw[if_neg hl]
  unfold tN kV;rw[hv,if_neg (by rw[h2];simp),if_neg h3,if_neg h4,h5,tT];by_cases hn:(bI (f.vals.getD 0 ⟨#[]⟩).data.toList).2=false
  ·rw[if_pos hn,if_pos hn];exact⟨rfl,λh=>by cases h⟩
  ·rw[if_neg hn,if_neg hn,tR (by simpa using hn)];simp only;split
   ·exact⟨rfl,λh=>by cases h⟩
   ·exact⟨rfl,λ_=>rfl⟩
theorem oU {kind:ByteArray} {f:ao} {v:aF} {ws:List ByteArray} (dI:Lib.containsS (aJ kind) f.key=true) (hk:(v.ln f.key).isSome=false) (h1:bB f.key=0) (h2:az f.key=ws) (h3:ws≠[]) : (bN kind f v).1=oD f.vals ws/\(oD f.vals ws=0->(bN kind f v).2={ v with ln:=setF v.ln f.key f.line,num:=setF v.num f.key (jG f.vals ws) }):=by
 unfold bN oD;rw[if_neg (by rw[dI];simp),if_neg (by rw[hk];simp),if_neg (by rw[h1];simp)];by_cases hl:f.vals.length≠1
 ·rw[if_pos hl,if_pos hl];exact⟨rfl,λh=>by cases h⟩
 ·rw[if_neg hl,if_neg hl];have hv:bc f.vals=f.vals.getD 0 ⟨#[]⟩:=by unfold bc;rw[if_neg hl]
  unfold tN jG;rw[hv,if_pos (by rw[h2];exact h3),h2];have hm:-1<=Lib.idxOfS ws (f.vals.getD 0 ⟨#[]⟩):=by
   unfold Lib.idxOfS;exact(gZ (f.vals.getD 0 ⟨#[]⟩) ws 0).1
  simp only;by_cases hn:Lib.idxOfS ws (f.vals.getD 0 ⟨#[]⟩)<0
  ·rw[if_pos hn,if_pos (by omega)];exact⟨rfl,λh=>by cases h⟩
  ·rw[if_neg hn,if_neg (by omega)];refine⟨?_,λ_=>?_⟩<;>first|rfl|trivial
theorem oT {kind:ByteArray} {f:ao} {v:aF} {n:Int} (dI:Lib.containsS (aJ kind) f.key=true) (hk:(v.ln f.key).isSome=false) (h1:bB f.key=n) (hn:0<n) : (bN kind f v).1=dc f.vals n/\(dc f.vals n=0->(bN kind f v).2={ v with ln:=setF v.ln f.key f.line,lst:=setF v.lst f.key f.vals }):=by
 unfold bN;rw[if_neg (by rw[dI];simp),if_neg (by rw[hk];simp),if_pos (by rw[h1];exact hn),h1];exact⟨rfl,λ_=>rfl⟩
theorem IE {kind:ByteArray} {f:ao} {v:aF} (dI:Lib.containsS (aJ kind) f.key=true) (hk:(v.ln f.key).isSome=false) (h:f.key=dP) : (bN kind f v).1=jM f.vals/\(jM f.vals=0->(bN kind f v).2={ v with ln:=setF v.ln f.key f.line,risk:=(dK (bc f.vals).data.toList).2 }):=by
 have h1:bB f.key=0:=by rw[h];kernel_rfl
 have h2:az f.key=[]:=by rw[h];kernel_rfl
 unfold bN jM;rw[if_neg (by rw[dI];simp),if_neg (by rw[hk];simp),if_neg (by rw[h1];simp)];by_cases hl:f.vals.length≠1
 ·rw[if_pos hl,if_pos hl];exact⟨rfl,λh=>by cases h⟩
 ·rw[if_neg hl,if_neg hl];have hv:bc f.vals=f.vals.getD 0 ⟨#[]⟩:=by unfold bc;rw[if_neg hl]
  unfold tN;rw[hv,if_neg (by rw[h2];simp),if_pos h];have hr:=Az (f.vals.getD 0 ⟨#[]⟩).data.toList;refine⟨hr.1.symm,λh0=>?_⟩;rw[hr.2 (hr.1.symm.trans h0)];rfl
theorem ID {kind:ByteArray} {f:ao} {v:aF} (dI:Lib.containsS (aJ kind) f.key=true) (hk:(v.ln f.key).isSome=false) (h:f.key=gm) : (bN kind f v).1=ma f.vals/\(ma f.vals=0->(bN kind f v).2={ v with ln:=setF v.ln f.key f.line,seed:=bc f.vals }):=by
 have h1:bB f.key=0:=by rw[h];kernel_rfl
 have h2:az f.key=[]:=by rw[h];kernel_rfl
 unfold bN ma;rw[if_neg (by rw[dI];simp),if_neg (by rw[hk];simp),if_neg (by rw[h1];simp)];by_cases hl:f.vals.length≠1
 ·rw[if_pos hl,if_pos hl];exact⟨rfl,λh=>by cases h⟩
 ·rw[if_neg hl,if_neg hl];have hv:bc f.vals=f.vals.getD 0 ⟨#[]⟩:=by unfold bc;rw[if_neg hl]
  unfold tN;rw[hv,if_neg (by rw[h2];simp),if_neg (by rw[h];decide),if_pos h];have hp:=DL (f.vals.getD 0 ⟨#[]⟩);by_cases hq:cU (f.vals.getD 0 ⟨#[]⟩) 0 24=true
  ·rw[if_pos hq,if_neg (hp.1 hq)];exact⟨rfl,λ_=>rfl⟩
  ·rw[if_neg hq,if_pos (aa2.1 λh'=>hq (hp.2 h'))];exact⟨rfl,λh=>by cases h⟩
structure mO (kind nm:ByteArray) (b:cm) (v:aF) (x:dT):Prop where
 f:x.f=⟨0,0⟩
 kn:∀k,cW x.known k=(v.ln k).isSome
 only:∀k,(v.ln k).isSome=true->k∈aJ kind
 e:kind≠aj->kind≠aA->x.e=(aV kind nm v b).e
 e':(kind=aj\/kind=aA)->x.e=b.e
 c:kind=aj->({ x.c with name:=nm }:ae)=dC nm v/\x.digits=v.l aC/\x.seats=v.l bz
 c':kind≠aj->x.c=ae.zero
 s:kind=aA->x.n0=v.s af/\x.n1=v.s ax/\x.l0=v.l af/\x.l1=v.l ax
theorem xy (l:List ByteArray) (a k:ByteArray):cW (l++[a]) k=(cW l k||decide (k=a)):=by
 rw[ady,acG,po,po,decide_eq_true_eq];simp
theorem RP {l:List ByteArray} {ln:ByteArray->Option Int} (h:∀k,cW l k=(ln k).isSome) (a:ByteArray) (line:Int):∀k,cW (l++[a]) k=(setF ln a line k).isSome:=by
 intro k;rw[xy,h];unfold setF;by_cases e:k=a
 ·rw[if_pos e,decide_eq_true e];simp
 ·rw[if_neg e,decide_eq_false e];simp
theorem IN {kind:ByteArray} {ln:ByteArray->Option Int} (h:∀k,(ln k).isSome=true->k∈aJ kind) {a:ByteArray} (ha:a∈aJ kind) (line:Int):∀k,(setF ln a line k).isSome=true->k∈aJ kind:=by
 intro k hk;unfold setF at hk;split at hk
 ·rename_i e;rw[e];exact ha
 ·exact h k hk
theorem lh {kind key:ByteArray} (h:key∈aJ kind):(kind=bR/\(key=il\/key=ct\/key=bF))\/(kind=aO/\(key=fq\/key=fu))\/(kind=af/\(key=ed))\/(kind=aj/\(key=be\/key=bz\/key=gg\/key=aC\/key=gV\/key=bV\/key=gW\/key=ft))\/(kind=aA/\(key=af\/key=ax))\/(kind=bG/\(key=dP\/key=gm))\/(kind=bo/\(key=im)):=by
 unfold aJ at h;split at h
 ·rename_i e;have h2:key∈[il,ct,bF]:=h;exact .inl (⟨e,by simpa using h2⟩)
 split at h
 ·rename_i e;have h2:key∈[fq,fu]:=h;exact .inr (.inl (⟨e,by simpa using h2⟩))
 split at h
 ·rename_i e;have h2:key∈[ed]:=h;exact .inr (.inr (.inl (⟨e,by simpa using h2⟩)))
 split at h
 ·rename_i e;have h2:key∈[be,bz,gg,aC,gV,bV,gW,ft]:=h;exact .inr (.inr (.inr (.inl (⟨e,by simpa using h2⟩))))
 split at h
 ·rename_i e;have h2:key∈[af,ax]:=h;exact .inr (.inr (.inr (.inr (.inl (⟨e,by simpa using h2⟩)))))
 split at h
 ·rename_i e;have h2:key∈[dP,gm]:=h;exact .inr (.inr (.inr (.inr (.inr (.inl (⟨e,by simpa using h2⟩))))))
 split at h
 ·rename_i e;have h2:key∈[im]:=h;exact .inr (.inr (.inr (.inr (.inr (.inr (⟨e,by simpa using h2⟩))))))
 ·cases h
theorem Bj:aJ bG=[dP,gm]:=by kernel_rfl
def CK (kind nm:ByteArray) (b:cm) (v:aF) (x:dT) (f:ao):Prop:=
 (eA kind x f).f=iZ (bN kind f v).1 f.line/\((bN kind f v).1=0->mO kind nm b (bN kind f v).2 (eA kind x f))
section
variable {kind key nm:ByteArray} {b:cm} {v v':aF} {x y:dT} {vals:List ByteArray} {line C:Int}
theorem yf (h:mO kind nm b v x) (dI:Lib.containsS (aJ kind) key=true) (hr:(bN kind ⟨key,vals,line⟩ v).1=C/\(C=0->(bN kind ⟨key,vals,line⟩ v).2=v')) (hv:v'.ln=setF v.ln key line) (hs:eA kind x ⟨key,vals,line⟩={ y with f:=iZ C line,known:=x.known++[key] }) (e:kind≠aj->kind≠aA->y.e=(aV kind nm v' b).e) (e':(kind=aj\/kind=aA)->y.e=b.e) (c:kind=aj->({ y.c with name:=nm }:ae)=dC nm v'/\y.digits=v'.l aC/\y.seats=v'.l bz) (c':kind≠aj->y.c=ae.zero) (s:kind=aA->y.n0=v'.s af/\y.n1=v'.s ax/\y.l0=v'.l af/\y.l1=v'.l ax):CK kind nm b v x ⟨key,vals,line⟩:=by
 unfold CK;rw[hs,hr.1];refine⟨rfl,λh0=>?_⟩;rw[hr.2 h0,h0];exact⟨rfl,hv▸RP h.kn _ _,hv▸IN h.only ((po _ _).1 dI) _,e,e',c,c',s⟩
variable (h:mO kind nm b v x) (hk:(v.ln key).isSome=false) (dI:Lib.containsS (aJ kind) key=true)
include h hk dI
theorem Dw:eA kind x ⟨key,vals,line⟩=if kind=aj then { x with f:=iZ (j0 x.c ⟨key,vals,line⟩).2 line,known:=x.known++[key],c:=(j0 x.c ⟨key,vals,line⟩).1,digits:=if key=aC then line else x.digits,seats:=if key=bz then line else x.seats } else if kind=aA/\key=af then { x with f:=iZ (dc vals 12) line,known:=x.known++[key],n0:=vals,l0:=line } else if kind=aA then { x with f:=iZ (dc vals 4) line,known:=x.known++[key],n1:=vals,l1:=line } else { x with f:=iZ (gA kind x.e ⟨key,vals,line⟩).2 line,known:=x.known++[key],e:=(gA kind x.e ⟨key,vals,line⟩).1 }:=by
 have NI:cW (aJ kind) key=true:=dI;have nP:cW x.known key=false:=(h.kn _).trans hk;unfold eA;simp only[h.f,NI,nP,if_true,D5,acg,if_false,ne_eq,not_true_eq_false,fV]
theorem kX (up:aa->aa) (hr:(bN kind ⟨key,vals,line⟩ v).1=C/\(C=0->(bN kind ⟨key,vals,line⟩ v).2=v')) (hc:∀e,gA kind e ⟨key,vals,line⟩=(up e,C)) (dV:∀b,up (aV kind nm v b).e=(aV kind nm v' b).e) (hv:v'.ln=setF v.ln key line:=by rfl) (h1:kind≠aj:=by decide) (h2:kind≠aA:=by decide):CK kind nm b v x ⟨key,vals,line⟩:=
 yf h dI hr hv (y:={ x with e:=up x.e }) (by rw[Dw h hk dI,if_neg h1,if_neg (λq=>h2 q.1),if_neg h2,hc]) (λ_ _=>(congrArg up (h.e h1 h2)).trans (dV b)) (λq=>(q.elim h1 h2).elim) (λq=>(h1 q).elim) h.c' λq=>(h2 q).elim
omit h hk dI in
theorem Mv (hv:v'.ln=setF v.ln key line) (k:ByteArray):v'.l k=if k=key then line else v.l k:=by
 unfold aF.l setF at*;rw[hv];simp only;split<;>rfl
theorem lZ (up:ae->ae) (hK:kind=aj) (hr:(bN kind ⟨key,vals,line⟩ v).1=C/\(C=0->(bN kind ⟨key,vals,line⟩ v).2=v')) (hc:∀c,j0 c ⟨key,vals,line⟩=(up c,C)) (dV:up (dC nm v)=dC nm v') (hn:∀c:ae,({ up c with name:=nm }:ae)=up { c with name:=nm }:=by intro c;rfl) (hv:v'.ln=setF v.ln key line:=by rfl):CK kind nm b v x ⟨key,vals,line⟩:=by
 obtain⟨c1,c2,c3⟩:=h.c hK;refine yf h dI hr hv (y:={ x with c:=up x.c,digits:=if key=aC then line else x.digits,seats:=if key=bz then line else x.seats }) (by rw[Dw h hk dI,if_pos hK,hc]) (λq=>(q hK).elim) h.e'
  (λ_=>⟨(hn x.c).trans ((congrArg up c1).trans dV),?_,?_⟩) (λq=>(q hK).elim) λq=>absurd (hK.symm.trans q) (by decide)
 ·show(if key=aC then _ else _)=_;rw[Mv hv,c2];simp only[eq_comm]
 ·show(if key=bz then _ else _)=_;rw[Mv hv,c3];simp only[eq_comm]
theorem Lh (hK:kind=aA) (hr:(bN kind ⟨key,vals,line⟩ v).1=C/\(C=0->(bN kind ⟨key,vals,line⟩ v).2={ v with ln:=setF v.ln key line,lst:=setF v.lst key vals })) (hC:C=dc vals (if key=af then 12 else 4)) (hp:key=af\/key=ax):CK kind nm b v x ⟨key,vals,line⟩:=by
 subst hC hK;have hy:=Dw (vals:=vals) (line:=line) h hk dI;rw[if_neg (by decide)] at hy;obtain⟨s1,s2,s3,s4⟩:=h.s rfl;rcases hp with rfl|rfl
 ·rw[if_pos ⟨rfl,rfl⟩] at hy;exact yf h dI hr rfl (y:={ x with n0:=vals,l0:=line }) hy (λ_ q=>(q rfl).elim) h.e' (λq=>absurd q (by decide)) h.c' λ_=>⟨rfl,s2,rfl,s4⟩
 ·rw[if_neg (by decide),if_pos rfl] at hy;exact yf h dI hr rfl (y:={ x with n1:=vals,l1:=line }) hy (λ_ q=>(q rfl).elim) h.e' (λq=>absurd q (by decide)) h.c' λ_=>⟨s1,rfl,s3,rfl⟩
end
theorem Qs {kind nm:ByteArray} {b:cm} {v:aF} {x:dT} (h:mO kind nm b v x) (f:ao) : (eA kind x f).f=iZ (bN kind f v).1 f.line/\((bN kind f v).1=0->mO kind nm b (bN kind f v).2 (eA kind x f)):=by
 have hf:=h.f;by_cases dI:Lib.containsS (aJ kind) f.key=true
 ·by_cases hk:(v.ln f.key).isSome=true
  ·have hr:bN kind f v=(3,v):=by
    unfold bN;rw[if_neg (by rw[dI];simp),if_pos hk]
   have NI:cW (aJ kind) f.key=true:=dI;have nP:cW x.known f.key=true:=(h.kn _).trans hk;rw[hr];refine⟨?_,λh0=>by cases h0⟩;unfold eA;simp only[hf,NI,nP,if_true,D5,fV];rw[if_pos (by rw[pz];omega)]
  ·have hk:(v.ln f.key).isSome=false:=by simpa using hk
   have hm:f.key∈aJ kind:=(po _ _).1 dI;have hc:=lh hm;obtain⟨key,vals,line⟩:=f;simp only at hc dI hk;rcases hc with⟨rfl,(rfl|rfl|rfl)⟩|⟨rfl,(rfl|rfl)⟩|⟨rfl,rfl⟩|⟨rfl,(rfl|rfl|rfl|rfl|rfl|rfl|rfl|rfl)⟩|⟨rfl,(rfl|rfl)⟩|⟨rfl,(rfl|rfl)⟩|⟨rfl,rfl⟩
   ·exact kX h hk dI (λe=>{ e with dots:=kV vals }) (gR (lo:=2) (hi:=7) dI hk (by kernel_rfl) (by kernel_rfl) (by dsimp only;decide) (by dsimp only;decide) (by kernel_rfl)) (λ_=>by kernel_rfl) λ_=>by kernel_rfl
   ·exact kX h hk dI (λe=>{ e with blank:=kV vals }) (gR (lo:=1) (hi:=100) dI hk (by kernel_rfl) (by kernel_rfl) (by dsimp only;decide) (by dsimp only;decide) (by kernel_rfl)) (λ_=>by kernel_rfl) λ_=>by kernel_rfl
   ·exact kX h hk dI (λe=>{ e with marked:=kV vals }) (gR (lo:=1) (hi:=100) dI hk (by kernel_rfl) (by kernel_rfl) (by dsimp only;decide) (by dsimp only;decide) (by kernel_rfl)) (λ_=>by kernel_rfl) λ_=>by kernel_rfl
   ·exact kX h hk dI (λe=>{ e with scan:=kV vals }) (gR (lo:=1) (hi:=6) dI hk (by kernel_rfl) (by kernel_rfl) (by dsimp only;decide) (by dsimp only;decide) (by kernel_rfl)) (λ_=>by kernel_rfl) λ_=>by kernel_rfl
   ·exact kX h hk dI (λe=>{ e with batch:=kV vals }) (gR (lo:=1) (hi:=16) dI hk (by kernel_rfl) (by kernel_rfl) (by dsimp only;decide) (by dsimp only;decide) (by kernel_rfl)) (λ_=>by kernel_rfl) λ_=>by kernel_rfl
   ·exact kX h hk dI (λe=>{ e with prec:=vals }) (oT (n:=12) dI hk (by kernel_rfl) (by decide)) (λ_=>by kernel_rfl) λ_=>by kernel_rfl
   ·exact lZ h hk dI (λc=>{ c with method:=jG vals fR }) rfl (oU (ws:=fR) dI hk (by kernel_rfl) (by kernel_rfl) (by decide)) (λ_=>by kernel_rfl) (by kernel_rfl)
   ·exact lZ h hk dI (λc=>{ c with seats:=kV vals }) rfl (gR (lo:=1) (hi:=5) dI hk (by kernel_rfl) (by kernel_rfl) (by dsimp only;decide) (by dsimp only;decide) (by kernel_rfl)) (λ_=>by kernel_rfl) (by kernel_rfl)
   ·exact lZ h hk dI (λc=>{ c with ranks:=kV vals }) rfl (gR (lo:=1) (hi:=7) dI hk (by kernel_rfl) (by kernel_rfl) (by dsimp only;decide) (by dsimp only;decide) (by kernel_rfl)) (λ_=>by kernel_rfl) (by kernel_rfl)
   ·exact lZ h hk dI (λc=>{ c with digits:=kV vals }) rfl (gR (lo:=1) (hi:=6) dI hk (by kernel_rfl) (by kernel_rfl) (by dsimp only;decide) (by dsimp only;decide) (by kernel_rfl)) (λ_=>by kernel_rfl) (by kernel_rfl)
   ·exact lZ h hk dI (λc=>{ c with ties:=jG vals kq }) rfl (oU (ws:=kq) dI hk (by kernel_rfl) (by kernel_rfl) (by decide)) (λ_=>by kernel_rfl) (by kernel_rfl)
   ·exact lZ h hk dI (λc=>{ c with over:=jG vals ku }) rfl (oU (ws:=ku) dI hk (by kernel_rfl) (by kernel_rfl) (by decide)) (λ_=>by kernel_rfl) (by kernel_rfl)
   ·exact lZ h hk dI (λc=>{ c with skip:=jG vals kr }) rfl (oU (ws:=kr) dI hk (by kernel_rfl) (by kernel_rfl) (by decide)) (λ_=>by kernel_rfl) (by kernel_rfl)
   ·exact lZ h hk dI (λc=>{ c with cands:=vals }) rfl (oT (n:=7) dI hk (by kernel_rfl) (by decide)) (λ_=>by kernel_rfl) (by kernel_rfl)
   ·exact Lh h hk dI rfl (oT (n:=12) dI hk (by kernel_rfl) (by decide)) (by kernel_rfl) (.inl rfl)
   ·exact Lh h hk dI rfl (oT (n:=4) dI hk (by kernel_rfl) (by decide)) (by kernel_rfl) (.inr rfl)
   ·exact kX h hk dI (λe=>{ e with risk:=(dK (bc vals).data.toList).2 }) (IE dI hk rfl) (λ_=>by kernel_rfl) λ_=>by kernel_rfl
   ·exact kX h hk dI (λe=>{ e with seed:=bc vals }) (ID dI hk rfl) (λ_=>by kernel_rfl) λ_=>by kernel_rfl
   ·exact kX h hk dI (λe=>{ e with cell:=kV vals }) (gR (lo:=1) (hi:=400) dI hk (by kernel_rfl) (by kernel_rfl) (by dsimp only;decide) (by dsimp only;decide) (by kernel_rfl)) (λ_=>by kernel_rfl) λ_=>by kernel_rfl
 ·have dI:Lib.containsS (aJ kind) f.key=false:=by simpa using dI
  have hr:bN kind f v=(2,v):=by
   unfold bN;rw[if_pos dI]
  have NI:cW (aJ kind) f.key=false:=dI;rw[hr];refine⟨?_,λh0=>by cases h0⟩;unfold eA;simp only[hf,NI,acg,if_false,fV];have h2:(iZ 2 f.line).no≠0:=by rw[pz];omega
  rw[qp h2,if_pos h2]
theorem Ac {kind nm:ByteArray} {b:cm}:∀(fs:List ao) {v:aF} {x:dT},mO kind nm b v x-> (da kind fs x).f=(dM kind fs v).1/\((dM kind fs v).1.no=0->mO kind nm b (dM kind fs v).2 (da kind fs x))
 | [],v,x,h=>⟨h.f,λ_=>h⟩
 | f::l,v,x,h=>by
  have hs:=Qs h f;unfold da dM;rw[if_neg (by rw[h.f];simp)];by_cases h0:(bN kind f v).1=0
  ·rw[if_neg (by rw[h0];simp)];exact Ac l (hs.2 h0)
  ·rw[if_pos h0];have hf:(eA kind x f).f=⟨(bN kind f v).1,f.line⟩:=by
    rw[hs.1];unfold iZ;rw[if_neg h0]
   have dV:da kind l (eA kind x f)=eA kind x f:=by
    cases l with
    | nil=>rfl
    | cons g l=>unfold da;rw[if_pos (by rw[hf];exact h0)]
   rw[dV];exact⟨hf,λh1=>absurd h1 h0⟩
end Go.Proofs.YtdbpbfglhbiadaaGreatDoor
