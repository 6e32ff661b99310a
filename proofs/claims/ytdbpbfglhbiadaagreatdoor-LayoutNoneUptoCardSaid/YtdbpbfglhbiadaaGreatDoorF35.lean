/- Tm4 Tm5 Tf1 Tf2 Tm6 Tm7 -/
import Derived.Test.YtdbpbfglhbiadaaGreatDoorF00
import Derived.Test.YtdbpbfglhbiadaaGreatDoorF34
import Derived.Test.YtdbpbfglhbiadaaGreatDoorF21
set_option maxHeartbeats 8000000
set_option maxRecDepth 100000
namespace Go.Proofs.YtdbpbfglhbiadaaGreatDoor
open Go Go.RowKit
abbrev stC:List CS:=[.d .str,.d tI,.d tI,.d tI,.d (.list .str),.own (.st 3) 87,.own (.st 10) 42,.d tI,.d tI,.d .bool,.d (.list .limb),.d (.list .limb),.d tI,.d .str,.own .str 9,.own (.st 7) 189,.own (.st 6) 188,.d tI,.d tI]
abbrev sT:SS:=.box 118 stC
abbrev aM:=dZ stC
def aM.f (x:aM):Int×Int:=(x.2.2.2.2.2.2.2.2.2.2.2.2.2.2.2.2.2.1,x.2.2.2.2.2.2.2.2.2.2.2.2.2.2.2.2.2.2.1)
def aM.err (x:aM):Int:=x.f.1
def aM.setF (x:aM) (p:Int×Int):aM:=(x.1,x.2.1,x.2.2.1,x.2.2.2.1,x.2.2.2.2.1,x.2.2.2.2.2.1,x.2.2.2.2.2.2.1,x.2.2.2.2.2.2.2.1,x.2.2.2.2.2.2.2.2.1,x.2.2.2.2.2.2.2.2.2.1,x.2.2.2.2.2.2.2.2.2.2.1,x.2.2.2.2.2.2.2.2.2.2.2.1,x.2.2.2.2.2.2.2.2.2.2.2.2.1,x.2.2.2.2.2.2.2.2.2.2.2.2.2.1,x.2.2.2.2.2.2.2.2.2.2.2.2.2.2.1,x.2.2.2.2.2.2.2.2.2.2.2.2.2.2.2.1,x.2.2.2.2.2.2.2.2.2.2.2.2.2.2.2.2.1,p.1,p.2,())
def aM.note (x:aM) (no line:Int):aM:=x.setF (nt x.f no line)
theorem sp {x:aM} (line:Int):x.note 0 line=x:=congrArg x.setF (L5 line)
abbrev Hi (r:XV) (x:aM):XV×aM×Unit:=(r,x,())
abbrev sBb:SS:=.box 91 [.d .str,.d .str,.d (.list (.st 0)),.d tI]
abbrev sBk:SS:=.st 1
abbrev jb:=dZ [.d .str,.d .str,.d (.list (.st 0)),.d tI]
def aM.cont (x:aM):List ae:=List.reverse (α:=ae) x.2.2.2.2.2.1
def aM.snm (x:aM):List ByteArray:=List.reverse (α:=ByteArray) x.2.2.2.2.2.2.1
def aM.styl (x:aM):List ai:=x.snm.map λn=>⟨n,[],[]⟩
def aM.seen (x:aM):List ByteArray:=List.reverse (α:=ByteArray) x.2.2.2.2.2.2.2.2.2.2.2.2.2.2.1
def aM.lines (x:aM):List (Int×Int):=List.reverse (α:=Int×Int) x.2.2.2.2.2.2.2.2.2.2.2.2.2.2.2.1
def aM.names (x:aM):List (List ByteArray×List ByteArray):=List.reverse (α:=List ByteArray×List ByteArray) x.2.2.2.2.2.2.2.2.2.2.2.2.2.2.2.2.1
def aM.line (x:aM):Int:=x.f.2
def aM.e (x:aM):aa:=⟨x.1,x.2.1,x.2.2.1,x.2.2.2.1,x.2.2.2.2.1,x.cont,x.styl,x.2.2.2.2.2.2.2.1,x.2.2.2.2.2.2.2.2.1,⟨x.2.2.2.2.2.2.2.2.2.1,x.2.2.2.2.2.2.2.2.2.2.1,x.2.2.2.2.2.2.2.2.2.2.2.1⟩,x.2.2.2.2.2.2.2.2.2.2.2.2.1,x.2.2.2.2.2.2.2.2.2.2.2.2.2.1⟩
def aM.r (x:aM):eh:=⟨x.e,x.seen,x.lines,x.names,⟨x.err,x.line⟩⟩
section
variable {L:Type} (back:Bool->Int->Int->L) (out:Bool->Int->L) (len:Nat) (at':Nat->ByteArray) (c:Bool) (nm:ByteArray)
def hdB (same:Bool) (n i:Int):T L:=.br (decide (i<len)) (.br c (.br same (.nd (bX (n+1)) (.nd (bX (i+1)) (.lf (back true (n+1) (i+1))))) (.nd (0<=i/\i<len) (.nd (bX (n+1)) (.nd (bX (i+1)) (.lf (back ((at' i.toNat).toList==nm.toList) (n+1) (i+1))))))) (.lf (out same n))) (.lf (out same n))
def hdAny:Nat->Nat->Bool
 | 0,_=>false
 | k+1,i=>decide (at' i=nm)||hdAny k (i+1)
def NU (same:Bool) (i:Int):Bool:=same||(c&&hdAny at' nm (len-i.toNat) i.toNat)
def Jr (n:Int):Int:=bif c then len else n
def hdP (n i:Int):Prop:=0<=i/\i<=len/\(c=true->n=i)
theorem GI {same:Bool} {n i:Int} (hl:len<=9223372036854775807) (hp:hdP len c n i):∃q,(hdB back out len at' c nm same n i).hit q/\(q=out (NU len at' c nm same i) (Jr len c n)\/∃s' n',q=back s' n' (i+1)/\i<len/\hdP len c n' (i+1)/\NU len at' c nm s' (i+1)=NU len at' c nm same i/\Jr len c n'=Jr len c n):=by
 obtain⟨h0,h1,h2⟩:=hp;obtain⟨k,rfl⟩:∃k:Nat,i=k:=⟨i.toNat,by omega⟩;by_cases hk:k<len
 ·cases c with
  | true=>
   obtain rfl:=h2 rfl;have e1:((k:Int)+1).toNat=k+1:=by omega
   have e2:len-k=(len-(k+1))+1:=by omega
   cases same with
   | true=>exact⟨_,aH (decide_eq_true (by omega)) (aH rfl (aH rfl ⟨⟨by omega,by omega⟩,⟨by omega,by omega⟩,rfl⟩)),.inr ⟨_,_,rfl,by omega,⟨by omega,by omega,λ_=>rfl⟩,rfl,rfl⟩⟩
   | false=>
    refine⟨_,aH (decide_eq_true (by omega)) (aH rfl (aP rfl ⟨⟨by omega,by omega⟩,⟨by omega,by omega⟩,⟨by omega,by omega⟩,rfl⟩)),.inr ⟨_,_,rfl,by omega,⟨by omega,by omega,λ_=>rfl⟩,?_,rfl⟩⟩;unfold NU;rw[e1,aae,e2,dJ];simp only[hdAny,acW,ada]
  | false=>exact⟨_,aH (decide_eq_true (by omega)) (aP rfl rfl),.inl (by unfold NU Jr;simp)⟩
 ·refine⟨_,aP (decide_eq_false (by omega)) rfl,.inl ?_⟩;unfold NU Jr;rw[aae,show len-k=0 by omega];cases c with
  | true=>obtain rfl:=h2 rfl;simp only[hdAny,Bool.and_false,Bool.or_false];congr 1;show(k:Int)=len;omega
  | false=>simp
end
theorem Bv {α:Type} (f:α->ByteArray) (d:α) (nm:ByteArray):∀(l:List α) (k:Nat),k<=l.length->hdAny (λi=>f (l.getD i d)) nm (l.length-k) k=(l.drop k).any λx=>decide (f x=nm):=by
 intro l k hk;obtain⟨j,hj⟩:∃j,l.length-k=j:=⟨_,rfl⟩;induction j generalizing k with
 | zero=>rw[hj,aaq (by omega)];rfl
 | succ j ih=>
  rw[hj,getD_drop d (by omega),adh,<-ih (k+1) (by omega) (by omega),show l.length-(k+1)=j by omega];rfl
abbrev hdL (s:Nat):List (Nat×SS):=[(0,sT),(3,sBb),(4,sB),(5,sB),(6,sI),(s,sI)]
abbrev hdO:List (Nat×SS):=[(0,sT),(3,sBb),(4,sB),(5,sB),(6,sI)]
def yX (s:Nat) (x:aM) (b:jb) (cL same:Bool) (n i:Int):LE (hdL s) hdO [(0,sT)]:=.back (x,b,cL,same,n,i,())
def rz (s:Nat) (x:aM) (b:jb) (cL same:Bool) (n:Int):LE (hdL s) hdO [(0,sT)]:=.out (x,b,cL,same,n,())
def is (k:ByteArray) (b:jb):Bool:=b.1.toList==k.toList
theorem NP:eD (JG C3 Tryz.f110 [0]) 0 0 (hdL 7) hdO [(0,sT)] λ((x:aM),(b:jb),(cL:Bool),(same:Bool),(n:Int),(i:Int),_)=>
 .nd (hdP x.cont.length (is aj b) n i) (.lf (rz 7 x b cL (NU x.cont.length (λi=>(x.cont.getD i ae.zero).name) (is aj b) b.2.1 same i) (Jr x.cont.length (is aj b) n))):=by
  refine eI _ (nL _ _) 99 0 0 (hdL 7) hdO [(0,sT)] (λ((x:aM),(b:jb),(cL:Bool),(same:Bool),(n:Int),(i:Int),_)=>hdB (yX 7 x b cL) (rz 7 x b cL) (List.length (α:=ae) x.2.2.2.2.2.1) (λi=>(x.cont.getD i ae.zero).name) (is aj b) b.2.1 same n i)
   (λ((x:aM),_,_,_,_,(i:Int),_)=>x.cont.length-i.toNat) ?_
  rintro⟨(x:aM),(b:jb),(cL:Bool),(same:Bool),(n:Int),(i:Int),_⟩ r pZ ⟨hp,hr⟩;have hl2:List.length (α:=ae) x.2.2.2.2.2.1=x.cont.length:=(aak (α:=ae)).symm;have hl:x.cont.length<=9223372036854775807:=hl2▸(pZ.1.2.2.2.2.2.1:List.length (α:=ae) x.2.2.2.2.2.1<=_);obtain⟨q,h1,h2⟩:=GI (yX 7 x b cL) (rz 7 x b cL) x.cont.length (λi=>(x.cont.getD i ae.zero).name) (is aj b) b.2.1 (same:=same) hl hp;refine⟨q,by show T.hit (hdB _ _ (List.length (α:=ae) x.2.2.2.2.2.1) _ _ _ _ _ _) _;rw[hl2];exact h1,?_⟩;rcases h2 with rfl|⟨s',n',rfl,h3,h4,h5,h6⟩
  ·exact hr
  ·refine⟨?_,h4,?_⟩
   ·have:=hp.1;show x.cont.length-(i+1).toNat<x.cont.length-i.toNat;omega
   ·show rz _ _ _ _ _ _=_;rw[h5,h6];exact hr
theorem NO:eD (JG C3 Tryz.f110 [0]) 1 2 (hdL 8) hdO [(0,sT)] λ((x:aM),(b:jb),(cL:Bool),(same:Bool),(n:Int),(i:Int),_)=>
 .nd (hdP x.snm.length (is aA b) n i) (.lf (rz 8 x b cL (NU x.snm.length (λi=>x.snm.getD i ⟨#[]⟩) (is aA b) b.2.1 same i) (Jr x.snm.length (is aA b) n))):=by
  refine eI _ (nL _ _) 99 1 2 (hdL 8) hdO [(0,sT)] (λ((x:aM),(b:jb),(cL:Bool),(same:Bool),(n:Int),(i:Int),_)=>hdB (yX 8 x b cL) (rz 8 x b cL) (List.length (α:=ByteArray) x.2.2.2.2.2.2.1) (λi=>x.snm.getD i ⟨#[]⟩) (is aA b) b.2.1 same n i)
   (λ((x:aM),_,_,_,_,(i:Int),_)=>x.snm.length-i.toNat) ?_
  rintro⟨(x:aM),(b:jb),(cL:Bool),(same:Bool),(n:Int),(i:Int),_⟩ r pZ ⟨hp,hr⟩;have hl2:List.length (α:=ByteArray) x.2.2.2.2.2.2.1=x.snm.length:=(aak (α:=ByteArray)).symm;have hl:x.snm.length<=9223372036854775807:=hl2▸(pZ.1.2.2.2.2.2.2.1:List.length (α:=ByteArray) x.2.2.2.2.2.2.1<=_);obtain⟨q,h1,h2⟩:=GI (yX 8 x b cL) (rz 8 x b cL) x.snm.length (λi=>x.snm.getD i ⟨#[]⟩) (is aA b) b.2.1 (same:=same) hl hp;refine⟨q,by show T.hit (hdB _ _ (List.length (α:=ByteArray) x.2.2.2.2.2.2.1) _ _ _ _ _ _) _;rw[hl2];exact h1,?_⟩;rcases h2 with rfl|⟨s',n',rfl,h3,h4,h5,h6⟩
  ·exact hr
  ·refine⟨?_,h4,?_⟩
   ·have:=hp.1;show x.snm.length-(i+1).toNat<x.snm.length-i.toNat;omega
   ·show rz _ _ _ _ _ _=_;rw[h5,h6];exact hr
abbrev SR:=XV×aM×Unit
def P4 (x:aM) (line c:Int):T SR:=.nd ((0:Int)≠c) (.lf (Hi (.tup []) (x.note c line)))
def XX (x:aM) (b:av) (cL:Bool):T SR:=.br (!cL) (.br (decide (Lib.idxOfS x.seen b.kind>=0)) (P4 x b.line 3) (.lf (Hi (.tup []) x))) (.lf (Hi (.tup []) x))
def Sp (x:aM) (b:av) (cL:Bool):T SR:=.br (!cL) (.br (!(b.name.toList==(⟨#[]⟩:ByteArray).toList)) (P4 x b.line 2) (XX x b cL)) (XX x b cL)
def NS (x:aM) (b:av) (cL:Bool) (n:Int):T SR:=.br (b.kind.toList==aA.toList) (.br (decide (n>=6)) (P4 x b.line 7) (Sp x b cL)) (Sp x b cL)
def XY (x:aM) (b:av) (cL:Bool) (n:Int):T SR:=.br (b.kind.toList==aj.toList) (.br (decide (n>=4)) (P4 x b.line 7) (NS x b cL n)) (NS x b cL n)
def Sq (x:aM) (b:av) (cL same:Bool) (n:Int):T SR:=.br cL (.br same (P4 x b.line 3) (XY x b cL n)) (XY x b cL n)
def XZ (x:aM) (b:av) (cL same:Bool) (n:Int):T SR:=.br cL (.nd (b.name.size<=9223372036854775807) (.br (!gX b.name.data.toList) (P4 x b.line 8) (.br (decide ((b.name.size:Int)>24)) (P4 x b.line 8) (Sq x b cL same n)))) (Sq x b cL same n)
def ac3 (x:aM) (b:av) (cL same:Bool) (n:Int):T SR:=.br cL (.br (b.name.toList==(⟨#[]⟩:ByteArray).toList) (P4 x b.line 6) (XZ x b cL same n)) (XZ x b cL same n)
def X0 (x:aM) (b:av) (cL same:Bool) (n:Int):T SR:=.br (aJ b.kind).isEmpty (P4 x b.line 2) (ac3 x b cL same n)
def NT (x:aM) (b:av):Bool:=NU x.snm.length (λi=>x.snm.getD i ⟨#[]⟩) (b.kind.toList==aA.toList) b.name (NU x.cont.length (λi=>(x.cont.getD i ae.zero).name) (b.kind.toList==aj.toList) b.name false 0) 0
def EA (x:aM) (b:av):Int:=Jr x.snm.length (b.kind.toList==aA.toList) (Jr x.cont.length (b.kind.toList==aj.toList) 0)
def X1 (x:aM) (b:av) (cL:Bool):T SR:=.nd (hdP x.cont.length (b.kind.toList==aj.toList) 0 0) (.nd (hdP x.snm.length (b.kind.toList==aA.toList) (Jr x.cont.length (b.kind.toList==aj.toList) 0) 0) (X0 x b cL (NT x b) (EA x b)))
theorem nZ {α:Type} {F:Int->α} {a b:Bool} {X Y:T α} {P:Prop} [Decidable P] {c d:Int} (hP:P↔a=true/\b=true) (hX:X.hit (F c)) (hY:Y.hit (F d)):(T.br a (.br b X Y) Y).hit (F (if P then c else d)):=by
 by_cases h:P
 ·rw[if_pos h];exact aH (hP.1 h).1 (aH (hP.1 h).2 hX)
 ·rw[if_neg h];cases a with
  | false=>exact aP rfl hY
  | true=>exact aH rfl (aP (by cases b with|false=>rfl|true=>exact absurd (hP.2 ⟨rfl,rfl⟩) h) hY)
theorem aaO {α:Type} {F:Int->α} {a b:Bool} {X Y:T α} {P:Prop} [Decidable P] {c d:Int} (hP:P↔a=true\/b=true) (hX:X.hit (F c)) (hY:Y.hit (F d)):(T.br a X (.br b X Y)).hit (F (if P then c else d)):=by
 by_cases h:P
 ·rw[if_pos h];cases a with
  | true=>exact aH rfl hX
  | false=>exact aP rfl (aH (by cases b with|true=>rfl|false=>rcases hP.1 h with h|h<;>cases h) hX)
 ·rw[if_neg h];cases a with
  | true=>exact absurd (hP.2 (.inl rfl)) h
  | false=>exact aP rfl (aP (by cases b with|false=>rfl|true=>exact absurd (hP.2 (.inr rfl)) h) hY)
theorem Lj {α:Type} {F:Int->α} {a:Bool} {X Y:T α} {P:Prop} [Decidable P] {c d:Int} (hP:P↔a=true) (hX:X.hit (F c)) (hY:Y.hit (F d)):(T.br a X Y).hit (F (if P then c else d)):=by
 by_cases h:P
 ·rw[if_pos h];exact aH (hP.1 h) hX
 ·rw[if_neg h];exact aP (by cases a with|false=>rfl|true=>exact absurd (hP.2 rfl) h) hY
def GJ (x:aM) (line c:Int):SR:=Hi (.tup []) (x.note c line)
theorem jW {x:aM} {line c:Int} (h:(0:Int)≠c):(P4 x line c).hit (GJ x line c):=⟨h,rfl⟩
theorem xZ {x y:ByteArray}:(x.toList==y.toList)=true↔x=y:=by rw[dJ,decide_eq_true_eq]
theorem Sn (x:aM) (b:av) (hs:b.name.size<=9223372036854775807) (cL:Bool) (hm:cL=gT b.kind):(X0 x b cL (NT x b) (EA x b)).hit (GJ x b.line (iX x.r b.kind b.name)):=by
 have eM:b.kind=aj->b.kind≠aA:=λh e=>absurd (h.symm.trans e) (by decide);have hc:(b.kind.toList==aj.toList)=decide (b.kind=aj):=dJ;have eY:(b.kind.toList==aA.toList)=decide (b.kind=aA):=dJ;have hE:cL=true->(NT x b=true↔((b.kind=aj/\(x.cont.any λc=>decide (c.name=b.name))=true)\/(b.kind=aA/\(x.styl.any λc=>decide (c.name=b.name))=true))):=λ_=>by
  unfold NT NU;have dV:(x.styl.any λc=>decide (c.name=b.name))=x.snm.any λn=>decide (n=b.name):=by unfold aM.styl;rw[List.any_map];rfl
  rw[dV,hc,eY,Int.toNat_zero,Bv (λs:ByteArray=>s) ⟨#[]⟩ b.name x.snm 0 (aaS _),Bv (λs:ae=>s.name) ae.zero b.name x.cont 0 (aaS _),acF,acF];simp
 have hN1:b.kind=aj->EA x b=x.cont.length:=λh=>by
  unfold EA Jr;rw[hc,eY,decide_eq_true h,decide_eq_false (eM h)];rfl
 have hN2:b.kind=aA->EA x b=x.styl.length:=λh=>by
  unfold EA Jr aM.styl;rw[eY,decide_eq_true h,abm];rfl
 unfold X0 iX;refine Lj (F:=GJ x b.line) (by rw[List.isEmpty_iff]) (jW (by decide)) ?_;unfold ac3;refine nZ (F:=GJ x b.line) (by rw[hm,xZ]) (jW (by decide)) ?_;have h4:(Sq x b cL (NT x b) (EA x b)).hit (GJ x b.line (if gT b.kind=true/\((b.kind=aj/\(x.r.e.cont.any λc=>decide (c.name=b.name))=true)\/(b.kind=aA/\(x.r.e.styl.any λc=>decide (c.name=b.name))=true)) then 3 else if(b.kind=aj/\4<=x.r.e.cont.length)\/(b.kind=aA/\6<=x.r.e.styl.length) then 7 else if gT b.kind=false/\b.name≠⟨#[]⟩ then 2 else if gT b.kind=false/\cW x.r.seen b.kind=true then 3 else 0)):=by
  unfold Sq;refine nZ (F:=GJ x b.line) ⟨λ⟨h1,h2⟩=>⟨hm.trans h1,(hE (hm.trans h1)).2 h2⟩,λ⟨h1,h2⟩=>⟨hm.symm.trans h1,(hE h1).1 h2⟩⟩ (jW (by decide)) ?_;have h6:(Sp x b cL).hit (GJ x b.line (if gT b.kind=false/\b.name≠⟨#[]⟩ then 2 else if gT b.kind=false/\cW x.r.seen b.kind=true then 3 else 0)):=by
   unfold Sp;refine nZ (F:=GJ x b.line) (by rw[hm,dJ];simp) (jW (by decide)) ?_;unfold XX;refine nZ (F:=GJ x b.line) (by rw[hm];unfold cW;simp;exact λ_=>Iff.rfl) (jW (by decide)) ?_;exact congrArg (Hi _) (sp _).symm
  unfold XY NS;by_cases h1:b.kind=aj
  ·refine aH (by rw[hc];exact decide_eq_true h1) ?_;refine Lj (F:=GJ x b.line) ?_ (jW (by decide)) (aP (by rw[eY];exact decide_eq_false (eM h1)) h6);rw[hN1 h1,decide_eq_true_eq];exact⟨λh=>h.elim (λh=>Int.ofNat_le.2 h.2) λh=>absurd h.1 (eM h1),λh=>.inl ⟨h1,Int.ofNat_le.1 h⟩⟩
  ·refine aP (by rw[hc];exact decide_eq_false h1) ?_;refine nZ (F:=GJ x b.line) ?_ (jW (by decide)) h6;rw[eY,decide_eq_true_eq,decide_eq_true_eq];exact⟨λh=>h.elim (λh=>absurd h.1 h1) λh=>⟨h.1,by rw[hN2 h.1];exact Int.ofNat_le.2 h.2⟩,λh=>.inr ⟨h.1,by have:=h.2;rw[hN2 h.1] at this;exact Int.ofNat_le.1 this⟩⟩
 unfold XZ;cases cL with
 | false=>
  refine aP rfl ?_;rw[if_neg (by rw[<-hm];simp)];exact h4
 | true=>
  refine aH rfl ⟨hs,aaO (F:=GJ x b.line) ?_ (jW (by decide)) h4⟩;rw[<-hm];simp only[true_and,aci,decide_eq_true_eq];exact or_congr Iff.rfl (by show 24<b.name.size↔(24:Int)<(b.name.size:Int);omega)
theorem NQ:fk Tryz.prog 110 [0] [(0,sT),(1,sBk)] [(0,sT)] λ((x:aM),(b:av),_)=>.nd (b.name.size<=9223372036854775807) (.lf (Hi (.tup []) (x.note (iX x.r b.kind b.name) b.line))):=by
 refine jA (C:=C3) (pb:=[0]) (((nL _ _).add 0 _ NP).add 1 _ NO) 99 [(0,sT),(1,sBk)] [(0,sT)] (λ((x:aM),(b:av),_)=>.br (b.kind.toList==aj.toList) (X1 x b true) (X1 x b (b.kind.toList==aA.toList))) ?_ Tryz.func110;rintro⟨(x:aM),(b:av),_⟩ r pZ ⟨hs,hr⟩;obtain rfl:GJ x b.line (iX x.r b.kind b.name)=r:=hr;have h0:∀cL,cL=gT b.kind->(X1 x b cL).hit (GJ x b.line (iX x.r b.kind b.name)):=λcL hm=>by
  refine⟨⟨by omega,by omega,λ_=>rfl⟩,⟨by omega,by omega,λh=>?_⟩,Sn x b hs cL hm⟩;unfold Jr;rw[dJ,decide_eq_false λe=>absurd (e.symm.trans (xZ.1 h)) (by decide)];rfl
 by_cases h:b.kind=aj
 ·exact aH (xZ.2 h) (h0 true (by unfold gT;rw[decide_eq_true h];rfl))
 ·refine aP (by rw[dJ];exact decide_eq_false h) (h0 _ ?_);unfold gT;rw[decide_eq_false h,dJ];rfl
abbrev VU:SS:=.box 87 [.d .str,.d (.list .str),.d tI,.d tI,.d tI,.d tI,.d tI,.d tI,.d tI]
abbrev abq:List Nat:=[0,1,2,3,4,5,6,7,8,9,10,11,12,13,14,15,16,17,18]
abbrev mT:=dZ [.d .str,.d (.list .str),.d tI,.d tI,.d tI,.d tI,.d tI,.d tI,.d tI]
def Kp (c:ae):mT:=(c.name,c.cands,c.method,c.seats,c.ranks,c.digits,c.ties,c.over,c.skip,())
def Kq (c:mT):ae:=⟨c.1,c.2.1,c.2.2.1,c.2.2.2.1,c.2.2.2.2.1,c.2.2.2.2.2.1,c.2.2.2.2.2.2.1,c.2.2.2.2.2.2.2.1,c.2.2.2.2.2.2.2.2.1⟩
noncomputable def C4:gb Tryz.prog:=ci rQ [⟨_,_,_,find_ok⟩,⟨_,_,_,mf⟩,⟨_,_,_,oM⟩,⟨_,_,_,yD⟩,⟨_,_,_,mX⟩,⟨_,_,_,o8⟩] [⟨_,_,_,_,_,jy⟩,⟨_,_,_,_,_,qg⟩,⟨_,_,_,_,_,M8⟩,⟨_,_,_,_,_,Tj⟩,⟨_,_,_,_,_,An⟩,⟨_,_,_,_,_,ud⟩]
def fOk (f:ao):Prop:=Dr f.vals/\f.vals.length<=1099511627776
theorem zZ {l:List ByteArray} (h:Dr l):(bc l).size<=9223372036854775807:=by
 unfold bc;split
 ·exact aaS _
 ·match l with
  | []=>exact aaS _
  | x::_=>exact h x aah
theorem i7 {α β:Type} {F:α->β} {b:Bool} {X Y:T β} {P:Prop} [Decidable P] {c d:α} (hP:P↔b=true) (hX:X.hit (F c)) (hY:Y.hit (F d)):(T.br b X Y).hit (F (if P then c else d)):=by
 by_cases h:P
 ·rw[if_pos h];exact aH (hP.1 h) hX
 ·rw[if_neg h];exact aP (by cases b with|false=>rfl|true=>exact absurd (hP.2 rfl) h) hY
abbrev CR3:=XV×fZ×mT×Unit
def GX (x:fZ) (line:Int) (v:ae×Int):CR3:=(.tup [],x.note v.2 line,Kp v.1,())
def ctI (x:fZ) (f:ao) (v:ae×Int):T CR3:=.nd ((bc f.vals).size<=9223372036854775807) (.lf (GX x f.line v))
def ctW (x:fZ) (f:ao) (w:List ByteArray) (v:ae×Int):T CR3:=.nd (w.length<=99) (.lf (GX x f.line v))
def OI (x:fZ) (c:ae) (f:ao):T CR3:=
 .br (f.key.toList==be.toList) (ctW x f fR ({ c with method:=jG f.vals fR },oD f.vals fR))
 (.br (f.key.toList==bz.toList) (ctI x f ({ c with seats:=kV f.vals },pX f.vals 1 5))
 (.br (f.key.toList==gg.toList) (ctI x f ({ c with ranks:=kV f.vals },pX f.vals 1 7))
 (.br (f.key.toList==aC.toList) (ctI x f ({ c with digits:=kV f.vals },pX f.vals 1 6))
 (.br (f.key.toList==gV.toList) (ctW x f kq ({ c with ties:=jG f.vals kq },oD f.vals kq))
 (.br (f.key.toList==bV.toList) (ctW x f ku ({ c with over:=jG f.vals ku },oD f.vals ku))
 (.br (f.key.toList==gW.toList) (ctW x f kr ({ c with skip:=jG f.vals kr },oD f.vals kr))
 (.nd (Dr f.vals/\(0:Int)<=7/\f.vals.length<=1099511627776) (.lf (GX x f.line ({ c with cands:=f.vals },dc f.vals 7))))))))))
theorem OH:fk Tryz.prog 112 abq [(0,sN),(1,VU),(2,sF)] [(0,sN),(1,VU)] λ((x:fZ),(c:mT),(f:ao),_)=>.nd (fOk f) (.lf (GX x f.line (j0 (Kq c) f))):=by
 refine jA (C:=C4) (pb:=abq) (nL _ _) 99 [(0,sN),(1,VU),(2,sF)] [(0,sN),(1,VU)] (λ((x:fZ),(c:mT),(f:ao),_)=>OI x (Kq c) f) ?_ Tryz.func112;rintro⟨(x:fZ),(c:mT),(f:ao),_⟩ r _ ⟨⟨h1,h2⟩,hr⟩;obtain rfl:GX x f.line (j0 (Kq c) f)=r:=hr;have hi:∀v,(ctI x f v).hit (GX x f.line v):=λv=>⟨zZ h1,rfl⟩;have hw:∀w v,w.length<=99->(ctW x f w v).hit (GX x f.line v):=λw v h=>⟨h,rfl⟩;show(OI x (Kq c) f).hit _;unfold OI j0;exact i7 (F:=GX x f.line) xZ.symm (hw _ _ (by decide)) (i7 (F:=GX x f.line) xZ.symm (hi _) (i7 (F:=GX x f.line) xZ.symm (hi _) (i7 (F:=GX x f.line) xZ.symm (hi _) (i7 (F:=GX x f.line) xZ.symm (hw _ _ (by decide)) (i7 (F:=GX x f.line) xZ.symm (hw _ _ (by decide)) (i7 (F:=GX x f.line) xZ.symm (hw _ _ (by decide)) ⟨⟨h1,by decide,h2⟩,rfl⟩))))))
theorem iP.fr {α:Type} [ay α] {w:World} {e:TypeId} {xs:List α} {en:Ending} {w':World} (h:iP w e xs en w'):∃A n c,en=.returned (.slice A n c)/\n=xs.length/\RS w' (bZ w w') A n c xs/\Below w.heap.size w w':=by
 obtain⟨v,rfl,ho,hb⟩:=h;obtain⟨A,n,c,rfl,hn⟩:=ho.slice;exact⟨A,n,c,rfl,hn,ho.fresh (aam _),hb⟩
theorem KH (m:Nat) (hm:m<18446744073709551616) (w:World):Calls Tryz.prog 237 #[.int .u64 m] w (iP w 4 (bits m)):=by
 have hv:=L4 m hm;obtain⟨x,hx⟩:∃x,BitVec.ofNat 32 m=x:=⟨_,rfl⟩;obtain⟨y,hy⟩:∃y,BitVec.ofNat 32 (m/4294967296)=y:=⟨_,rfl⟩;have h1:IntKind.u32.wrap (m:Int)=(x.toNat:Int):=by rw[<-hx,IntKind.wrap_u32,BitVec.toNat_ofNat];omega
 have h2:IntKind.u32.wrap ((m:Int)/4294967296)=(y.toNat:Int):=by rw[<-hy,IntKind.wrap_u32,BitVec.toNat_ofNat];omega
 rw[hx,hy] at hv;have HV:=zH hv;clear hv hx hy;go_enter Tryz.func237,Tryz.ntmps237;go_wp2_with fail;have hb:Below w.heap.size w (w.alloc (.cells #[.int .u32 (x.toNat:Int),.int .u32 (y.toNat:Int)] 172)):=(Below.refl _ _).alloc (aam _) _;have hr:RS (w.alloc (.cells #[.int .u32 (x.toNat:Int),.int .u32 (y.toNat:Int)] 172)) (λb=>b<(w.alloc (.cells #[.int .u32 (x.toNat:Int),.int .u32 (y.toNat:Int)] 172)).heap.size) (some ⟨w.heap.size,0,none⟩) 2 2 [x,y]:=
  RS.of_blk (t:=172) (cs:=#[.int .u32 (x.toNat:Int),.int .u32 (y.toNat:Int)]) (cO.new _ _ _) (Flat.limbs [x,y]) rfl (aam _) (by decide) (by simp)
 refine(BD hr (λ_ h=>h) (by omega)).mono ?_;rintro e w2 ⟨v,rfl,ho,bH⟩;rw[HV.out] at ho;have HO:=zH (ho.base_le (aao hb.size (aam _)));have HB:=zH (ak hb bH);clear ho hb bH hr h1 h2;go_wp2_with fail;go_ret
 exact⟨_,rfl,HO.out,HB.out⟩
abbrev sBs:SS:=sD (.list .bool)
abbrev Ans (w:World) (S:Nat->Prop) (x:XV) (e:Ending) (w':World):Prop:=∃v S',e=.returned v/\Below w.heap.size w w'/\(∀b,S' b->(false=true/\S b)\/(w.heap.size<=b/\b<w'.heap.size))/\XR [] w' S' x v
section
variable {w w':World} {S:Nat->Prop} {ty:TypeId} {e:Ending} {P:Program} {f:FuncId}
theorem J8 {t:Ty} {xs:List (El t)} (h:iP w ty xs e w'):Ans w S (.one (.list t xs false)) e w':=by
 obtain⟨A,q,c,rfl,_,h1,h2⟩:=h.fr;exact⟨_,bZ w w',rfl,h2,λb q=>.inr q,A,q,c,rfl,h1,λe=>by cases e⟩
theorem ajQ {v:Value} (hv:v.oneCell'=true) (h:ga w v e w'):Ans w S (.one (.sym v)) e w':=⟨_,λ_=>False,h.1,h.2▸Below.refl _ _,λ_ q=>q.elim,rfl,hv⟩
abbrev L1 (t:Ty) (p:List (El t)->Prop) (F:List (El t)->XV):List XV->T XV:=aD [(0,sD (.list t))] λ((xs:List (El t)),_)=>.nd (p xs) (.lf (F xs))
abbrev L2 (t:Ty) (p:List (El t)->List (El t)->Prop) (F:List (El t)->List (El t)->XV):List XV->T XV:=aD [(0,sD (.list t)),(1,sD (.list t))] λ((xs:List (El t)),(ys:List (El t)),_)=>.nd (p xs ys) (.lf (F xs ys))
theorem Y5 {t:Ty} {p:List (El t)->Prop} {F:List (El t)->XV} (h:∀(S:Nat->Prop) (A:Option Addr) (c:Nat) (xs:List (El t)) (w:World),p xs->RS w S A xs.length c xs->(∀b,S b->b<w.heap.size)->Calls P f #[.slice A xs.length c] w (Ans w S (F xs))):au P f false (L1 t p F):=
 fK λw S x vs r hS he hl hr=>by
  obtain⟨(xs:List (El t)),_⟩:=x;obtain⟨v,h1,A,q,c,h2,h3,_⟩:=he 0 (.one (.list t xs false)) aah;obtain⟨hp,rfl⟩:=hr
  match vs,hl,h1 with
  | [v'],_,h1=>
   injection h1 with h1
   obtain rfl:=h3.len;subst h1 h2;exact h S A c xs w hp h3 hS
theorem Tm {t:Ty} {p:List (El t)->List (El t)->Prop} {F:List (El t)->List (El t)->XV} (h:∀(S:Nat->Prop) (A:Option Addr) (c:Nat) (A2:Option Addr) (c2:Nat) (xs ys:List (El t)) (w:World),p xs ys->RS w S A xs.length c xs->RS w S A2 ys.length c2 ys->(∀b,S b->b<w.heap.size)->Calls P f #[.slice A xs.length c,.slice A2 ys.length c2] w (Ans w S (F xs ys))):au P f false (L2 t p F):=
 fK λw S x vs r hS he hl hr=>by
  obtain⟨(xs:List (El t)),(ys:List (El t)),_⟩:=x;obtain⟨v,h1,A,q,c,h2,h3,_⟩:=he 0 (.one (.list t xs false)) aah;obtain⟨v',ib,A',q',c',zP,Jt,_⟩:=he 1 (.one (.list t ys false)) (aap _ aah);obtain⟨hp,rfl⟩:=hr
  match vs,hl,h1,ib with
  | [u,u'],_,h1,ib=>
   injection h1 with h1
   injection ib with ib
   obtain rfl:=h3.len;obtain rfl:=Jt.len;subst h1 ib h2 zP;exact h S A c A' c' xs ys w hp h3 Jt hS
end
abbrev aL (t:Ty) (xs:List (El t)):XV:=.one (.list t xs false)
abbrev aBs (n:Nat):XV:=aL .bool (bits n)
def nB (k:Nat) (x:List Bool):Prop:=bits (ar x)=x/\ar x<k
theorem F4 {k n:Nat} (h:n<k):nB k (bits n):=⟨by rw[bh],by rw[bh];exact h⟩
theorem nB.len {x:List Bool} (h:nB (2^200) x):x.length<=200:=by rw[<-h.1];exact hZ h.2 (aam _)
theorem qi:au Tryz.prog 128 false (aD [(0,sI)] λ((n:Int),_)=>.nd (0<=n/\n<9223372036854775808) (.lf (.one (.list .bool (bits n.toNat) false)))):=
 fK λw S x vs r hS he hl hr=>by
  obtain⟨(n:Int),_⟩:=x;obtain⟨v,h1,h2,_⟩:=he 0 (aI n) aah;obtain⟨⟨hn,hn2⟩,rfl⟩:=hr
  match vs,hl,h1 with
  | [u],_,h1=>
   injection h1 with h1
   subst h1 h2;obtain⟨m,rfl⟩:∃m:Nat,n=m:=⟨n.toNat,by omega⟩;exact Calls.mono (Aj m (by omega) w) λ_ _ h=>J8 (t:=.bool) h
abbrev sU:SS:=sD (.int .u64)
theorem KD:au Tryz.prog 237 false (aD [(0,sU)] λ((n:Int),_)=>.nd (0<=n/\n<18446744073709551616) (.lf (aBs n.toNat))):=
 fK λw S x vs r hS he hl hr=>by
  obtain⟨(n:Int),_⟩:=x;obtain⟨v,h1,h2,_⟩:=he 0 (.one (.sym (.int .u64 n))) aah;obtain⟨⟨hn,hn2⟩,rfl⟩:=hr
  match vs,hl,h1 with
  | [u],_,h1=>
   injection h1 with h1
   subst h1 h2;obtain⟨m,rfl⟩:∃m:Nat,n=m:=⟨n.toNat,by omega⟩;exact Calls.mono (KH m (by omega) w) λ_ _ h=>J8 (t:=.bool) h
theorem uQ:au Tryz.prog 127 false (L1 .bool (λ(x:List Bool)=>nB (2^200) x) λ(x:List Bool)=>aS ⟨(bj (ar x)).toArray⟩):=
 Y5 λS A c (x:List Bool) w hp h hS=>Calls.mono (JN (X:=ar x) (by rw[hp.1];exact h) hS 200 (by decide) hp.2) λe w' h=>⟨_,λ_=>False,h.1,h.2,λ_ q=>q.elim,rfl,rfl⟩
theorem SB:au Tryz.prog 176 false (L2 .bool (λ(x y:List Bool)=>nB (2^200) x/\nB (2^200) y) λ(x y:List Bool)=>aBs (Nat.gcd (ar x) (ar y))):=
 Tm λS A c A2 c2 (x y:List Bool) w hp h1 h2 hS=>Calls.mono (SC (X:=ar x) (Y:=ar y) (by rw[hp.1.1];exact h1) (by rw[hp.2.1];exact h2) hS hS 200 (by decide) hp.1.2 hp.2.2) λ_ _ h=>J8 (t:=.bool) h
theorem Q9:au Tryz.prog 236 false (L2 .bool (λ(x y:List Bool)=>x.length<=200/\y.length<=200) λ(x y:List Bool)=>aBs (ar x*ar y)):=
 Tm λS A c A2 c2 (x y:List Bool) w (hp:x.length<=200/\y.length<=200) h1 h2 hS=>Calls.mono (Ra (xs:=x) (ys:=y) h1 h2 hS hS (aao hp.1 (by decide)) (aao hp.2 (by decide))) λ_ _ h=>J8 (t:=.bool) h
def ajT (q r:Nat):XV:=.tup [(false,[.list .bool (bits q) false]),(false,[.list .bool (bits r) false])]
theorem O3:au Tryz.prog 174 false (L2 .bool (λ(x y:List Bool)=>x.length<=200/\y.length<=200/\0<ar y) λ(x y:List Bool)=>ajT (ar x/ar y) (ar x%ar y)):=
 Tm λS A c A2 c2 (x y:List Bool) w (hp:x.length<=200/\y.length<=200/\0<ar y) h1 h2 hS=>Calls.mono (zl (xs:=x) (ys:=y) h1 h2 hS hS (aao hp.1 (by decide)) (aao hp.2.1 (by decide)) hp.2.2) λe w' ⟨v1,v2,e0,o1,o2,hb⟩=>by
  obtain⟨A1,m1,c1,rfl,_⟩:=o1.slice;obtain⟨A2,m2,c2,rfl,_⟩:=o2.slice;exact⟨_,bZ w w',e0,hb,λb q=>.inr q,[_,_],rfl,.cons ⟨_,rfl,_,_,_,rfl,o1.fresh (aam _),λe=>by cases e⟩ (.cons ⟨_,rfl,_,_,_,rfl,o2.fresh (aam _),λe=>by cases e⟩ .nil)⟩
theorem O9:au Tryz.prog 129 false (L2 .bool (λ_ _=>True) λ(x y:List Bool)=>aI (jD (ar x) (ar y))):=
 Tm λ_ _ _ _ _ (x y:List Bool) _ _ h1 h2 _=>Calls.mono (G0 (xs:=x) (ys:=y) h1 h2) λ_ _=>ajQ rfl
theorem J6:au Tryz.prog 131 false (L1 .limb (λ(x:List (BitVec 32))=>x.length<=1000000) λ(x:List (BitVec 32))=>aBs (val x)):=
 Y5 λ_ _ _ (x:List (BitVec 32)) _ hp h hS=>Calls.mono (BD (xs:=x) h hS hp) λ_ _ h=>J8 (t:=.bool) h
theorem Tn:au Tryz.prog 235 false (L1 .bool (λ(x:List Bool)=>x.length<=1000000/\ar x<4294967296) λ(x:List Bool)=>aL .limb (cF (ar x))):=
 Y5 λ_ _ _ (x:List Bool) _ (hp:x.length<=1000000/\ar x<4294967296) h _=>Calls.mono (Vz (xs:=x) h hp.1 hp.2) λ_ _ h=>J8 (t:=.limb) h
abbrev kT:=Bool×List Bool×List Bool
def QT (q:Q):kT:=(q.neg,bits q.n,bits q.d)
def tf (x:kT):Q:=⟨x.1,ar x.2.1,ar x.2.2⟩
theorem qh (q:Q):tf (QT q)=q:=by unfold tf QT;simp only[bh]
abbrev sQ:SS:=.st 9
def aQ (q:Q):XV:=.agg (jV (.st 9) (QT q))
def aR (r:Raw):XV:=.agg (jV (.st 8) r)
noncomputable def Cf1:gb Tryz.prog:=ci rQ [⟨_,_,_,qi⟩,⟨_,_,_,SB⟩,⟨_,_,_,O3⟩] []
def abz:T XV:=.nd ((0:Int)<=1/\(1:Int)<9223372036854775808) (.lf (.agg [.sym (.bool false),.val (.slice none 0 0),.list .bool (bits (Int.toNat 1)) false]))
def agD (g:Bool) (x y d:List Bool):T XV:=.nd (x.length<=200/\d.length<=200/\0<ar d) (.nd (y.length<=200/\d.length<=200/\0<ar d) (.lf (.agg [.sym (.bool g),.list .bool (bits (ar x/ar d)) false,.list .bool (bits (ar y/ar d)) false])))
def Wr (g:Bool) (x y:List Bool):T XV:=.br ((x.length:Int)==0) abz (.br ((y.length:Int)==0) abz (.nd (nB (2^200) x/\nB (2^200) y) (agD g x y (bits (Nat.gcd (ar x) (ar y))))))
theorem afS {w:World} {S:Nat->Prop} {v:Value} {a b:AV} (h:XR [] w S (.agg [a,.val (.slice none 0 0),b]) v):XR [] w S (.agg [a,.list .bool [] false,b]) v:=by
 obtain⟨vs,rfl,h⟩:=h;cases h with
 | cons h1 h=>
  cases h with
  | cons h2 h=>exact⟨_,rfl,.cons h1 (.cons ⟨none,0,0,h2.1,RS.nil _ _,λe=>by cases e⟩ h)⟩
theorem nB.zero {k:Nat} {x:List Bool} (h:nB k x):((x.length:Int)==0)=decide (ar x=0):=by
 by_cases h0:ar x=0
 ·have:=h.1;rw[h0,dD] at this;subst this;rfl
 ·rw[decide_eq_false h0,beq_eq_false_iff_ne];intro e;obtain rfl:=aaw (Int.natCast_inj.1 e);exact h0 rfl
theorem Ma:au Tryz.prog 130 true (aD [(0,sB),(1,sBs),(2,sBs)] λ((g:Bool),(x:List Bool),(y:List Bool),_)=>.nd (nB (2^200) x/\nB (2^200) y) (.lf (aQ (dE g (ar x) (ar y))))):=
 (bg (C:=Cf1) (nL _ _) true 99 [(0,sB),(1,sBs),(2,sBs)] (λ((g:Bool),(x:List Bool),(y:List Bool),_)=>Wr g x y) (λ_ _ _ h=>⟨h,.inl rfl⟩) Tryz.func130).imp λ⟨(g:Bool),(x:List Bool),(y:List Bool),_⟩ r ⟨⟨hx,hy⟩,h⟩=>by
  obtain rfl:aQ (dE g (ar x) (ar y))=r:=h;show∃q,(Wr g x y).hit q/\_;unfold Wr;rw[hx.zero,hy.zero];by_cases h0:ar x=0\/ar y=0
  ·have e:aQ (dE g (ar x) (ar y))=.agg [.sym (.bool false),.list .bool [] false,.list .bool (bits (Int.toNat 1)) false]:=by
    unfold dE;rw[if_pos h0];unfold aQ QT;rw[dD];rfl
   rw[e];refine⟨_,?_,λw S v h=>afS h⟩;rcases h0 with h0|h0
   ·exact aH (decide_eq_true h0) ⟨by decide,rfl⟩
   ·by_cases h1:ar x=0
    ·exact aH (decide_eq_true h1) ⟨by decide,rfl⟩
    ·exact aP (decide_eq_false h1) (aH (decide_eq_true h0) ⟨by decide,rfl⟩)
  ·have h1:ar x≠0:=λe=>h0 (.inl e);have h2:ar y≠0:=λe=>h0 (.inr e);have hg:0<Nat.gcd (ar x) (ar y):=Nat.gcd_pos_of_pos_left _ (by omega);have hl:(bits (Nat.gcd (ar x) (ar y))).length<=200:=hZ (Nat.lt_of_le_of_lt (Nat.gcd_le_left _ (by omega)) hx.2) (aam _);refine⟨_,aP (decide_eq_false h1) (aP (decide_eq_false h2) ⟨⟨hx,hy⟩,⟨hx.len,hl,by rw[bh];exact hg⟩,⟨hy.len,hl,by rw[bh];exact hg⟩,rfl⟩),λw S v h=>?_⟩;rw[bh] at h;unfold dE;rw[if_neg h0];exact h
theorem rG {d:Nat}:bj d=[49]↔d=1:=by
 constructor
 ·intro h;unfold bj at h;split at h
  ·cases h
  ·rename_i h0;have h1:=congrArg List.reverse h;rw[aag,fE,dif_neg h0] at h1;injection h1 with h2 h3
   have h4:d/10=0:=by
    by_cases h:d/10=0
    ·exact h
    ·rw[fE,dif_neg h] at h3;cases h3
   have h5:=congrArg UInt8.toNat h2;unfold CX at h5;simp at h5;omega
 ·intro h;subst h;show(if(1:Nat)=0 then[48] else(fE 1).reverse)=[49];rw[if_neg (by omega),fE,dif_neg (by omega),show 1/10=0 from rfl,fX];rfl
theorem nT {X L:Nat} (h:X<2^L):(bj X).length<=L+2:=by
 unfold bj;split
 ·simp
 ·rw[aak];have:=uP h;omega
def D1 (n:Nat) (x:kT):Prop:=QT (tf x)=x/\(tf x).n<n/\(tf x).d<n
theorem D1.n {k m:Nat} {x:kT} (h:D1 k x) (hk:k<=m):nB m x.2.1:=⟨congrArg (λx=>x.2.1) h.1,aay h.2.1 hk⟩
theorem D1.d {k m:Nat} {x:kT} (h:D1 k x) (hk:k<=m):nB m x.2.2:=⟨congrArg (λx=>x.2.2) h.1,aay h.2.2 hk⟩
noncomputable def Cf2:gb Tryz.prog:=ci rQ [⟨_,_,_,qi⟩,⟨_,_,_,Ma⟩,⟨_,_,_,Q9⟩,⟨_,_,_,J6⟩,⟨_,_,_,Tn⟩,⟨_,_,_,KD⟩,⟨_,_,_,uQ⟩,⟨_,_,_,O9⟩] []
def QY (g:Bool) (x y:Nat):T XV:=.nd (nB (2^200) (bits x)/\nB (2^200) (bits y)) (.lf (aQ (dE g (ar (bits x)) (ar (bits y)))))
theorem tU {g:Bool} {x y:Nat} (hx:x<2^200) (hy:y<2^200):(QY g x y).hit (aQ (dE g x y)):=⟨⟨F4 hx,F4 hy⟩,by rw[bh,bh];rfl⟩
theorem Fu {l:List (BitVec 32)} (h:l.length<=6):val l<2^200:=by
 have h1:=dL l;have h2:4294967296^l.length<=4294967296^6:=ac0 (by omega) h;exact aay h1 (aao h2 (by decide))
theorem Of:au Tryz.prog 90 true (aD [(0,.st 8)] λ((x:Raw),_)=>.nd (x.short 6) (.lf (aQ x.q))):=
 bg (C:=Cf2) (nL _ _) true 99 [(0,.st 8)] (λ((x:Raw),_)=>.nd (x.num.length<=1000000) (.nd (x.den.length<=1000000) (QY x.neg (val x.num) (val x.den)))) (λ⟨(x:Raw),_⟩ r _ ⟨hs,h⟩=>by
  obtain rfl:aQ x.q=r:=h;exact⟨⟨aao hs.1 (by decide),aao hs.2 (by decide),tU (Fu hs.1) (Fu hs.2)⟩,.inl rfl⟩) Tryz.func90
def toB (x:kT):T XV:=.nd (x.2.1.length<=1000000/\ar x.2.1<4294967296) (.nd (x.2.2.length<=1000000/\ar x.2.2<4294967296) (.lf (aR (tf x).raw)))
theorem Vy:au Tryz.prog 202 true (aD [(0,sQ)] λ((x:kT),_)=>.nd (D1 4294967296 x) (.lf (aR (tf x).raw))):=
 bg (C:=Cf2) (nL _ _) true 99 [(0,sQ)] (λ((x:kT),_)=>toB x) (λ⟨(x:kT),_⟩ r _ ⟨hs,h⟩=>by
  obtain rfl:aR (tf x).raw=r:=h;exact⟨⟨⟨aao (hs.n (m:=2^200) (by decide)).len (by decide),hs.2.1⟩,⟨aao (hs.d (m:=2^200) (by decide)).len (by decide),hs.2.2⟩,rfl⟩,.inl rfl⟩) Tryz.func202
def ofY (g:Bool) (u:Int):T XV:=.nd (0<=u/\u<18446744073709551616) (.nd ((0:Int)<=1/\(1:Int)<9223372036854775808) (QY g u.toNat (Int.toNat 1)))
theorem Wo:au Tryz.prog 204 true (aD [(0,sI)] λ((n:Int),_)=>.nd (0<=n/\n<9223372036854775808) (.lf (aQ (dE false n.toNat 1)))):=
 bg (C:=Cf2) (nL _ _) true 99 [(0,sI)] (λ((n:Int),_)=>.br (decide (n<0)) (.nd (bX (n+1)) (ofY true (IntKind.u64.wrap (IntKind.u64.wrap (IntKind.i64.wrap (0-(n+1)))+1)))) (ofY false (IntKind.u64.wrap n))) (λ⟨(n:Int),_⟩ r _ ⟨hs,h⟩=>by
  obtain rfl:aQ (dE false n.toNat 1)=r:=h;refine⟨aP (decide_eq_false (by omega)) ?_,.inl rfl⟩;have e:IntKind.u64.wrap n=n:=by rw[IntKind.wrap_u64];omega
  rw[e];exact⟨⟨hs.1,by omega⟩,by decide,tU (aay (show n.toNat<9223372036854775808 by omega) (by decide)) (by decide)⟩) Tryz.func204
def JK (x y:Q):Q:=dE (x.neg !=y.neg) (x.n*y.d) (x.d*y.n)
def dvB (x y:kT):T XV:=.nd (x.2.1.length<=200/\y.2.2.length<=200) (.nd (x.2.2.length<=200/\y.2.1.length<=200) (QY (x.1 !=y.1) (ar x.2.1*ar y.2.2) (ar x.2.2*ar y.2.1)))
theorem F5 {x y:Nat} (hx:x<2^100) (hy:y<2^100):x*y<2^200:=Nat.lt_of_lt_of_eq (Nat.mul_lt_mul'' hx hy) (by rw[<-Nat.pow_add])
theorem S4:au Tryz.prog 203 true (aD [(0,sQ),(1,sQ)] λ((x:kT),(y:kT),_)=>.nd (D1 (2^100) x/\D1 (2^100) y) (.lf (aQ (JK (tf x) (tf y))))):=
 bg (C:=Cf2) (nL _ _) true 99 [(0,sQ),(1,sQ)] (λ((x:kT),(y:kT),_)=>dvB x y) (λ⟨(x:kT),(y:kT),_⟩ r _ ⟨⟨hx,hy⟩,h⟩=>by
  obtain rfl:aQ (JK (tf x) (tf y))=r:=h;have l:2^100<=2^200:=ac0 (by omega) (by omega);exact⟨⟨⟨(hx.n l).len,(hy.d l).len⟩,⟨(hx.d l).len,(hy.n l).len⟩,tU (F5 hx.2.1 hy.2.2) (F5 hx.2.2 hy.2.1)⟩,.inl rfl⟩) Tryz.func203
def U6 (n:Nat):ByteArray:=⟨(bj n).toArray⟩
def txE (s:ByteArray) (y:List Bool):T XV:=.nd ((0:Int)<=1/\(1:Int)<9223372036854775808) (.nd True (.br (!(jD (ar y) (ar (bits (Int.toNat 1)))==0)) (.nd (nB (2^200) y) (.nd ((⟨#[47]⟩:ByteArray).size+(U6 (ar y)).size<=9223372036854775807) (.nd (s.size+((⟨#[47]⟩:ByteArray)++U6 (ar y)).size<=9223372036854775807) (.lf (aS (s++(⟨#[47]⟩++U6 (ar y)))))))) (.lf (aS s))))
def txT (x:kT):T XV:=.nd (nB (2^200) x.2.1) (.br x.1 (.nd ((⟨#[45]⟩:ByteArray).size+(U6 (ar x.2.1)).size<=9223372036854775807) (txE (⟨#[45]⟩++U6 (ar x.2.1)) x.2.2)) (txE (U6 (ar x.2.1)) x.2.2))
theorem BS {n:Nat} (h:n<2^200):(U6 n).size<=202:=by
 show(bj n).toArray.size<=202;rw[aa5];exact nT h
theorem Fw {s:List UInt8} {y:List Bool} (hy:nB (2^200) y) (hs:s.length<=1000):(txE ⟨s.toArray⟩ y).hit (aS ⟨(s++(if bj (ar y)=[49] then[] else 47::bj (ar y))).toArray⟩):=by
 have hl:=BS hy.2;refine⟨by decide,trivial,?_⟩;rw[bh];by_cases h:ar y=1
 ·rw[if_pos (rG.2 h),ack];exact aP (by rw[h];rfl) rfl
 ·rw[if_neg λe=>h (rG.1 e)];refine aH ?_ ⟨hy,?_,?_,?_⟩
  ·unfold jD;rw[show Int.toNat 1=1 from rfl];rcases Nat.lt_or_ge (ar y) 1 with g|g
   ·rw[if_pos g];rfl
   ·rw[if_neg (by omega),if_neg h];rfl
  ·show 1+_<=_;omega
  ·rw[ByteArray.size_append];show s.toArray.size+(1+_)<=_;rw[aa5];omega
  ·exact congrArg aS ((congrArg (λt=>_++t) (fo [47] _)).trans (fo _ _))
theorem K1:au Tryz.prog 89 false (aD [(0,sQ)] λ((x:kT),_)=>.nd (D1 (2^200) x) (.lf (aS ⟨(gD (tf x)).toArray⟩))):=
 bg (C:=Cf2) (nL _ _) false 99 [(0,sQ)] (λ((x:kT),_)=>txT x) (λ⟨⟨(g:Bool),(x:List Bool),(y:List Bool)⟩,_⟩ r _ ⟨hs,h⟩=>by
  obtain rfl:aS ⟨(gD (tf (g,x,y))).toArray⟩=r:=h;have hx:nB (2^200) x:=hs.n (aam _);have hl:=nT hx.2;refine⟨⟨hx,?_⟩,.inr rfl⟩;unfold gD;cases g with
  | true=>
   refine aH rfl ⟨?_,?_⟩
   ·have:=BS hx.2;show 1+(U6 (ar x)).size<=_;omega
   ·have:=Fw (s:=[45]++bj (ar x)) (hs.d (aam _)) (by simp only[aaj,aaA];omega);rw[<-fo] at this;exact this
  | false=>exact aP rfl (Fw (s:=bj (ar x)) (hs.d (aam _)) (by omega))) Tryz.func89
theorem EM (c:UInt8):digitB c=true↔48<=c.toNat/\c.toNat<=57:=by unfold digitB;simp
theorem tQ:∀(l:List UInt8) (n:Int),(∀x∈l,digitB x=true)->0<=n->0<=l.foldl cK n/\l.foldl cK n<=(n+1)*10^l.length-1
 | [],n,_,hn=>⟨hn,by simp⟩
 | x::l,n,h,hn=>by
  have hx:=(EM x).1 (h x (by simp));have h1:0<=cK n x/\cK n x<=10*n+9:=by unfold cK;omega
  have ih:=tQ l (cK n x) (λy hy=>h y (by simp[hy])) h1.1;rw[adT,aar];refine⟨ih.1,Int.le_trans ih.2 ?_⟩;obtain⟨P,hP⟩:∃P:Int,(10:Int)^l.length=P:=⟨_,rfl⟩;have hP0:0<=P:=by rw[<-hP];exact Int.pow_nonneg (by omega)
  rw[Int.pow_succ,hP];have h2:(cK n x+1)*P<=(10*n+10)*P:=Int.mul_le_mul_of_nonneg_right (by omega) hP0;have h3:(n+1)*(P*10)=(10*n+10)*P:=by rw[Int.mul_comm P 10,<-Int.mul_assoc];congr 1;omega
  omega
theorem tS {l:List UInt8} (h:(cP l).2=true):0<=(cP l).1/\(cP l).1<=999999:=by
 have h':ju l=true:=h;unfold ju at h';simp only[aal,decide_eq_true_eq] at h';obtain⟨h1,h2,h3,_⟩:=h';have h4:=tQ (l.take 6) 0 (λx hx=>aau.1 h1 x (List.mem_of_mem_take hx)) (by omega);have h5:(10:Int)^(l.take 6).length<=1000000:=by
  have e:(10:Int)^(l.take 6).length=((10^(l.take 6).length:Nat):Int):=by simp
  rw[e];have:10^(l.take 6).length<=10^6:=ac0 (by omega) (by rw[aa7];omega);omega
 show 0<=(l.take 6).foldl cK 0/\(l.take 6).foldl cK 0<=999999;omega
theorem F8 (a:Nat):dE false a 1=⟨false,a,1⟩:=by
 unfold dE;split
 ·rename_i h;rcases h with h|h
  ·rw[h]
  ·omega
 ·rw[Nat.gcd_one_right,Nat.div_one]
theorem Mp (neg:Bool) (a b:Nat):(dE neg a b).n<=a/\(dE neg a b).d<=max b 1:=by
 unfold dE;split
 ·exact⟨aaS _,by show 1<=_;omega⟩
 ·exact⟨Nat.div_le_self _ _,aao (Nat.div_le_self _ _) (by omega)⟩
theorem YR {l:List UInt8} {i:Nat} (hx:l[i]?=some 47) (h:∀j x,j<i->l[j]?=some x->x≠47):ij l=true/\dn l=l.take i/\cY l=l.drop (i+1):=by
 refine⟨?_,?_,?_⟩
 ·unfold ij;rw[List.contains_eq_mem];simpa using abL hx
 ·unfold dn;induction l generalizing i with
  | nil=>cases hx
  | cons y l ih=>
   cases i with
   | zero=>simp at hx;subst hx;simp
   | succ i=>
    have hy:=h 0 y (by omega) rfl;rw[List.takeWhile_cons,if_pos (by simpa using hy),List.take_succ_cons];congr 1
    exact ih (i:=i) (by simpa using hx) (λj x hj hx=>h (j+1) x (by omega) (by simpa using hx))
 ·unfold cY;induction l generalizing i with
  | nil=>cases hx
  | cons y l ih=>
   cases i with
   | zero=>simp at hx;subst hx;simp
   | succ i=>
    have hy:=h 0 y (by omega) rfl;rw[List.dropWhile_cons,if_pos (by simpa using hy),List.drop_succ_cons];exact ih (i:=i) (by simpa using hx) (λj x hj hx=>h (j+1) x (by omega) (by simpa using hx))
theorem YQ {l:List UInt8} (h:∀(j:Nat) (x:UInt8),l[j]?=some x->x≠47):ij l=false:=by
 unfold ij;rw[List.contains_eq_mem,decide_eq_false_iff_not];intro hm;obtain⟨j,hj,e⟩:=List.getElem_of_mem hm;exact h j _ (aaa hj) e
noncomputable def C5:gb Tryz.prog:=ci rQ [⟨_,_,_,mX⟩,⟨_,_,_,Wo⟩,⟨_,_,_,S4⟩,⟨_,_,_,Vy⟩] [⟨_,_,_,_,_,jy⟩,⟨_,_,_,_,_,qg⟩]
abbrev sRb:SS:=.box 28 [.d .bool,.d (.list .limb),.d (.list .limb)]
abbrev TM:=dZ [.d .bool,.d (.list .limb),.d (.list .limb)]
abbrev rkL:List (Nat×SS):=[(0,sN),(3,Kh),(4,sRb),(5,sS),(6,sI)]
abbrev rkO:List (Nat×SS):=[(0,sN),(3,Kh),(4,sRb)]
abbrev TJ:=LE rkL rkO [(0,sN)]
def V1 (x:fZ) (f:xW) (r:TM) (s:ByteArray) (i:Int):TJ:=.back (x,f,r,s,i,())
def tE (x:fZ) (f:xW) (r:TM):TJ:=.out (x,f,r,())
def tD (a:XV) (x:fZ):TJ:=.ret a (x,())
def rZ:XV:=.agg [.val (.bool false),.val (.slice none 0 0),.val (.slice none 0 0)]
def rk4 (x:fZ) (f:xW):T TJ:=.nd ((0:Int)≠4) (.lf (tD rZ (x.note 4 f.ln)))
def Ki (n:Int):kT:=QT (dE false n.toNat 1)
def rkD (x:fZ) (a b:Int):T TJ:=.nd (0<=a/\a<9223372036854775808) (.nd (0<=b/\b<9223372036854775808) (.nd (D1 (2^100) (Ki a)/\D1 (2^100) (Ki b)) (.nd (D1 4294967296 (QT (JK (tf (Ki a)) (tf (Ki b))))) (.lf (tD (aR (tf (QT (JK (tf (Ki a)) (tf (Ki b))))).raw) x)))))
def rkC (x:fZ) (f:xW) (r:TM) (p q:Int×Bool):T TJ:=.br (!p.2) (.lf (tE x f r)) (.br (!q.2) (.lf (tE x f r)) (.br (q.1==0) (rk4 x f) (.nd (bX (1000*p.1)) (.br (decide (1000*p.1<q.1)) (rk4 x f) (.nd (bX (2*p.1)) (.br (decide (2*p.1>q.1)) (rk4 x f) (rkD x p.1 q.1)))))))
def rkB (x:fZ) (f:xW) (r:TM) (s:ByteArray) (i:Int):T TJ:=.br (decide (i<s.size)) (.nd (0<=i/\i<s.size) (.br (!(((s.data.toList.getD i.toNat 0).toNat:Int)==47)) (.nd (bX (i+1)) (.lf (V1 x f r s (i+1))))
 (.nd ((0:Int)<=0/\0<=i/\i<=s.size) (.nd ((s.extract (Int.toNat 0) i.toNat).size<=9223372036854775807) (.nd (bX (i+1)) (.nd (0<=i+1/\i+1<=s.size/\(s.size:Int)<=s.size) (.nd ((s.extract (i+1).toNat (s.size:Int).toNat).size<=9223372036854775807) (rkC x f r (cP (s.extract (Int.toNat 0) i.toNat).data.toList) (cP (s.extract (i+1).toNat (s.size:Int).toNat).data.toList)))))))))
 (.lf (tE x f r))
def V0 (x:fZ) (f:xW) (r:TM) (l:List UInt8):T TJ:=.br (decide ((dK l).1=5)) (.lf (tE x f r)) (.br (decide ((dK l).1=4)) (.lf (tD rZ (x.note 4 f.ln))) (.lf (tD (aR (dK l).2) x)))
def rkN (l:List UInt8) (i:Int):Prop:=0<=i/\i<=l.length/\l.length<=9223372036854775807/\∀(j:Nat) (x:UInt8),j<i.toNat->l[j]?=some x->x≠47
theorem QE {x:fZ} {f:xW} {r:TM} {l p q:List UInt8} (hF:ij l=true) (hA:dn l=p) (hB:cY l=q) {z:TJ} (h:(V0 x f r l).hit z):(rkC x f r (cP p) (cP q)).hit z:=by
 have hr:dK l=if((cP p).2&&(cP q).2)=false then(5,⟨false,[],[]⟩) else if(cP q).1=0\/1000*(cP p).1<(cP q).1\/(cP q).1<2*(cP p).1 then(4,⟨false,[],[]⟩) else(0,(dE false (cP p).1.toNat (cP q).1.toNat).raw):=by
  unfold dK;rw[hF,hA,hB];simp
 unfold V0 at h;rw[hr] at h;have out:((cP p).2&&(cP q).2)=false->tE x f r=z:=λe=>by rw[if_pos e] at h;exact h.1 rfl
 have four:((cP p).2&&(cP q).2)=true->((cP q).1=0\/1000*(cP p).1<(cP q).1\/(cP q).1<2*(cP p).1)->(rk4 x f).hit z:=λe e2=>by
  rw[if_neg (by rw[e];simp),if_pos e2] at h;exact⟨by decide,(h.2 rfl).1 rfl⟩
 unfold rkC;cases hp:(cP p).2 with
 | false=>exact aH rfl (out (by rw[hp];rfl))
 | true=>
  refine aP rfl ?_;cases hq:(cP q).2 with
  | false=>exact aH rfl (out (by rw[hp,hq];rfl))
  | true=>
   have e:((cP p).2&&(cP q).2)=true:=by rw[hp,hq];rfl
   obtain⟨p0,p1⟩:=tS hp;obtain⟨q0,q1⟩:=tS hq;refine aP rfl ⟨λe0=>four e (.inl (beq_iff_eq.1 e0)),λe0=>⟨⟨by omega,by omega⟩,⟨λe1=>four e (.inr (.inl (of_decide_eq_true e1))),λe1=>⟨⟨by omega,by omega⟩,⟨λe2=>four e (.inr (.inr (of_decide_eq_true e2))),λe2=>?_⟩⟩⟩⟩⟩;have e0:=beq_eq_false_iff_ne.1 e0;have e1:=of_decide_eq_false e1;have e2:=of_decide_eq_false e2;rw[if_neg (by rw[e];simp),if_neg (by omega)] at h;have h:=(h.2 rfl).2 rfl;have h:tD (aR (dE false (cP p).1.toNat (cP q).1.toNat).raw) x=z:=h;subst h;have u:∀n:Int,tf (Ki n)=⟨false,n.toNat,1⟩:=λn=>by unfold Ki;rw[qh,F8]
   have ok:∀(n:Int) (m:Nat),n.toNat<m->1<m->D1 m (Ki n):=λn m h h1=>by
    unfold D1;rw[u];exact⟨by unfold Ki;rw[F8],h,h1⟩
   have hd:JK (tf (Ki (cP p).1)) (tf (Ki (cP q).1))=dE false (cP p).1.toNat (cP q).1.toNat:=by
    rw[u,u];unfold JK;simp
   have wn:=Mp false (cP p).1.toNat (cP q).1.toNat;refine⟨⟨p0,by omega⟩,⟨q0,by omega⟩,⟨ok _ _ (by omega) (by omega),ok _ _ (by omega) (by omega)⟩,?_,?_⟩
   ·rw[hd];unfold D1;rw[qh];exact⟨rfl,by omega,by omega⟩
   ·rw[hd,qh];rfl
theorem QF:eD (JG C5 Tryz.f154 pN) 0 0 rkL rkO [(0,sN)] λ((x:fZ),(f:xW),(r:TM),(s:ByteArray),(i:Int),_)=>.nd (rkN s.data.toList i) (V0 x f r s.data.toList):=by
 refine eI _ (nL _ _) 99 0 0 rkL rkO [(0,sN)] (λ((x:fZ),(f:xW),(r:TM),(s:ByteArray),(i:Int),_)=>rkB x f r s i) (λ(_,_,_,(s:ByteArray),(i:Int),_)=>s.size-i.toNat) ?_;rintro⟨(x:fZ),(f:xW),(r:TM),(s:ByteArray),(i:Int),_⟩ z _ ⟨⟨h0,h1,h2,h3⟩,h⟩;have bm:s.data.toList.length=s.size:=aaD;obtain⟨k,rfl⟩:∃k:Nat,i=k:=⟨i.toNat,by omega⟩;show∃q,(rkB x f r s k).hit q/\_;unfold rkB;by_cases hk:k<s.size
 ·have hx:s.data.toList[k]?=some (s.data.toList.getD k 0):=by rw[aac,aaa (by omega)];rfl
  by_cases hc:s.data.toList.getD k 0=47
  ·obtain⟨c1,c2,c3⟩:=YR (l:=s.data.toList) (i:=k) (by rw[hx,hc]) h3;have e1:(s.extract (Int.toNat 0) (k:Int).toNat)=⟨(s.data.toList.take k).toArray⟩:=pw s k;have e2:(s.extract ((k:Int)+1).toNat (s.size:Int).toNat)=⟨(s.data.toList.drop (k+1)).toArray⟩:=extract_drop s (k+1);refine⟨z,aH (decide_eq_true (by omega)) ⟨⟨by omega,by omega⟩,aP (by rw[aae,hc];rfl) ⟨⟨by omega,by omega,by omega⟩,?_,⟨by omega,by omega⟩,⟨by omega,by omega,by omega⟩,?_,QE c1 ?_ ?_ h⟩⟩,?_⟩
   ·rw[e1];show(List.take k s.data.toList).toArray.size<=_;rw[aa5,aa7];omega
   ·rw[e2];show(List.drop (k+1) s.data.toList).toArray.size<=_;rw[aa5,acP];omega
   ·rw[c2,e1]
   ·rw[c3,e2]
   ·have h:(V0 x f r s.data.toList).hit z:=h;unfold V0 at h;rcases hB h with⟨_,h⟩|⟨_,h⟩
    ·obtain rfl:tE x f r=z:=h;rfl
    ·rcases hB h with⟨_,h⟩|⟨_,h⟩
     ·obtain rfl:tD rZ (x.note 4 f.ln)=z:=h;rfl
     ·obtain rfl:tD (aR (dK s.data.toList).2) x=z:=h;rfl
  ·refine⟨_,aH (decide_eq_true (by omega)) ⟨⟨by omega,by omega⟩,aH ?_ ⟨⟨by omega,by omega⟩,rfl⟩⟩,?_,⟨by omega,by omega,h2,λj y hj hy=>?_⟩,h⟩
   ·rw[aae,aci,beq_eq_false_iff_ne];intro e;exact hc (UInt8.toNat_inj.1 (by have:(47:UInt8).toNat=47:=rfl;omega))
   ·show s.size-(k+1)<s.size-k;omega
   ·by_cases uz:j=k
    ·subst uz;rw[hx] at hy;exact aad hy▸hc
    ·exact h3 j y (by omega) hy
 ·refine⟨z,aP (decide_eq_false (by omega)) ?_,?_⟩
  all_goals
   have Jm:ij s.data.toList=false:=YQ λj y hy=>h3 j y (by have:=(aab.1 hy).1;omega) hy;have h:(V0 x f r s.data.toList).hit z:=h;have h5:(dK s.data.toList).1=5:=by unfold dK;rw[if_pos (.inl Jm)]
   unfold V0 at h;have h:=h.1 (decide_eq_true h5);obtain rfl:tE x f r=z:=h;rfl
theorem LC (l:List UInt8):(dK l).1=5\/(dK l).1=4\/(dK l).1=0:=by
 unfold dK;split
 ·exact .inl rfl
 ·split
  ·exact .inr (.inl rfl)
  ·exact .inr (.inr rfl)
def rZs:XV:=.agg [.sym (.bool false),.val (.slice none 0 0),.val (.slice none 0 0)]
def CN (f:ao):List UInt8:=(bc f.vals).data.toList
theorem LB:fk Tryz.prog 154 pN [(0,sN),(1,sF)] [(0,sN)] λ((x:fZ),(f:ao),_)=>.nd ((bc f.vals).size<=9223372036854775807) (.br (decide ((dK (CN f)).1=0)) (.lf (an (aR (dK (CN f)).2) (x.note (jM f.vals) f.line))) (.lf (an rZs (x.note (jM f.vals) f.line)))):=by
 refine jA (C:=C5) (pb:=pN) ((nL _ _).add 0 _ QF) 99 [(0,sN),(1,sF)] [(0,sN)] (λ((x:fZ),(f:ao),_)=>.nd (rkN (CN f) 0) (.br (decide ((dK (CN f)).1=5)) (.nd ((0:Int)≠5) (.lf (an rZs ((x.note (cT f.vals) f.line).note 5 f.line)))) (.br (decide ((dK (CN f)).1=4)) (.lf (an rZs ((x.note (cT f.vals) f.line).note 4 f.line))) (.lf (an (aR (dK (CN f)).2) (x.note (cT f.vals) f.line)))))) ?_ Tryz.func154;rintro⟨(x:fZ),(f:ao),_⟩ r _ ⟨hs,h⟩;refine⟨⟨by omega,by omega,by have:(CN f).length=(bc f.vals).size:=aaD;omega,λj y hj=>absurd hj (Nat.not_lt_zero _)⟩,?_⟩;have h0:f.vals.length≠1->(dK (CN f)).1=5:=λe=>by unfold CN bc;rw[if_pos e];rfl
 have hc:∀c,(dK (CN f)).1=c->(if cT f.vals=0 then c else cT f.vals)=jM f.vals:=λc e=>by
  unfold jM cT;by_cases hv:f.vals.length≠1
  ·rw[if_pos hv,if_pos hv];rfl
  ·rw[if_neg hv,if_neg hv,if_pos rfl];exact e.symm
 rcases LC (CN f) with e|e|e
 ·have h:=h.2 (by rw[e];rfl);obtain rfl:an rZs (x.note (jM f.vals) f.line)=r:=h;exact aH (by rw[e];rfl) ⟨by decide,Cu (hc 5 e)⟩
 ·have h:=h.2 (by rw[e];rfl);obtain rfl:an rZs (x.note (jM f.vals) f.line)=r:=h;exact aP (by rw[e];rfl) (aH (by rw[e];rfl) (Cu (hc 4 e)))
 ·have h:=h.1 (by rw[e];rfl);obtain rfl:an (aR (dK (CN f)).2) (x.note (jM f.vals) f.line)=r:=h;refine aP (by rw[e];rfl) (aP (by rw[e];rfl) (Ka ?_));have:=hc 0 e;by_cases hv:f.vals.length=1
  ·rw[<-this];split
   ·assumption
   ·rfl
  ·have:=h0 hv;omega
noncomputable def C6:gb Tryz.prog:=ci rQ [] [⟨_,_,_,_,_,M8⟩,⟨_,_,_,_,_,ud⟩,⟨_,_,_,_,_,LB⟩,⟨_,_,_,_,_,An⟩]
abbrev stM:List CS:=[.d .str,.d tI,.d tI,.d tI,.d (.list .str),.any,.any,.d tI,.d tI,.d .bool,.d (.list .limb),.d (.list .limb),.d tI,.d .str,.any,.any,.any,.d tI,.d tI]
abbrev sM:SS:=.box 118 stM
abbrev pM:List Nat:=[0,1,2,3,4,5]
abbrev StM:=dZ stM
def StM.f (x:StM):Int×Int:=(x.2.2.2.2.2.2.2.2.2.2.2.2.2.2.2.2.2.1,x.2.2.2.2.2.2.2.2.2.2.2.2.2.2.2.2.2.2.1)
def StM.setF (x:StM) (p:Int×Int):StM:=(x.1,x.2.1,x.2.2.1,x.2.2.2.1,x.2.2.2.2.1,x.2.2.2.2.2.1,x.2.2.2.2.2.2.1,x.2.2.2.2.2.2.2.1,x.2.2.2.2.2.2.2.2.1,x.2.2.2.2.2.2.2.2.2.1,x.2.2.2.2.2.2.2.2.2.2.1,x.2.2.2.2.2.2.2.2.2.2.2.1,x.2.2.2.2.2.2.2.2.2.2.2.2.1,x.2.2.2.2.2.2.2.2.2.2.2.2.2.1,x.2.2.2.2.2.2.2.2.2.2.2.2.2.2.1,x.2.2.2.2.2.2.2.2.2.2.2.2.2.2.2.1,x.2.2.2.2.2.2.2.2.2.2.2.2.2.2.2.2.1,p.1,p.2,())
def StM.note (x:StM) (no line:Int):StM:=x.setF (nt x.f no line)
abbrev Cv (r:XV) (x:StM):XV×StM×Unit:=(r,x,())
abbrev SRM:=XV×StM×Unit
namespace StM
def dots (x:StM) (v:Int):StM:=(x.1,v,x.2.2)
def blank (x:StM) (v:Int):StM:=(x.1,x.2.1,v,x.2.2.2)
def marked (x:StM) (v:Int):StM:=(x.1,x.2.1,x.2.2.1,v,x.2.2.2.2)
def prec (x:StM) (v:List ByteArray):StM:=(x.1,x.2.1,x.2.2.1,x.2.2.2.1,v,x.2.2.2.2.2)
def scan (x:StM) (v:Int):StM:=(x.1,x.2.1,x.2.2.1,x.2.2.2.1,x.2.2.2.2.1,x.2.2.2.2.2.1,x.2.2.2.2.2.2.1,v,x.2.2.2.2.2.2.2.2)
def batch (x:StM) (v:Int):StM:=(x.1,x.2.1,x.2.2.1,x.2.2.2.1,x.2.2.2.2.1,x.2.2.2.2.2.1,x.2.2.2.2.2.2.1,x.2.2.2.2.2.2.2.1,v,x.2.2.2.2.2.2.2.2.2)
def risk (x:StM) (v:Raw):StM:=(x.1,x.2.1,x.2.2.1,x.2.2.2.1,x.2.2.2.2.1,x.2.2.2.2.2.1,x.2.2.2.2.2.2.1,x.2.2.2.2.2.2.2.1,x.2.2.2.2.2.2.2.2.1,v.neg,v.num,v.den,x.2.2.2.2.2.2.2.2.2.2.2.2)
def cell (x:StM) (v:Int):StM:=(x.1,x.2.1,x.2.2.1,x.2.2.2.1,x.2.2.2.2.1,x.2.2.2.2.2.1,x.2.2.2.2.2.2.1,x.2.2.2.2.2.2.2.1,x.2.2.2.2.2.2.2.2.1,x.2.2.2.2.2.2.2.2.2.1,x.2.2.2.2.2.2.2.2.2.2.1,x.2.2.2.2.2.2.2.2.2.2.2.1,v,x.2.2.2.2.2.2.2.2.2.2.2.2.2)
def seed (x:StM) (v:ByteArray):StM:=(x.1,x.2.1,x.2.2.1,x.2.2.2.1,x.2.2.2.2.1,x.2.2.2.2.2.1,x.2.2.2.2.2.2.1,x.2.2.2.2.2.2.2.1,x.2.2.2.2.2.2.2.2.1,x.2.2.2.2.2.2.2.2.2.1,x.2.2.2.2.2.2.2.2.2.2.1,x.2.2.2.2.2.2.2.2.2.2.2.1,x.2.2.2.2.2.2.2.2.2.2.2.2.1,v,x.2.2.2.2.2.2.2.2.2.2.2.2.2.2)
end StM
def qI (x:StM) (kind:ByteArray) (f:ao):StM:=
 if cw kind f.key=cw bR il then(x.note (pX f.vals 2 7) f.line).dots (kV f.vals)
 else if cw kind f.key=cw bR ct then(x.note (pX f.vals 1 100) f.line).blank (kV f.vals)
 else if cw kind f.key=cw bR bF then(x.note (pX f.vals 1 100) f.line).marked (kV f.vals)
 else if cw kind f.key=cw aO fq then(x.note (pX f.vals 1 6) f.line).scan (kV f.vals)
 else if cw kind f.key=cw aO fu then(x.note (pX f.vals 1 16) f.line).batch (kV f.vals)
 else if cw kind f.key=cw af ed then(x.note (dc f.vals 12) f.line).prec f.vals
 else if cw kind f.key=cw bG dP then(x.note (jM f.vals) f.line).risk (dK (CN f)).2
 else if cw kind f.key=cw bG gm then(x.note (ma f.vals) f.line).seed (bc f.vals)
 else if cw kind f.key=cw bo im then(x.note (pX f.vals 1 400) f.line).cell (kV f.vals)
 else x
def jn (a b:ByteArray):ByteArray:=⟨(cw a b).toArray⟩
def MY (k key a b:ByteArray):Bool:=(k++⟨#[32]⟩++key).toList==(jn a b).toList
theorem lj {k key a b:ByteArray}:cw k key=cw a b↔MY k key a b=true:=by
 unfold MY;rw[xZ];constructor
 ·intro h;refine ByteArray.ext (Array.ext' ?_);simpa[cw,jn] using h
 ·intro h;have:=congrArg (λb=>b.data.toList) h;simpa[cw,jn] using this
def fdV (x:StM) (f:ao) (c:Int) (g:StM->StM):T SRM:=.nd ((bc f.vals).size<=9223372036854775807) (.lf (Cv (.tup []) (g (x.note c f.line))))
def fdI (x:StM) (f:ao) (lo hi:Int) (g:StM->Int->StM):T SRM:=fdV x f (pX f.vals lo hi) λy=>g y (kV f.vals)
def fdB (x:StM) (k:ByteArray) (f:ao):T SRM:=.nd (k.size+(⟨#[32]⟩:ByteArray).size<=9223372036854775807) (.nd ((k++⟨#[32]⟩).size+f.key.size<=9223372036854775807)
 (.br (MY k f.key bR il) (fdI x f 2 7 .dots) (.br (MY k f.key bR ct) (fdI x f 1 100 .blank) (.br (MY k f.key bR bF) (fdI x f 1 100 .marked)
 (.br (MY k f.key aO fq) (fdI x f 1 6 .scan) (.br (MY k f.key aO fu) (fdI x f 1 16 .batch)
 (.br (MY k f.key af ed) (.nd (Dr f.vals/\(0:Int)<=12/\f.vals.length<=1099511627776) (.lf (Cv (.tup []) ((x.note (dc f.vals 12) f.line).prec f.vals))))
 (.br (MY k f.key bG dP) (.nd ((bc f.vals).size<=9223372036854775807) (.br (decide ((dK (CN f)).1=0)) (.lf (Cv (.tup []) ((x.note (jM f.vals) f.line).risk (dK (CN f)).2))) (.lf (Cv (.tup []) ((x.note (jM f.vals) f.line).risk ⟨false,[],[]⟩)))))
 (.br (MY k f.key bG gm) (fdV x f (ma f.vals) λy=>y.seed (bc f.vals))
 (.br (MY k f.key bo im) (fdI x f 1 400 .cell) (.lf (Cv (.tup []) x))))))))))))
def Jy (k:ByteArray) (f:ao):Prop:=fOk f/\k.size<=1152921504606846976/\f.key.size<=1152921504606846976
theorem Jw:fk Tryz.prog 114 pM [(0,sM),(1,sS),(2,sF)] [(0,sM)] λ((x:StM),(k:ByteArray),(f:ao),_)=>.nd (Jy k f) (.lf (Cv (.tup []) (qI x k f))):=by
 refine jA (C:=C6) (pb:=pM) (nL _ _) 99 [(0,sM),(1,sS),(2,sF)] [(0,sM)] (λ((x:StM),(k:ByteArray),(f:ao),_)=>fdB x k f) ?_ Tryz.func114;rintro⟨(x:StM),(k:ByteArray),(f:ao),_⟩ r _ ⟨⟨⟨h1,h2⟩,h3,h4⟩,hr⟩;obtain rfl:Cv (.tup []) (qI x k f)=r:=hr;have hv:=zZ h1;have ho:∀c g,(fdV x f c g).hit (Cv (.tup []) (g (x.note c f.line))):=λc g=>⟨hv,rfl⟩;have e1:(⟨#[32]⟩:ByteArray).size=1:=rfl;refine⟨by omega,by rw[ByteArray.size_append];omega,?_⟩;unfold qI;refine i7 (F:=Cv (.tup [])) lj (ho _ _) (i7 (F:=Cv (.tup [])) lj (ho _ _) (i7 (F:=Cv (.tup [])) lj (ho _ _) (i7 (F:=Cv (.tup [])) lj (ho _ _) (i7 (F:=Cv (.tup [])) lj (ho _ _) (i7 (F:=Cv (.tup [])) lj ⟨⟨h1,by decide,h2⟩,rfl⟩ (i7 (F:=Cv (.tup [])) lj ⟨hv,?_⟩ (i7 (F:=Cv (.tup [])) lj (ho _ λy=>y.seed (bc f.vals)) (i7 (F:=Cv (.tup [])) lj (ho _ _) rfl))))))));refine⟨λ_=>rfl,λe=>?_⟩;have:(dK (CN f)).2=⟨false,[],[]⟩:=by
  have e:=of_decide_eq_false e
  revert e
  unfold dK;split
  ·exact λ_=>rfl
  ·split
   ·exact λ_=>rfl
   ·exact λe=>absurd rfl e
 rw[this];rfl
end Go.Proofs.YtdbpbfglhbiadaaGreatDoor
